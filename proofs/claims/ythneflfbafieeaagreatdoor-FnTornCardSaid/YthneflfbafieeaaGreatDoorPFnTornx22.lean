-- written by a program of this session (wip/tool)
import Derived.Test.YthneflfbafieeaaGreatDoorPFnTornx7
import Derived.Test.YthneflfbafieeaaGreatDoorPFnTornx9
import Derived.Test.YthneflfbafieeaaGreatDoorPFnTornx0
import Derived.Test.YthneflfbafieeaaGreatDoorPFnTornx10
import Derived.Test.YthneflfbafieeaaGreatDoorPFnTornx11
import Derived.Test.YthneflfbafieeaaGreatDoorPFnTornx12
import Derived.Test.YthneflfbafieeaaGreatDoorPFnTornx14
import Derived.Test.YthneflfbafieeaaGreatDoorPFnTornx20
import Derived.Test.YthneflfbafieeaaGreatDoorVOwn0
import Derived.Test.YthneflfbafieeaaGreatDoorVOwnOpen
import Derived.WalkKit
import Derived.BigCall
import Derived.Test.YthneflfbafieeaaGreatDoorOwnTr
import Derived.Test.YthneflfbafieeaaGreatDoorVOwnShort
import Derived.Test.YthneflfbafieeaaGreatDoorOwnSq
namespace Go.Proofs.YthneflfbafieeaaGreatDoor.PFnTorn
open Go.RowKit Go.Proofs.YthneflfbafieeaaGreatDoorW.PrintWords Go.Proofs.YthneflfbafieeaaGreatDoorW.PrintLast Go.Proofs.YthneflfbafieeaaGreatDoorW.PrintMore Go.Shelf Go.Proofs.YthneflfbafieeaaGreatDoorOwn
attribute [local go_sem] max2_int min2_int max_two min_two max_three min_three max_four min_four   -- for this text's walks alone
set_option linter.unusedVariables false
set_option linter.unusedSimpArgs false

/-! ### impl_requestLine: function 49 -/
def impl_requestLine.f (a0_0 : ByteArray) (a0_1 : ByteArray) (l0_2 : List (S75)) (a0_3 : ByteArray) : Option (ByteArray) := if a0_0.size + 1 ≤ 9223372036854775807 then (if (a0_0 ++ (⟨#[32]⟩ : ByteArray)).size + a0_1.size ≤ 9223372036854775807 then (if ((a0_0 ++ (⟨#[32]⟩ : ByteArray)) ++ a0_1).size + 9 ≤ 9223372036854775807 then (some (((a0_0 ++ (⟨#[32]⟩ : ByteArray)) ++ a0_1) ++ (⟨#[32, 72, 84, 84, 80, 47, 49, 46, 49]⟩ : ByteArray))) else (none)) else (none)) else (none)
set_option maxHeartbeats 8000000 in
set_option maxRecDepth 100000 in
theorem impl_requestLine.calls (a0_0 : ByteArray) (a0_1 : ByteArray) (A0_2 : Option Addr) (c0_2 : Nat) (l0_2 : List (S75)) (a0_3 : ByteArray) (r : ByteArray) (w : World) (hr0_2 : Kd.C k75 w A0_2 l0_2.length l0_2) (hc0_2 : l0_2.length ≤ c0_2) (h : impl_requestLine.f a0_0 a0_1 l0_2 a0_3 = some r) :
  Calls Tryz.prog 49 #[.agg #[.string a0_0, .string a0_1, .slice A0_2 l0_2.length c0_2, .string a0_3]] w fun e w' => e = .returned (.string r) ∧ Below w.heap.size w w' := by
 have hu24 := Tryz.underlying24
 have HR0_2 := ak hr0_2
 have HC0_2 := ak hc0_2
 clear hr0_2 hc0_2
 have HB := ak (Below.refl w.heap.size w)
 have H : (if a0_0.size + 1 ≤ 9223372036854775807 then (if (a0_0 ++ (⟨#[32]⟩ : ByteArray)).size + a0_1.size ≤ 9223372036854775807 then (if ((a0_0 ++ (⟨#[32]⟩ : ByteArray)) ++ a0_1).size + 9 ≤ 9223372036854775807 then (some (((a0_0 ++ (⟨#[32]⟩ : ByteArray)) ++ a0_1) ++ (⟨#[32, 72, 84, 84, 80, 47, 49, 46, 49]⟩ : ByteArray))) else (none)) else (none)) else (none)) = some r := h
 clear h
 by_cases c2 : a0_0.size + 1 ≤ 9223372036854775807
 ·rw [if_pos c2] at H
  have c2b0 := eq_true c2
  have c2b1 : decide (a0_0.size + 1 ≤ 9223372036854775807) = true := decide_eq_true c2
  try have c2b2 : (9223372036854775807 < a0_0.size + 1) = False := eq_false (Nat.not_lt.2 c2)
  by_cases c3 : (a0_0 ++ (⟨#[32]⟩ : ByteArray)).size + a0_1.size ≤ 9223372036854775807
  ·rw [if_pos c3] at H
   have c3b0 := eq_true c3
   have c3b1 : decide ((a0_0 ++ (⟨#[32]⟩ : ByteArray)).size + a0_1.size ≤ 9223372036854775807) = true := decide_eq_true c3
   try have c3b2 : (9223372036854775807 < (a0_0 ++ (⟨#[32]⟩ : ByteArray)).size + a0_1.size) = False := eq_false (Nat.not_lt.2 c3)
   try have c3b3 : (9223372036854775807 < a0_0.size + 1 + a0_1.size) = False := by (have h_ := c3b2; simp only [ByteArray.size_append] at h_; exact h_)
   by_cases c4 : ((a0_0 ++ (⟨#[32]⟩ : ByteArray)) ++ a0_1).size + 9 ≤ 9223372036854775807
   ·rw [if_pos c4] at H
    have c4b0 := eq_true c4
    have c4b1 : decide (((a0_0 ++ (⟨#[32]⟩ : ByteArray)) ++ a0_1).size + 9 ≤ 9223372036854775807) = true := decide_eq_true c4
    try have c4b2 : (9223372036854775807 < ((a0_0 ++ (⟨#[32]⟩ : ByteArray)) ++ a0_1).size + 9) = False := eq_false (Nat.not_lt.2 c4)
    try have c4b3 : (9223372036854775807 < a0_0.size + 1 + a0_1.size + 9) = False := by (have h_ := c4b2; simp only [ByteArray.size_append] at h_; exact h_)
    obtain rfl := Option.some.inj H
    go_enter Tryz.func49, Tryz.ntmps49
    go_wp2_with (first | ((with_reducible refine gd 1 ?_); refine bE 1 #[.string a0_0, .string a0_1, .slice A0_2 l0_2.length c0_2, .string a0_3] 24 ?_; intro gb483 hg w5 hbox hb; have BK483 := ak hbox; have GW483 := gs hg (bl HB.out); have GE483 := gs hg (bl HB.out); replace HB := ak (below_step (bl HB.out) hb); clear hb hbox hg; obtain ⟨hcz6_0, hcz6_1, hcz6_2, hcz6_3, hfz6_0, hfz6_1, hfz6_2, hfz6_3⟩ := b4 BK483.out))
    go_ret
    exact ⟨by first | rfl | (simp [errW_none, errW_some] <;> rfl) | (simp [*, errW_none, errW_some] <;> rfl), bl1 HB.out GE483.out⟩
   ·rw [if_neg c4] at H
    exact absurd H (by simp)
  ·rw [if_neg c3] at H
   exact absurd H (by simp)
 ·rw [if_neg c2] at H
  exact absurd H (by simp)

-- NOT PRINTED: function 170 (impl_Field_170)

-- NOT PRINTED: function 157 (impl_Field_157)

-- NOT PRINTED: function 158 (impl_Field_1)

-- NOT PRINTED: function 137 (impl_Field_137)

/-! ### areAll, function 137, at any predicate -/
set_option maxHeartbeats 800000 in
theorem areAll_g137.neg (h : Nat) (p : S75 → Option Bool) (hp : PredOk Tryz.prog h (fun x : S75 => Value.agg #[.string x.f0, .string x.f1]) p) (eg : ∀ args w, (callFunc h args).run Tryz.prog w = .ok (.enter h args) w)
  (x : S75) (r : Bool) (b : Nat) (w : World) (hb : b < w.heap.size) (hc : w.cell? ⟨b, 0, none⟩ = some (.func (.func h) #[] #[])) (hx : p x = some r) :
  Calls Tryz.prog 158 #[.agg #[.string x.f0, .string x.f1], .pointer (some ⟨b, 0, none⟩)] w fun e w' => e = .returned (.bool (!r)) ∧ Below w.heap.size w w' := by
 have hh := hp x r
 clear hp
 go_enter Tryz.func158, Tryz.ntmps158
 go_wp2_with (go_at_fn h; refine (hh _ hx).mono ?_; rintro e w' ⟨rfl, hb'⟩)
 go_ret
 exact ⟨rfl, below_then (below_alloc (Below.refl _ _) _) (by simp) hb'⟩
set_option maxHeartbeats 800000 in
theorem areAll_g137.idx (h : Nat) (p : S75 → Option Bool) (hp : PredOk Tryz.prog h (fun x : S75 => Value.agg #[.string x.f0, .string x.f1]) p) (eg : ∀ args w, (callFunc h args).run Tryz.prog w = .ok (.enter h args) w)
  (eg90 : ∀ args w, (callFunc 158 args).run Tryz.prog w = .ok (.enter 158 args) w)
  (A : Option Addr) (c : Nat) (l : List S75) (r : Int) (b : Nat) (w : World) (hr : Kd.C k75 w A l.length l) (hb : b < w.heap.size) (hcb : w.cell? ⟨b, 0, none⟩ = some (.func (.func h) #[] #[])) (hx : idxO p l 0 = some r) :
  Calls Tryz.prog 170 #[.slice A l.length c, .func (.func 158) #[] #[.pointer (some ⟨b, 0, none⟩)]] w fun e w' => e = .returned (.int .i64 r) ∧ Below w.heap.size w w' := by
 have hm := Kd.C_max hr
 have HX := ak hx
 have HP := ak hp
 have HR := ak hr
 have HC := ak hcb
 have EG := ak eg
 clear hx hp hr hcb eg
 go_enter Tryz.func170, Tryz.ntmps170
 go_wp2
 go_loopg [5, 8] l.length (fun gg _ s8 wr => ∃ j : Nat, j ≤ l.length ∧ l.length - j ≤ gg ∧ s8 = .int .i64 j ∧ Aside0 (Below w.heap.size w wr) ∧ Aside0 (idxO p (l.drop j) j = some r))
 case atStart => exact ⟨0, Nat.zero_le _, by omega, rfl, ⟨Below.refl _ w⟩, ⟨HX.out⟩⟩
 case round =>
  obtain ⟨j, hj, hg, rfl, BW, HA⟩ := hrel
  by_cases hlt : j < l.length
  ·have hlt' : (j : Int) < (l.length : Int) := by omega
   have h0 : (0 : Int) ≤ (j : Int) := by omega
   obtain ⟨bo, hbo, hy, hn⟩ := idxO_step p l z75 j hlt r HA.out
   obtain ⟨ad, ea, hx0, hx1⟩ := at_T75 (Kd.C_below HR.out BW.out) (j : Int) h0 hlt'
   cases ea
   simp only [Int.toNat_natCast] at hx0 hx1
   have hc2 := (BW.out.cell (p := ⟨b, 0, none⟩) hb).trans HC.out
   have hbw : w.heap.size ≤ wr.heap.size := BW.out.size
   rw [show rd_T75 l (j : Int) = l.getD j z75 from rfl] at hx0 hx1
   generalize l.getD j z75 = y at hbo hx0 hx1
   have hcall := areAll_g137.neg h p HP.out EG.out y bo b wr (by omega) hc2 hbo
   have HY := ak hy
   have HN := ak hn
   have HC2 := ak hcall
   clear hy hn hbo hcall hc2
   cases bo with
   | true =>
    go_wp2_with (go_at_fn 158; refine HC2.out.mono ?_; rintro e w' ⟨rfl, hb'⟩)
    go_roundg (l.length - (j + 1))
    case measure => omega
    case rel => exact ⟨j + 1, by omega, by omega, by go_num, ⟨below_then BW.out hbw hb'⟩, ⟨HY.out (by simp)⟩⟩
   | false =>
    go_wp2_with (go_at_fn 158; refine HC2.out.mono ?_; rintro e w' ⟨rfl, hb'⟩)
    go_ret
    exact ⟨congrArg (fun z => Ending.returned (.int .i64 z)) (HN.out (by simp)).symm, below_then BW.out hbw hb'⟩
  ·have hlt' : ¬ (j : Int) < (l.length : Int) := by omega
   have : j = l.length := by omega
   subst this
   have HA2 := HA.out
   rw [List.drop_length] at HA2
   simp only [idxO, Option.some.injEq] at HA2
   have HA3 := ak HA2
   clear HA2
   go_wp2
   go_ret
   exact ⟨congrArg (fun z => Ending.returned (.int .i64 z)) HA3.out, BW.out⟩
set_option maxHeartbeats 800000 in
theorem areAll_g137.has (h : Nat) (p : S75 → Option Bool) (hp : PredOk Tryz.prog h (fun x : S75 => Value.agg #[.string x.f0, .string x.f1]) p) (eg : ∀ args w, (callFunc h args).run Tryz.prog w = .ok (.enter h args) w)
  (eg90 : ∀ args w, (callFunc 158 args).run Tryz.prog w = .ok (.enter 158 args) w)
  (A : Option Addr) (c : Nat) (l : List S75) (r : Bool) (b : Nat) (w : World) (hr : Kd.C k75 w A l.length l) (hb : b < w.heap.size) (hcb : w.cell? ⟨b, 0, none⟩ = some (.func (.func h) #[] #[])) (hx : allO p l = some r) :
  Calls Tryz.prog 157 #[.slice A l.length c, .func (.func 158) #[] #[.pointer (some ⟨b, 0, none⟩)]] w fun e w' => e = .returned (.bool (!r)) ∧ Below w.heap.size w w' := by
 obtain ⟨i, hi, h1, h2⟩ := allO_idx p l r hx 0
 have hcall := fun W hr hb hcb => areAll_g137.idx h p hp eg eg90 A c l i b W hr hb hcb hi
 have HC := ak hcall
 have HR := ak hr
 have HB := ak hcb
 have EG := ak eg
 clear hcall hr hp hx hi hcb eg
 cases r with
 | true =>
  obtain rfl := h1 rfl
  clear h1 h2
  go_enter Tryz.func157, Tryz.ntmps157
  go_wp2_with (go_at_call 170; refine (HC.out _ HR.out hb HB.out).mono ?_; rintro e w' ⟨rfl, hb'⟩)
  go_ret
  exact ⟨rfl, hb'⟩
 | false =>
  have h3 := h2 rfl
  have h4 : decide (0 ≤ i) = true := decide_eq_true h3
  clear h1 h2
  go_enter Tryz.func157, Tryz.ntmps157
  go_wp2_with (go_at_call 170; refine (HC.out _ HR.out hb HB.out).mono ?_; rintro e w' ⟨rfl, hb'⟩)
  go_ret
  exact ⟨rfl, hb'⟩
set_option maxHeartbeats 800000 in
theorem areAll_g137.all (h : Nat) (p : S75 → Option Bool) (hp : PredOk Tryz.prog h (fun x : S75 => Value.agg #[.string x.f0, .string x.f1]) p) (eg : ∀ args w, (callFunc h args).run Tryz.prog w = .ok (.enter h args) w)
  (A : Option Addr) (c : Nat) (l : List S75) (r : Bool) (w : World) (hr : Kd.C k75 w A l.length l) (hx : allO p l = some r) :
  Calls Tryz.prog 137 #[.slice A l.length c, .func (.func h) #[] #[]] w fun e w' => e = .returned (.bool r) ∧ Below w.heap.size w w' := by
 have eg90 : ∀ args w, (callFunc 158 args).run Tryz.prog w = .ok (.enter 158 args) w := enters_of Tryz.func158 (by kernel_rfl) rfl
 have hcall := fun W b hr hb hcb => areAll_g137.has h p hp eg eg90 A c l r b W hr hb hcb hx
 have HC := ak hcall
 have HR := ak hr
 have EG := ak eg
 clear hcall hr hp hx eg
 go_enter Tryz.func137, Tryz.ntmps137
 go_wp2_with (go_at_call 157; refine (HC.out _ _ (Kd.C_alloc HR.out _) (by simp) (by simp)).mono ?_; rintro e w' ⟨rfl, hb'⟩)
 go_ret
 exact ⟨rfl, below_then (below_alloc (Below.refl _ _) _) (by simp) hb'⟩

/-! ### impl_Field__124: function 137 at the predicate 124 -/
def impl_Field__124.f (l0 : List (S75)) : Option Bool := allO (fun x => impl_GoodField.f x.f0 x.f1) l0
theorem impl_Field__124.calls (A0 : Option Addr) (c0 : Nat) (l0 : List (S75)) (r : Bool) (w : World) (hr0 : Kd.C k75 w A0 l0.length l0) (hc0 : l0.length ≤ c0) (h : impl_Field__124.f l0 = some r) :
  Calls Tryz.prog 137 #[.slice A0 l0.length c0, .func (.func 124) #[] #[]] w fun e w' => e = .returned (.bool r) ∧ Below w.heap.size w w' := by
 refine areAll_g137.all 124 (fun x => impl_GoodField.f x.f0 x.f1) (fun x r w h => ?_) (enters_of Tryz.func124 (by kernel_rfl) rfl) A0 c0 l0 r w hr0 h
 refine (impl_GoodField.calls x.f0 x.f1 r w h).mono ?_
 rintro e w' ⟨rfl, hb⟩
 exact ⟨rfl, hb⟩

/-! ### impl_areFields: function 112 -/
def impl_areFields.f (l0 : List (S75)) : Option (Bool) := if (l0.length : Int) ≤ 40 then ((impl_Field__124.f l0).bind fun t484 => (some t484)) else (some false)
set_option maxHeartbeats 8000000 in
set_option maxRecDepth 100000 in
theorem impl_areFields.calls (A0 : Option Addr) (c0 : Nat) (l0 : List (S75)) (r : Bool) (w : World) (hr0 : Kd.C k75 w A0 l0.length l0) (hc0 : l0.length ≤ c0) (h : impl_areFields.f l0 = some r) :
  Calls Tryz.prog 112 #[.slice A0 l0.length c0] w fun e w' => e = .returned (.bool r) ∧ Below w.heap.size w w' := by
 have HR0 := ak hr0
 have HC0 := ak hc0
 clear hr0 hc0
 have HB := ak (Below.refl w.heap.size w)
 have H : (if (l0.length : Int) ≤ 40 then ((impl_Field__124.f l0).bind fun t484 => (some t484)) else (some false)) = some r := h
 clear h
 by_cases c2 : (l0.length : Int) ≤ 40
 ·rw [if_pos c2] at H
  have c2b0 : decide ((l0.length : Int) ≤ 40) = true := decide_eq_true c2
  have c2b1 : decide (l0.length ≤ 40) = true := decide_eq_true (by omega)
  clear c2
  replace H := bs H
  obtain ⟨t484, A3, H⟩ := H
  try dsimp only at H
  obtain rfl := Option.some.inj H
  go_enter Tryz.func112, Tryz.ntmps112
  go_wp2_with (first | (go_at_call 137; (with_reducible refine (impl_Field__124.calls _ _ l0  t484 _ ?side1 ?side2 A3.out).mono ?_); (case side1 => exact kc HR0.out); (case side2 => exact HC0.out); rintro e w4 ⟨rfl, hb⟩; replace HB := ak (below_step (bl HB.out) hb); clear hb))
  go_ret
  exact ⟨by first | rfl | (simp [errW_none, errW_some] <;> rfl) | (simp [*, errW_none, errW_some] <;> rfl), bl HB.out⟩
 ·rw [if_neg c2] at H
  have c2b0 : decide ((l0.length : Int) ≤ 40) = false := decide_eq_false c2
  have c2b1 : decide (l0.length ≤ 40) = false := decide_eq_false (by omega)
  clear c2
  obtain rfl := Option.some.inj H
  go_enter Tryz.func112, Tryz.ntmps112
  go_wp2
  go_ret
  exact ⟨by first | rfl | (simp [errW_none, errW_some] <;> rfl) | (simp [*, errW_none, errW_some] <;> rfl), bl HB.out⟩

/-! ### impl_isFramed: function 113 -/
def impl_isFramed.f (k : Nat) (l0 : List (S75)) (a1 : ByteArray) : Option (Bool) := (impl_lengthOf.f k l0).bind fun bt485 => (if bt485.2.2 = true then ((impl_valuesOf.f k l0 (⟨#[116, 114, 97, 110, 115, 102, 101, 114, 45, 101, 110, 99, 111, 100, 105, 110, 103]⟩ : ByteArray)).bind fun t488 => (if (t488.length : Int) = 0 then (if bt485.2.1 = true then (if bt485.1 = (a1.size : Int) then (some true) else (some false)) else (some (a1.toList == ([] : List UInt8)))) else (some false))) else (some false))
theorem impl_isFramed.mono : ∀ a0 a1 k, LeO (impl_isFramed.f k a0 a1) (impl_isFramed.f (k + 1) a0 a1) := by
 intro a0 a1 k
 unfold impl_isFramed.f
 repeat' with_reducible first | exact impl_lengthOf.mono _ _ | exact impl_valuesOf.mono _ _ _ | exact LeO.refl _ | exact LeO.none _ | refine LeO.ite ?_ ?_ | refine LeO.bind ?_ (fun _ => ?_)
set_option maxHeartbeats 8000000 in
set_option maxRecDepth 100000 in
theorem impl_isFramed.calls (k : Nat) (A0 : Option Addr) (c0 : Nat) (l0 : List (S75)) (a1 : ByteArray) (r : Bool) (w : World) (hr0 : Kd.C k75 w A0 l0.length l0) (hc0 : l0.length ≤ c0) (h : impl_isFramed.f k l0 a1 = some r) (ht : Glob w) :
  Calls Tryz.prog 113 #[.slice A0 l0.length c0, .string a1] w fun e w' => e = .returned (.bool r) ∧ Below w.heap.size w w' := by
 have HR0 := ak hr0
 have HC0 := ak hc0
 clear hr0 hc0
 have HT := ak ht
 clear ht
 have HB := ak (Below.refl w.heap.size w)
 have H : ((impl_lengthOf.f k l0).bind fun bt485 => (if bt485.2.2 = true then ((impl_valuesOf.f k l0 (⟨#[116, 114, 97, 110, 115, 102, 101, 114, 45, 101, 110, 99, 111, 100, 105, 110, 103]⟩ : ByteArray)).bind fun t488 => (if (t488.length : Int) = 0 then (if bt485.2.1 = true then (if bt485.1 = (a1.size : Int) then (some true) else (some false)) else (some (a1.toList == ([] : List UInt8)))) else (some false))) else (some false))) = some r := h
 clear h
 replace H := bs H
 obtain ⟨⟨t485, t486, t487⟩, A3, H⟩ := H
 try dsimp only at H
 by_cases c4 : t487 = true
 ·subst c4
  rw [if_pos rfl] at H
  replace H := bs H
  obtain ⟨t488, A5, H⟩ := H
  try dsimp only at H
  by_cases c6 : (t488.length : Int) = 0
  ·rw [if_pos c6] at H
   have c6b0 : ((t488.length : Int) == 0) = true := beq_iff_eq.mpr c6
   have c6b1 : ((t488.length : Int) != 0) = false := bne_eq_false_iff_eq.mpr c6
   clear c6
   by_cases c7 : t486 = true
   ·subst c7
    rw [if_pos rfl] at H
    by_cases c8 : t485 = (a1.size : Int)
    ·rw [if_pos c8] at H
     have c8b0 : (t485 == (a1.size : Int)) = true := beq_iff_eq.mpr c8
     have c8b1 : (t485 != (a1.size : Int)) = false := bne_eq_false_iff_eq.mpr c8
     clear c8
     obtain rfl := Option.some.inj H
     go_enter Tryz.func113, Tryz.ntmps113
     go_wp2_with (first | ((with_reducible refine gc 67 ?_); refine gL 67 Tryz.func67 (some 10) #[.slice A0 l0.length c0] ?_; (with_reducible refine (impl_lengthOf.calls k _ _ l0 t485 true true _ ?side1 ?side2 A3.out (globg HT.out (bl HB.out))).mono ?_); (case side1 => exact kc HR0.out); (case side2 => exact HC0.out); rintro e w9 ⟨rfl, hb⟩; refine ⟨_, rfl, ?_⟩; replace HB := ak (below_step (bl HB.out) hb); clear hb) | (go_at_call 97; (with_reducible refine (impl_valuesOf.calls k _ _ l0 (⟨#[116, 114, 97, 110, 115, 102, 101, 114, 45, 101, 110, 99, 111, 100, 105, 110, 103]⟩ : ByteArray) t488 _ ?side1 ?side2 A5.out).mono ?_); (case side1 => exact kc (Kd.C_below HR0.out HB.out)); (case side2 => exact HC0.out); rintro e w10 ⟨v489, rfl, ho0, hb⟩; have HO490 := ak (Kd.R_lower ho0 (below_size (bl HB.out))); replace HB := ak (below_step (bl HB.out) hb); clear hb ho0; obtain ⟨Ao11, co11, eo11⟩ := Kd.R_slice HO490.out; subst eo11))
     go_ret
     exact ⟨by first | rfl | (simp [errW_none, errW_some] <;> rfl) | (simp [*, errW_none, errW_some] <;> rfl), bl HB.out⟩
    ·rw [if_neg c8] at H
     have c8b0 : (t485 == (a1.size : Int)) = false := beq_eq_false_iff_ne.mpr c8
     have c8b1 : (t485 != (a1.size : Int)) = true := bne_iff_ne.mpr c8
     obtain rfl := Option.some.inj H
     go_enter Tryz.func113, Tryz.ntmps113
     go_wp2_with (first | ((with_reducible refine gc 67 ?_); refine gL 67 Tryz.func67 (some 10) #[.slice A0 l0.length c0] ?_; (with_reducible refine (impl_lengthOf.calls k _ _ l0 t485 true true _ ?side1 ?side2 A3.out (globg HT.out (bl HB.out))).mono ?_); (case side1 => exact kc HR0.out); (case side2 => exact HC0.out); rintro e w12 ⟨rfl, hb⟩; refine ⟨_, rfl, ?_⟩; replace HB := ak (below_step (bl HB.out) hb); clear hb) | (go_at_call 97; (with_reducible refine (impl_valuesOf.calls k _ _ l0 (⟨#[116, 114, 97, 110, 115, 102, 101, 114, 45, 101, 110, 99, 111, 100, 105, 110, 103]⟩ : ByteArray) t488 _ ?side1 ?side2 A5.out).mono ?_); (case side1 => exact kc (Kd.C_below HR0.out HB.out)); (case side2 => exact HC0.out); rintro e w13 ⟨v489, rfl, ho0, hb⟩; have HO490 := ak (Kd.R_lower ho0 (below_size (bl HB.out))); replace HB := ak (below_step (bl HB.out) hb); clear hb ho0; obtain ⟨Ao14, co14, eo14⟩ := Kd.R_slice HO490.out; subst eo14))
     go_ret
     exact ⟨by first | rfl | (simp [errW_none, errW_some] <;> rfl) | (simp [*, errW_none, errW_some] <;> rfl), bl HB.out⟩
   ·replace c7 := Bool.eq_false_iff.mpr c7
    subst c7
    rw [if_neg ff] at H
    obtain rfl := Option.some.inj H
    go_enter Tryz.func113, Tryz.ntmps113
    go_wp2_with (first | ((with_reducible refine gc 67 ?_); refine gL 67 Tryz.func67 (some 10) #[.slice A0 l0.length c0] ?_; (with_reducible refine (impl_lengthOf.calls k _ _ l0 t485 false true _ ?side1 ?side2 A3.out (globg HT.out (bl HB.out))).mono ?_); (case side1 => exact kc HR0.out); (case side2 => exact HC0.out); rintro e w15 ⟨rfl, hb⟩; refine ⟨_, rfl, ?_⟩; replace HB := ak (below_step (bl HB.out) hb); clear hb) | (go_at_call 97; (with_reducible refine (impl_valuesOf.calls k _ _ l0 (⟨#[116, 114, 97, 110, 115, 102, 101, 114, 45, 101, 110, 99, 111, 100, 105, 110, 103]⟩ : ByteArray) t488 _ ?side1 ?side2 A5.out).mono ?_); (case side1 => exact kc (Kd.C_below HR0.out HB.out)); (case side2 => exact HC0.out); rintro e w16 ⟨v489, rfl, ho0, hb⟩; have HO490 := ak (Kd.R_lower ho0 (below_size (bl HB.out))); replace HB := ak (below_step (bl HB.out) hb); clear hb ho0; obtain ⟨Ao17, co17, eo17⟩ := Kd.R_slice HO490.out; subst eo17))
    go_ret
    exact ⟨by first | rfl | (simp [errW_none, errW_some] <;> rfl) | (simp [*, errW_none, errW_some] <;> rfl), bl HB.out⟩
  ·rw [if_neg c6] at H
   have c6b0 : ((t488.length : Int) == 0) = false := beq_eq_false_iff_ne.mpr c6
   have c6b1 : ((t488.length : Int) != 0) = true := bne_iff_ne.mpr c6
   have c6b2 : ¬ (t488 = []) := fun h_ => c6 (by rw [h_]; rfl)
   obtain rfl := Option.some.inj H
   go_enter Tryz.func113, Tryz.ntmps113
   go_wp2_with (first | ((with_reducible refine gc 67 ?_); refine gL 67 Tryz.func67 (some 10) #[.slice A0 l0.length c0] ?_; (with_reducible refine (impl_lengthOf.calls k _ _ l0 t485 t486 true _ ?side1 ?side2 A3.out (globg HT.out (bl HB.out))).mono ?_); (case side1 => exact kc HR0.out); (case side2 => exact HC0.out); rintro e w18 ⟨rfl, hb⟩; refine ⟨_, rfl, ?_⟩; replace HB := ak (below_step (bl HB.out) hb); clear hb) | (go_at_call 97; (with_reducible refine (impl_valuesOf.calls k _ _ l0 (⟨#[116, 114, 97, 110, 115, 102, 101, 114, 45, 101, 110, 99, 111, 100, 105, 110, 103]⟩ : ByteArray) t488 _ ?side1 ?side2 A5.out).mono ?_); (case side1 => exact kc (Kd.C_below HR0.out HB.out)); (case side2 => exact HC0.out); rintro e w19 ⟨v489, rfl, ho0, hb⟩; have HO490 := ak (Kd.R_lower ho0 (below_size (bl HB.out))); replace HB := ak (below_step (bl HB.out) hb); clear hb ho0; obtain ⟨Ao20, co20, eo20⟩ := Kd.R_slice HO490.out; subst eo20))
   go_ret
   exact ⟨by first | rfl | (simp [errW_none, errW_some] <;> rfl) | (simp [*, errW_none, errW_some] <;> rfl), bl HB.out⟩
 ·replace c4 := Bool.eq_false_iff.mpr c4
  subst c4
  rw [if_neg ff] at H
  obtain rfl := Option.some.inj H
  go_enter Tryz.func113, Tryz.ntmps113
  go_wp2_with (first | ((with_reducible refine gc 67 ?_); refine gL 67 Tryz.func67 (some 10) #[.slice A0 l0.length c0] ?_; (with_reducible refine (impl_lengthOf.calls k _ _ l0 t485 t486 false _ ?side1 ?side2 A3.out (globg HT.out (bl HB.out))).mono ?_); (case side1 => exact kc HR0.out); (case side2 => exact HC0.out); rintro e w21 ⟨rfl, hb⟩; refine ⟨_, rfl, ?_⟩; replace HB := ak (below_step (bl HB.out) hb); clear hb))
  go_ret
  exact ⟨by first | rfl | (simp [errW_none, errW_some] <;> rfl) | (simp [*, errW_none, errW_some] <;> rfl), bl HB.out⟩

/-! ### impl_isMessage: function 81 -/
def impl_isMessage.f (k : Nat) (a0 : ByteArray) (l1 : List (S75)) (a2 : ByteArray) : Option (Bool) := (impl_areFields.f l1).bind fun t491 => (if t491 = true then (if (a2.size : Int) ≤ 300 then ((impl_headText.f k a0 l1).bind fun t492 => (if (t492.size : Int) ≤ 2000 then ((impl_isFramed.f k l1 a2).bind fun t493 => (some t493)) else (some false))) else (some false)) else (some false))
theorem impl_isMessage.mono : ∀ a0 a1 a2 k, LeO (impl_isMessage.f k a0 a1 a2) (impl_isMessage.f (k + 1) a0 a1 a2) := by
 intro a0 a1 a2 k
 unfold impl_isMessage.f
 repeat' with_reducible first | exact impl_headText.mono _ _ _ | exact impl_isFramed.mono _ _ _ | exact LeO.refl _ | exact LeO.none _ | refine LeO.ite ?_ ?_ | refine LeO.bind ?_ (fun _ => ?_)
set_option maxHeartbeats 8000000 in
set_option maxRecDepth 100000 in
theorem impl_isMessage.calls (k : Nat) (a0 : ByteArray) (A1 : Option Addr) (c1 : Nat) (l1 : List (S75)) (a2 : ByteArray) (r : Bool) (w : World) (hr1 : Kd.C k75 w A1 l1.length l1) (hc1 : l1.length ≤ c1) (h : impl_isMessage.f k a0 l1 a2 = some r) (ht : Glob w) :
  Calls Tryz.prog 81 #[.string a0, .slice A1 l1.length c1, .string a2] w fun e w' => e = .returned (.bool r) ∧ Below w.heap.size w w' := by
 have HR1 := ak hr1
 have HC1 := ak hc1
 clear hr1 hc1
 have HT := ak ht
 clear ht
 have HB := ak (Below.refl w.heap.size w)
 have H : ((impl_areFields.f l1).bind fun t491 => (if t491 = true then (if (a2.size : Int) ≤ 300 then ((impl_headText.f k a0 l1).bind fun t492 => (if (t492.size : Int) ≤ 2000 then ((impl_isFramed.f k l1 a2).bind fun t493 => (some t493)) else (some false))) else (some false)) else (some false))) = some r := h
 clear h
 replace H := bs H
 obtain ⟨t491, A4, H⟩ := H
 try dsimp only at H
 by_cases c5 : t491 = true
 ·subst c5
  rw [if_pos rfl] at H
  by_cases c6 : (a2.size : Int) ≤ 300
  ·rw [if_pos c6] at H
   have c6b0 : decide ((a2.size : Int) ≤ 300) = true := decide_eq_true c6
   have c6b1 : decide (a2.size ≤ 300) = true := decide_eq_true (by omega)
   clear c6
   replace H := bs H
   obtain ⟨t492, A7, H⟩ := H
   try dsimp only at H
   by_cases c8 : (t492.size : Int) ≤ 2000
   ·rw [if_pos c8] at H
    have c8b0 : decide ((t492.size : Int) ≤ 2000) = true := decide_eq_true c8
    have c8b1 : decide (t492.size ≤ 2000) = true := decide_eq_true (by omega)
    clear c8
    replace H := bs H
    obtain ⟨t493, A9, H⟩ := H
    try dsimp only at H
    obtain rfl := Option.some.inj H
    go_enter Tryz.func81, Tryz.ntmps81
    go_wp2_with (first | ((with_reducible refine gc 112 ?_); refine gL 112 Tryz.func112 (some 8) #[.slice A1 l1.length c1] ?_; (with_reducible refine (impl_areFields.calls _ _ l1 true _ ?side1 ?side2 A4.out).mono ?_); (case side1 => exact kc HR1.out); (case side2 => exact HC1.out); rintro e w10 ⟨rfl, hb⟩; refine ⟨_, rfl, ?_⟩; replace HB := ak (below_step (bl HB.out) hb); clear hb) | (go_at_call 48; (with_reducible refine (impl_headText.calls k a0 _ _ l1 t492 _ ?side1 ?side2 A7.out).mono ?_); (case side1 => exact kc (Kd.C_below HR1.out HB.out)); (case side2 => exact HC1.out); rintro e w11 ⟨rfl, hb⟩; replace HB := ak (below_step (bl HB.out) hb); clear hb) | (go_at_call 113; (with_reducible refine (impl_isFramed.calls k _ _ l1 a2 t493 _ ?side1 ?side2 A9.out (globg HT.out (bl HB.out))).mono ?_); (case side1 => exact kc (Kd.C_below HR1.out HB.out)); (case side2 => exact HC1.out); rintro e w12 ⟨rfl, hb⟩; replace HB := ak (below_step (bl HB.out) hb); clear hb))
    go_ret
    exact ⟨by first | rfl | (simp [errW_none, errW_some] <;> rfl) | (simp [*, errW_none, errW_some] <;> rfl), bl HB.out⟩
   ·rw [if_neg c8] at H
    have c8b0 : decide ((t492.size : Int) ≤ 2000) = false := decide_eq_false c8
    have c8b1 : decide (t492.size ≤ 2000) = false := decide_eq_false (by omega)
    clear c8
    obtain rfl := Option.some.inj H
    go_enter Tryz.func81, Tryz.ntmps81
    go_wp2_with (first | ((with_reducible refine gc 112 ?_); refine gL 112 Tryz.func112 (some 8) #[.slice A1 l1.length c1] ?_; (with_reducible refine (impl_areFields.calls _ _ l1 true _ ?side1 ?side2 A4.out).mono ?_); (case side1 => exact kc HR1.out); (case side2 => exact HC1.out); rintro e w13 ⟨rfl, hb⟩; refine ⟨_, rfl, ?_⟩; replace HB := ak (below_step (bl HB.out) hb); clear hb) | (go_at_call 48; (with_reducible refine (impl_headText.calls k a0 _ _ l1 t492 _ ?side1 ?side2 A7.out).mono ?_); (case side1 => exact kc (Kd.C_below HR1.out HB.out)); (case side2 => exact HC1.out); rintro e w14 ⟨rfl, hb⟩; replace HB := ak (below_step (bl HB.out) hb); clear hb))
    go_ret
    exact ⟨by first | rfl | (simp [errW_none, errW_some] <;> rfl) | (simp [*, errW_none, errW_some] <;> rfl), bl HB.out⟩
  ·rw [if_neg c6] at H
   have c6b0 : decide ((a2.size : Int) ≤ 300) = false := decide_eq_false c6
   have c6b1 : decide (a2.size ≤ 300) = false := decide_eq_false (by omega)
   clear c6
   obtain rfl := Option.some.inj H
   go_enter Tryz.func81, Tryz.ntmps81
   go_wp2_with (first | ((with_reducible refine gc 112 ?_); refine gL 112 Tryz.func112 (some 8) #[.slice A1 l1.length c1] ?_; (with_reducible refine (impl_areFields.calls _ _ l1 true _ ?side1 ?side2 A4.out).mono ?_); (case side1 => exact kc HR1.out); (case side2 => exact HC1.out); rintro e w15 ⟨rfl, hb⟩; refine ⟨_, rfl, ?_⟩; replace HB := ak (below_step (bl HB.out) hb); clear hb))
   go_ret
   exact ⟨by first | rfl | (simp [errW_none, errW_some] <;> rfl) | (simp [*, errW_none, errW_some] <;> rfl), bl HB.out⟩
 ·replace c5 := Bool.eq_false_iff.mpr c5
  subst c5
  rw [if_neg ff] at H
  obtain rfl := Option.some.inj H
  go_enter Tryz.func81, Tryz.ntmps81
  go_wp2_with (first | ((with_reducible refine gc 112 ?_); refine gL 112 Tryz.func112 (some 8) #[.slice A1 l1.length c1] ?_; (with_reducible refine (impl_areFields.calls _ _ l1 false _ ?side1 ?side2 A4.out).mono ?_); (case side1 => exact kc HR1.out); (case side2 => exact HC1.out); rintro e w16 ⟨rfl, hb⟩; refine ⟨_, rfl, ?_⟩; replace HB := ak (below_step (bl HB.out) hb); clear hb))
  go_ret
  exact ⟨by first | rfl | (simp [errW_none, errW_some] <;> rfl) | (simp [*, errW_none, errW_some] <;> rfl), bl HB.out⟩

/-! ### impl_GoodRequest: function 47 -/
def impl_GoodRequest.f (k : Nat) (a0_0 : ByteArray) (a0_1 : ByteArray) (l0_2 : List (S75)) (a0_3 : ByteArray) : Option (Bool) := (impl_isRequestLine.f a0_0 a0_1 l0_2 a0_3).bind fun t495 => (if t495 = true then ((impl_requestLine.f a0_0 a0_1 l0_2 a0_3).bind fun t496 => ((impl_isMessage.f k t496 l0_2 a0_3).bind fun t497 => (some t497))) else (some false))
theorem impl_GoodRequest.mono : ∀ a0 a1 a2 a3 k, LeO (impl_GoodRequest.f k a0 a1 a2 a3) (impl_GoodRequest.f (k + 1) a0 a1 a2 a3) := by
 intro a0 a1 a2 a3 k
 unfold impl_GoodRequest.f
 repeat' with_reducible first | exact impl_isMessage.mono _ _ _ _ | exact LeO.refl _ | exact LeO.none _ | refine LeO.ite ?_ ?_ | refine LeO.bind ?_ (fun _ => ?_)
def impl_GoodRequest.T1 : Bool × List (List Nat × List Nat) := (true, [([], []), ([0], [0]), ([1, 1], [1]), ([2], [2]), ([3, 2, 2], [2, 3]), ([2], [2]), ([5, 2], [2, 5]), ([2], [2]), ([7, 2], [2, 7]), ([4, 6, 8, 4, 2], [2, 4, 6, 8]), ([2, 9], [2, 9]), ([10, 9, 0, 1, 2, 3, 4, 5, 6, 7, 8, 9, 10], [10])])
def impl_GoodRequest.B1 : List Nat := [0, 1, 3, 7, 15, 7, 39, 7, 135, 511, 1023, 2047]
theorem impl_GoodRequest.tab1 : rtab .any (opsOf Tryz.f47 1) = impl_GoodRequest.T1 := by kernel_rfl
theorem impl_GoodRequest.bits1 : waitsOk impl_GoodRequest.T1.2 impl_GoodRequest.B1 = true := by kernel_rfl
set_option maxHeartbeats 8000000 in
set_option maxRecDepth 100000 in
theorem impl_GoodRequest.calls (k : Nat) (a0_0 : ByteArray) (a0_1 : ByteArray) (A0_2 : Option Addr) (c0_2 : Nat) (l0_2 : List (S75)) (a0_3 : ByteArray) (r : Bool) (w : World) (hr0_2 : Kd.C k75 w A0_2 l0_2.length l0_2) (hc0_2 : l0_2.length ≤ c0_2) (h : impl_GoodRequest.f k a0_0 a0_1 l0_2 a0_3 = some r) (ht : Glob w) :
  Calls Tryz.prog 47 #[.agg #[.string a0_0, .string a0_1, .slice A0_2 l0_2.length c0_2, .string a0_3]] w fun e w' => e = .returned (.bool r) ∧ Below w.heap.size w w' := by
 have hu24 := Tryz.underlying24
 have HR0_2 := ak hr0_2
 have HC0_2 := ak hc0_2
 clear hr0_2 hc0_2
 have HT := ak ht
 clear ht
 have HB := ak (Below.refl w.heap.size w)
 have H : ((impl_isRequestLine.f a0_0 a0_1 l0_2 a0_3).bind fun t495 => (if t495 = true then ((impl_requestLine.f a0_0 a0_1 l0_2 a0_3).bind fun t496 => ((impl_isMessage.f k t496 l0_2 a0_3).bind fun t497 => (some t497))) else (some false))) = some r := h
 clear h
 replace H := bs H
 obtain ⟨t495, A2, H⟩ := H
 try dsimp only at H
 by_cases c3 : t495 = true
 ·subst c3
  rw [if_pos rfl] at H
  replace H := bs H
  obtain ⟨t496, A4, H⟩ := H
  try dsimp only at H
  replace H := bs H
  obtain ⟨t497, A5, H⟩ := H
  try dsimp only at H
  obtain rfl := Option.some.inj H
  go_enter Tryz.func47, Tryz.ntmps47
  try go_wp2_with (first | ((with_reducible refine gd 1 ?_); refine bE 1 #[.string a0_0, .string a0_1, .slice A0_2 l0_2.length c0_2, .string a0_3] 24 ?_; intro gb494 hg w6 hbox hb; have BK494 := ak hbox; have GW494 := gs hg (bl HB.out); have GE494 := gs hg (bl HB.out); replace HB := ak (below_step (bl HB.out) hb); clear hb hbox hg))
  replace BK494 := ak (blk_drew BK494.out)
  replace HB := ak (below_drew1 HB.out)
  refine start_ (n := 12) (S := fun w' => w'.cell? ⟨gb494, 0, none⟩ = some (.string a0_0) ∧ w'.cell? ⟨gb494, 1, none⟩ = some (.string a0_1) ∧ w'.cell? ⟨gb494, 2, none⟩ = some (.slice A0_2 l0_2.length c0_2) ∧ w'.cell? ⟨gb494, 3, none⟩ = some (.string a0_3)) (ds := []) #[false, false, false, false, false, false, false, false, false, false, false, false] (by kernel_rfl) rfl rfl ⟨bc0 BK494.out, bc1 BK494.out, bc2 BK494.out, bc3 BK494.out⟩ (fun hHeld => ?_); refine with_tabW impl_GoodRequest.tab1 impl_GoodRequest.bits1 (fun HT_ HW_ => ?_)
  generalize w6.drew = w7 at BK494 HB hHeld ⊢
  refine tk 0 (some 3) HT_ HW_ hHeld ?_
  refine on 1 (some 4) HT_ (fun K hK => ?_)
  refine gO Tryz.func33 #[.agg #[.string a0_0, .string a0_1, .slice A0_2 l0_2.length c0_2, .string a0_3]] ?_
  with_reducible refine (impl_isRequestLine.calls a0_0 a0_1 _ _ l0_2 a0_3 true _ ?side1 ?side2 A2.out).mono ?_
  (case side1 => exact kc (Kd.C_below HR0_2.out HB.out))
  (case side2 => exact HC0_2.out)
  rintro e w8 ⟨rfl, hb⟩
  refine ⟨_, rfl, ?_⟩
  replace BK494 := ak (blk_below (bk BK494.out) hb)
  replace HB := ak (below_step (bl1 HB.out GE494.out) hb)
  clear hb
  refine hK.out _ _ ⟨bc0 BK494.out, bc1 BK494.out, bc2 BK494.out, bc3 BK494.out⟩ (fun hHeld => ?_)
  clear hK K
  refine nr (some 4) ?_
  refine pu 2 (some 5) HT_ ?_
  refine pu 5 (some 8) HT_ ?_
  refine pu 7 (some 10) HT_ ?_
  refine tk 3 (some 6) HT_ HW_ hHeld ?_
  refine tk 6 (some 9) HT_ HW_ hHeld ?_
  refine tk 8 (some 11) HT_ HW_ hHeld ?_
  refine on 4 (some 7) HT_ (fun K hK => ?_)
  refine gO Tryz.func49 #[.agg #[.string a0_0, .string a0_1, .slice A0_2 l0_2.length c0_2, .string a0_3]] ?_
  with_reducible refine (impl_requestLine.calls a0_0 a0_1 _ _ l0_2 a0_3 t496 _ ?side1 ?side2 A4.out).mono ?_
  (case side1 => exact kc (Kd.C_below HR0_2.out HB.out))
  (case side2 => exact HC0_2.out)
  rintro e w9 ⟨rfl, hb⟩
  refine ⟨_, rfl, ?_⟩
  replace BK494 := ak (blk_below (bk BK494.out) hb)
  replace HB := ak (below_step (bl1 HB.out GE494.out) hb)
  clear hb
  refine hK.out _ _ ⟨bc0 BK494.out, bc1 BK494.out, bc2 BK494.out, bc3 BK494.out⟩ (fun hHeld => ?_)
  clear hK K
  refine nr (some 7) ?_
  refine on 9 (some 12) HT_ (fun K hK => ?_)
  refine gO Tryz.func81 #[.string t496, .slice A0_2 l0_2.length c0_2, .string a0_3] ?_
  with_reducible refine (impl_isMessage.calls k t496 _ _ l0_2 a0_3 t497 _ ?side1 ?side2 A5.out (globg HT.out (bl1 HB.out GE494.out))).mono ?_
  (case side1 => exact kc (Kd.C_below HR0_2.out HB.out))
  (case side2 => exact HC0_2.out)
  rintro e w10 ⟨rfl, hb⟩
  refine ⟨_, rfl, ?_⟩
  replace BK494 := ak (blk_below (bk BK494.out) hb)
  replace HB := ak (below_step (bl1 HB.out GE494.out) hb)
  clear hb
  refine hK.out _ _ ⟨bc0 BK494.out, bc1 BK494.out, bc2 BK494.out, bc3 BK494.out⟩ (fun hHeld => ?_)
  clear hK K
  refine nr (some 12) ?_
  refine pu 10 (some 13) HT_ ?_
  refine pu 11 (some 2) HT_ ?_
  refine done_ (done_of HT_.out (by kernel_rfl)) ?_
  try go_wp2
  go_ret
  exact ⟨by first | rfl | (simp [errW_none, errW_some] <;> rfl) | (simp [*, errW_none, errW_some] <;> rfl), bl1 HB.out GE494.out⟩
 ·replace c3 := Bool.eq_false_iff.mpr c3
  subst c3
  rw [if_neg ff] at H
  obtain rfl := Option.some.inj H
  go_enter Tryz.func47, Tryz.ntmps47
  try go_wp2_with (first | ((with_reducible refine gd 1 ?_); refine bE 1 #[.string a0_0, .string a0_1, .slice A0_2 l0_2.length c0_2, .string a0_3] 24 ?_; intro gb494 hg w11 hbox hb; have BK494 := ak hbox; have GW494 := gs hg (bl HB.out); have GE494 := gs hg (bl HB.out); replace HB := ak (below_step (bl HB.out) hb); clear hb hbox hg))
  replace BK494 := ak (blk_drew BK494.out)
  replace HB := ak (below_drew1 HB.out)
  refine start_ (n := 12) (S := fun w' => w'.cell? ⟨gb494, 0, none⟩ = some (.string a0_0) ∧ w'.cell? ⟨gb494, 1, none⟩ = some (.string a0_1) ∧ w'.cell? ⟨gb494, 2, none⟩ = some (.slice A0_2 l0_2.length c0_2) ∧ w'.cell? ⟨gb494, 3, none⟩ = some (.string a0_3)) (ds := []) #[false, false, false, false, false, false, false, false, false, false, false, false] (by kernel_rfl) rfl rfl ⟨bc0 BK494.out, bc1 BK494.out, bc2 BK494.out, bc3 BK494.out⟩ (fun hHeld => ?_); refine with_tabW impl_GoodRequest.tab1 impl_GoodRequest.bits1 (fun HT_ HW_ => ?_)
  generalize w11.drew = w12 at BK494 HB hHeld ⊢
  refine tk 0 (some 3) HT_ HW_ hHeld ?_
  refine on 1 (some 4) HT_ (fun K hK => ?_)
  refine gO Tryz.func33 #[.agg #[.string a0_0, .string a0_1, .slice A0_2 l0_2.length c0_2, .string a0_3]] ?_
  with_reducible refine (impl_isRequestLine.calls a0_0 a0_1 _ _ l0_2 a0_3 false _ ?side1 ?side2 A2.out).mono ?_
  (case side1 => exact kc (Kd.C_below HR0_2.out HB.out))
  (case side2 => exact HC0_2.out)
  rintro e w13 ⟨rfl, hb⟩
  refine ⟨_, rfl, ?_⟩
  replace BK494 := ak (blk_below (bk BK494.out) hb)
  replace HB := ak (below_step (bl1 HB.out GE494.out) hb)
  clear hb
  refine hK.out _ _ ⟨bc0 BK494.out, bc1 BK494.out, bc2 BK494.out, bc3 BK494.out⟩ (fun hHeld => ?_)
  clear hK K
  refine nr (some 4) ?_
  refine pu 2 (some 5) HT_ ?_
  refine pn 3 (some 6) HT_ ?_
  refine pn 4 (some 7) HT_ ?_
  refine pn 5 (some 8) HT_ ?_
  refine pn 6 (some 9) HT_ ?_
  refine pn 7 (some 10) HT_ ?_
  refine pn 8 (some 11) HT_ ?_
  refine pn 9 (some 12) HT_ ?_
  refine pu 10 (some 13) HT_ ?_
  refine pu 11 (some 2) HT_ ?_
  refine done_ (done_of HT_.out (by kernel_rfl)) ?_
  try go_wp2
  go_ret
  exact ⟨by first | rfl | (simp [errW_none, errW_some] <;> rfl) | (simp [*, errW_none, errW_some] <;> rfl), bl1 HB.out GE494.out⟩

/-! ### impl_RequestBytes: function 17 -/
def impl_RequestBytes.f (k : Nat) (a0_0 : ByteArray) (a0_1 : ByteArray) (l0_2 : List (S75)) (a0_3 : ByteArray) : Option (ByteArray × Bool) := (impl_GoodRequest.f k a0_0 a0_1 l0_2 a0_3).bind fun t499 => (if t499 = true then ((impl_requestLine.f a0_0 a0_1 l0_2 a0_3).bind fun t500 => ((impl_headText.f k t500 l0_2).bind fun t501 => (if t501.size + a0_3.size ≤ 9223372036854775807 then (some (t501 ++ a0_3, true)) else (none)))) else (some ((⟨#[]⟩ : ByteArray), false)))
theorem impl_RequestBytes.mono : ∀ a0 a1 a2 a3 k, LeO (impl_RequestBytes.f k a0 a1 a2 a3) (impl_RequestBytes.f (k + 1) a0 a1 a2 a3) := by
 intro a0 a1 a2 a3 k
 unfold impl_RequestBytes.f
 repeat' with_reducible first | exact impl_GoodRequest.mono _ _ _ _ _ | exact impl_headText.mono _ _ _ | exact LeO.refl _ | exact LeO.none _ | refine LeO.ite ?_ ?_ | refine LeO.bind ?_ (fun _ => ?_)
def impl_RequestBytes.T3 : Bool × List (List Nat × List Nat) := (true, [([], []), ([0], [0]), ([], []), ([2], [2]), ([1, 3, 1], [1, 3]), ([], []), ([5], [5]), ([4, 6], [4, 6]), ([7, 4, 0, 1, 2, 3, 4, 5, 6, 7], [7]), ([8, 0, 1, 2, 3, 4, 5, 6, 7, 8], [])])
def impl_RequestBytes.B3 : List Nat := [0, 1, 0, 4, 15, 0, 32, 127, 255, 511]
theorem impl_RequestBytes.tab3 : rtab .any (opsOf Tryz.f17 3) = impl_RequestBytes.T3 := by kernel_rfl
theorem impl_RequestBytes.bits3 : waitsOk impl_RequestBytes.T3.2 impl_RequestBytes.B3 = true := by kernel_rfl
set_option maxHeartbeats 8000000 in
set_option maxRecDepth 100000 in
theorem impl_RequestBytes.calls (k : Nat) (a0_0 : ByteArray) (a0_1 : ByteArray) (A0_2 : Option Addr) (c0_2 : Nat) (l0_2 : List (S75)) (a0_3 : ByteArray) (r1 : ByteArray) (r2 : Bool) (w : World) (hr0_2 : Kd.C k75 w A0_2 l0_2.length l0_2) (hc0_2 : l0_2.length ≤ c0_2) (h : impl_RequestBytes.f k a0_0 a0_1 l0_2 a0_3 = some (r1, r2)) (ht : Glob w) :
  Calls Tryz.prog 17 #[.agg #[.string a0_0, .string a0_1, .slice A0_2 l0_2.length c0_2, .string a0_3]] w fun e w' => e = .returned (.tuple #[.string r1, .bool r2]) ∧ Below w.heap.size w w' := by
 have hu24 := Tryz.underlying24
 have HR0_2 := ak hr0_2
 have HC0_2 := ak hc0_2
 clear hr0_2 hc0_2
 have HT := ak ht
 clear ht
 have HB := ak (Below.refl w.heap.size w)
 have H : ((impl_GoodRequest.f k a0_0 a0_1 l0_2 a0_3).bind fun t499 => (if t499 = true then ((impl_requestLine.f a0_0 a0_1 l0_2 a0_3).bind fun t500 => ((impl_headText.f k t500 l0_2).bind fun t501 => (if t501.size + a0_3.size ≤ 9223372036854775807 then (some (t501 ++ a0_3, true)) else (none)))) else (some ((⟨#[]⟩ : ByteArray), false)))) = some (r1, r2) := h
 clear h
 replace H := bs H
 obtain ⟨t499, A2, H⟩ := H
 try dsimp only at H
 by_cases c3 : t499 = true
 ·subst c3
  rw [if_pos rfl] at H
  replace H := bs H
  obtain ⟨t500, A4, H⟩ := H
  try dsimp only at H
  replace H := bs H
  obtain ⟨t501, A5, H⟩ := H
  try dsimp only at H
  by_cases c6 : t501.size + a0_3.size ≤ 9223372036854775807
  ·rw [if_pos c6] at H
   have c6b0 := eq_true c6
   have c6b1 : decide (t501.size + a0_3.size ≤ 9223372036854775807) = true := decide_eq_true c6
   try have c6b2 : (9223372036854775807 < t501.size + a0_3.size) = False := eq_false (Nat.not_lt.2 c6)
   simp only [Option.some.injEq, Prod.mk.injEq] at H
   obtain ⟨rfl, rfl⟩ := H
   go_enter Tryz.func17, Tryz.ntmps17
   try go_wp2_with (first | ((with_reducible refine gd 1 ?_); refine bE 1 #[.string a0_0, .string a0_1, .slice A0_2 l0_2.length c0_2, .string a0_3] 24 ?_; intro gb498 hg w7 hbox hb; have BK498 := ak hbox; have GW498 := gs hg (bl HB.out); have GE498 := gs hg (bl HB.out); replace HB := ak (below_step (bl HB.out) hb); clear hb hbox hg; obtain ⟨hcz8_0, hcz8_1, hcz8_2, hcz8_3, hfz8_0, hfz8_1, hfz8_2, hfz8_3⟩ := b4 BK498.out) | ((with_reducible refine gc 47 ?_); refine gL 47 Tryz.func47 (some 5) #[.agg #[.string a0_0, .string a0_1, .slice A0_2 l0_2.length c0_2, .string a0_3]] ?_; (with_reducible refine (impl_GoodRequest.calls k a0_0 a0_1 _ _ l0_2 a0_3 true _ ?side1 ?side2 A2.out (globg HT.out (bl1 HB.out GE498.out))).mono ?_); (case side1 => exact kc (Kd.C_below HR0_2.out HB.out)); (case side2 => exact HC0_2.out); rintro e w9 ⟨rfl, hb⟩; refine ⟨_, rfl, ?_⟩; replace BK498 := ak (blk_below (bk BK498.out) hb); replace HB := ak (below_step (bl1 HB.out GE498.out) hb); clear hb))
   replace BK498 := ak (blk_drew BK498.out)
   replace HB := ak (below_drew1 HB.out)
   refine start_ (n := 10) (S := fun w' => w'.cell? ⟨gb498, 0, none⟩ = some (.string a0_0) ∧ w'.cell? ⟨gb498, 1, none⟩ = some (.string a0_1) ∧ w'.cell? ⟨gb498, 2, none⟩ = some (.slice A0_2 l0_2.length c0_2) ∧ w'.cell? ⟨gb498, 3, none⟩ = some (.string a0_3)) (ds := []) #[false, false, false, false, false, false, false, false, false, false] (by kernel_rfl) rfl rfl ⟨bc0 BK498.out, bc1 BK498.out, bc2 BK498.out, bc3 BK498.out⟩ (fun hHeld => ?_); refine with_tabW impl_RequestBytes.tab3 impl_RequestBytes.bits3 (fun HT_ HW_ => ?_)
   generalize w9.drew = w10 at BK498 HB hHeld ⊢
   refine pu 2 (some 9) HT_ ?_
   refine pu 5 (some 12) HT_ ?_
   refine tk 0 (some 7) HT_ HW_ hHeld ?_
   refine tk 3 (some 10) HT_ HW_ hHeld ?_
   refine tk 6 (some 13) HT_ HW_ hHeld ?_
   refine on 1 (some 8) HT_ (fun K hK => ?_)
   refine gO Tryz.func49 #[.agg #[.string a0_0, .string a0_1, .slice A0_2 l0_2.length c0_2, .string a0_3]] ?_
   with_reducible refine (impl_requestLine.calls a0_0 a0_1 _ _ l0_2 a0_3 t500 _ ?side1 ?side2 A4.out).mono ?_
   (case side1 => exact kc (Kd.C_below HR0_2.out HB.out))
   (case side2 => exact HC0_2.out)
   rintro e w11 ⟨rfl, hb⟩
   refine ⟨_, rfl, ?_⟩
   replace BK498 := ak (blk_below (bk BK498.out) hb)
   replace HB := ak (below_step (bl1 HB.out GE498.out) hb)
   clear hb
   refine hK.out _ _ ⟨bc0 BK498.out, bc1 BK498.out, bc2 BK498.out, bc3 BK498.out⟩ (fun hHeld => ?_)
   clear hK K
   refine nr (some 8) ?_
   refine on 4 (some 11) HT_ (fun K hK => ?_)
   refine gO Tryz.func48 #[.string t500, .slice A0_2 l0_2.length c0_2] ?_
   with_reducible refine (impl_headText.calls k t500 _ _ l0_2 t501 _ ?side1 ?side2 A5.out).mono ?_
   (case side1 => exact kc (Kd.C_below HR0_2.out HB.out))
   (case side2 => exact HC0_2.out)
   rintro e w12 ⟨rfl, hb⟩
   refine ⟨_, rfl, ?_⟩
   replace BK498 := ak (blk_below (bk BK498.out) hb)
   replace HB := ak (below_step (bl1 HB.out GE498.out) hb)
   clear hb
   refine hK.out _ _ ⟨bc0 BK498.out, bc1 BK498.out, bc2 BK498.out, bc3 BK498.out⟩ (fun hHeld => ?_)
   clear hK K
   refine nr (some 11) ?_
   refine pu 7 (some 14) HT_ ?_
   refine pu 8 (some 2) HT_ ?_
   refine pu 9 (some 3) HT_ ?_
   refine done_ (done_of HT_.out (by kernel_rfl)) ?_
   try go_wp2
   go_ret2
   exact ⟨by first | rfl | (simp [errW_none, errW_some] <;> rfl) | (simp [*, errW_none, errW_some] <;> rfl), bl1 HB.out GE498.out⟩
  ·rw [if_neg c6] at H
   exact absurd H (by simp)
 ·replace c3 := Bool.eq_false_iff.mpr c3
  subst c3
  rw [if_neg ff] at H
  simp only [Option.some.injEq, Prod.mk.injEq] at H
  obtain ⟨rfl, rfl⟩ := H
  go_enter Tryz.func17, Tryz.ntmps17
  go_wp2_with (first | ((with_reducible refine gd 1 ?_); refine bE 1 #[.string a0_0, .string a0_1, .slice A0_2 l0_2.length c0_2, .string a0_3] 24 ?_; intro gb498 hg w13 hbox hb; have BK498 := ak hbox; have GW498 := gs hg (bl HB.out); have GE498 := gs hg (bl HB.out); replace HB := ak (below_step (bl HB.out) hb); clear hb hbox hg; obtain ⟨hcz14_0, hcz14_1, hcz14_2, hcz14_3, hfz14_0, hfz14_1, hfz14_2, hfz14_3⟩ := b4 BK498.out) | ((with_reducible refine gc 47 ?_); refine gL 47 Tryz.func47 (some 5) #[.agg #[.string a0_0, .string a0_1, .slice A0_2 l0_2.length c0_2, .string a0_3]] ?_; (with_reducible refine (impl_GoodRequest.calls k a0_0 a0_1 _ _ l0_2 a0_3 false _ ?side1 ?side2 A2.out (globg HT.out (bl1 HB.out GE498.out))).mono ?_); (case side1 => exact kc (Kd.C_below HR0_2.out HB.out)); (case side2 => exact HC0_2.out); rintro e w15 ⟨rfl, hb⟩; refine ⟨_, rfl, ?_⟩; replace BK498 := ak (blk_below (bk BK498.out) hb); replace HB := ak (below_step (bl1 HB.out GE498.out) hb); clear hb))
  go_ret2
  exact ⟨by first | rfl | (simp [errW_none, errW_some] <;> rfl) | (simp [*, errW_none, errW_some] <;> rfl), bl1 HB.out GE498.out⟩

/-! ### spec_RequestBytes: function 18 -/
def spec_RequestBytes.f (k : Nat) (a0_0 : ByteArray) (a0_1 : ByteArray) (l0_2 : List (S75)) (a0_3 : ByteArray) : Option (ByteArray × Bool) := (spec_GoodRequest.f k a0_0 a0_1 l0_2 a0_3).bind fun t503 => (if t503 = true then ((spec_l4First.f a0_0 a0_1 l0_2 a0_3).bind fun t504 => ((spec_l4Head.f k t504 l0_2).bind fun t505 => (if t505.size + a0_3.size ≤ 9223372036854775807 then (some (t505 ++ a0_3, true)) else (none)))) else (some ((⟨#[]⟩ : ByteArray), false)))
theorem spec_RequestBytes.mono : ∀ a0 a1 a2 a3 k, LeO (spec_RequestBytes.f k a0 a1 a2 a3) (spec_RequestBytes.f (k + 1) a0 a1 a2 a3) := by
 intro a0 a1 a2 a3 k
 unfold spec_RequestBytes.f
 repeat' with_reducible first | exact spec_GoodRequest.mono _ _ _ _ _ | exact spec_l4Head.mono _ _ _ | exact LeO.refl _ | exact LeO.none _ | refine LeO.ite ?_ ?_ | refine LeO.bind ?_ (fun _ => ?_)
def spec_RequestBytes.T3 : Bool × List (List Nat × List Nat) := (true, [([], []), ([0], [0]), ([], []), ([2], [2]), ([1, 3, 1], [1, 3]), ([], []), ([5], [5]), ([4, 6], [4, 6]), ([7, 4, 0, 1, 2, 3, 4, 5, 6, 7], [7]), ([8, 0, 1, 2, 3, 4, 5, 6, 7, 8], [])])
def spec_RequestBytes.B3 : List Nat := [0, 1, 0, 4, 15, 0, 32, 127, 255, 511]
theorem spec_RequestBytes.tab3 : rtab .any (opsOf Tryz.f18 3) = spec_RequestBytes.T3 := by kernel_rfl
theorem spec_RequestBytes.bits3 : waitsOk spec_RequestBytes.T3.2 spec_RequestBytes.B3 = true := by kernel_rfl
set_option maxHeartbeats 8000000 in
set_option maxRecDepth 100000 in
theorem spec_RequestBytes.calls (k : Nat) (a0_0 : ByteArray) (a0_1 : ByteArray) (A0_2 : Option Addr) (c0_2 : Nat) (l0_2 : List (S75)) (a0_3 : ByteArray) (r1 : ByteArray) (r2 : Bool) (w : World) (hr0_2 : Kd.C k75 w A0_2 l0_2.length l0_2) (hc0_2 : l0_2.length ≤ c0_2) (h : spec_RequestBytes.f k a0_0 a0_1 l0_2 a0_3 = some (r1, r2)) :
  Calls Tryz.prog 18 #[.agg #[.string a0_0, .string a0_1, .slice A0_2 l0_2.length c0_2, .string a0_3]] w fun e w' => e = .returned (.tuple #[.string r1, .bool r2]) ∧ Below w.heap.size w w' := by
 have hu24 := Tryz.underlying24
 have HR0_2 := ak hr0_2
 have HC0_2 := ak hc0_2
 clear hr0_2 hc0_2
 have HB := ak (Below.refl w.heap.size w)
 have H : ((spec_GoodRequest.f k a0_0 a0_1 l0_2 a0_3).bind fun t503 => (if t503 = true then ((spec_l4First.f a0_0 a0_1 l0_2 a0_3).bind fun t504 => ((spec_l4Head.f k t504 l0_2).bind fun t505 => (if t505.size + a0_3.size ≤ 9223372036854775807 then (some (t505 ++ a0_3, true)) else (none)))) else (some ((⟨#[]⟩ : ByteArray), false)))) = some (r1, r2) := h
 clear h
 replace H := bs H
 obtain ⟨t503, A2, H⟩ := H
 try dsimp only at H
 by_cases c3 : t503 = true
 ·subst c3
  rw [if_pos rfl] at H
  replace H := bs H
  obtain ⟨t504, A4, H⟩ := H
  try dsimp only at H
  replace H := bs H
  obtain ⟨t505, A5, H⟩ := H
  try dsimp only at H
  by_cases c6 : t505.size + a0_3.size ≤ 9223372036854775807
  ·rw [if_pos c6] at H
   have c6b0 := eq_true c6
   have c6b1 : decide (t505.size + a0_3.size ≤ 9223372036854775807) = true := decide_eq_true c6
   try have c6b2 : (9223372036854775807 < t505.size + a0_3.size) = False := eq_false (Nat.not_lt.2 c6)
   simp only [Option.some.injEq, Prod.mk.injEq] at H
   obtain ⟨rfl, rfl⟩ := H
   go_enter Tryz.func18, Tryz.ntmps18
   try go_wp2_with (first | ((with_reducible refine gd 1 ?_); refine bE 1 #[.string a0_0, .string a0_1, .slice A0_2 l0_2.length c0_2, .string a0_3] 24 ?_; intro gb502 hg w7 hbox hb; have BK502 := ak hbox; have GW502 := gs hg (bl HB.out); have GE502 := gs hg (bl HB.out); replace HB := ak (below_step (bl HB.out) hb); clear hb hbox hg; obtain ⟨hcz8_0, hcz8_1, hcz8_2, hcz8_3, hfz8_0, hfz8_1, hfz8_2, hfz8_3⟩ := b4 BK502.out) | ((with_reducible refine gc 29 ?_); refine gL 29 Tryz.func29 (some 5) #[.agg #[.string a0_0, .string a0_1, .slice A0_2 l0_2.length c0_2, .string a0_3]] ?_; (with_reducible refine (spec_GoodRequest.calls k a0_0 a0_1 _ _ l0_2 a0_3 true _ ?side1 ?side2 A2.out).mono ?_); (case side1 => exact kc (Kd.C_below HR0_2.out HB.out)); (case side2 => exact HC0_2.out); rintro e w9 ⟨rfl, hb⟩; refine ⟨_, rfl, ?_⟩; replace BK502 := ak (blk_below (bk BK502.out) hb); replace HB := ak (below_step (bl1 HB.out GE502.out) hb); clear hb))
   replace BK502 := ak (blk_drew BK502.out)
   replace HB := ak (below_drew1 HB.out)
   refine start_ (n := 10) (S := fun w' => w'.cell? ⟨gb502, 0, none⟩ = some (.string a0_0) ∧ w'.cell? ⟨gb502, 1, none⟩ = some (.string a0_1) ∧ w'.cell? ⟨gb502, 2, none⟩ = some (.slice A0_2 l0_2.length c0_2) ∧ w'.cell? ⟨gb502, 3, none⟩ = some (.string a0_3)) (ds := []) #[false, false, false, false, false, false, false, false, false, false] (by kernel_rfl) rfl rfl ⟨bc0 BK502.out, bc1 BK502.out, bc2 BK502.out, bc3 BK502.out⟩ (fun hHeld => ?_); refine with_tabW spec_RequestBytes.tab3 spec_RequestBytes.bits3 (fun HT_ HW_ => ?_)
   generalize w9.drew = w10 at BK502 HB hHeld ⊢
   refine pu 2 (some 9) HT_ ?_
   refine pu 5 (some 12) HT_ ?_
   refine tk 0 (some 7) HT_ HW_ hHeld ?_
   refine tk 3 (some 10) HT_ HW_ hHeld ?_
   refine tk 6 (some 13) HT_ HW_ hHeld ?_
   refine on 1 (some 8) HT_ (fun K hK => ?_)
   refine gO Tryz.func51 #[.agg #[.string a0_0, .string a0_1, .slice A0_2 l0_2.length c0_2, .string a0_3]] ?_
   with_reducible refine (spec_l4First.calls a0_0 a0_1 _ _ l0_2 a0_3 t504 _ ?side1 ?side2 A4.out).mono ?_
   (case side1 => exact kc (Kd.C_below HR0_2.out HB.out))
   (case side2 => exact HC0_2.out)
   rintro e w11 ⟨rfl, hb⟩
   refine ⟨_, rfl, ?_⟩
   replace BK502 := ak (blk_below (bk BK502.out) hb)
   replace HB := ak (below_step (bl1 HB.out GE502.out) hb)
   clear hb
   refine hK.out _ _ ⟨bc0 BK502.out, bc1 BK502.out, bc2 BK502.out, bc3 BK502.out⟩ (fun hHeld => ?_)
   clear hK K
   refine nr (some 8) ?_
   refine on 4 (some 11) HT_ (fun K hK => ?_)
   refine gO Tryz.func50 #[.string t504, .slice A0_2 l0_2.length c0_2] ?_
   with_reducible refine (spec_l4Head.calls k t504 _ _ l0_2 t505 _ ?side1 ?side2 A5.out).mono ?_
   (case side1 => exact kc (Kd.C_below HR0_2.out HB.out))
   (case side2 => exact HC0_2.out)
   rintro e w12 ⟨rfl, hb⟩
   refine ⟨_, rfl, ?_⟩
   replace BK502 := ak (blk_below (bk BK502.out) hb)
   replace HB := ak (below_step (bl1 HB.out GE502.out) hb)
   clear hb
   refine hK.out _ _ ⟨bc0 BK502.out, bc1 BK502.out, bc2 BK502.out, bc3 BK502.out⟩ (fun hHeld => ?_)
   clear hK K
   refine nr (some 11) ?_
   refine pu 7 (some 14) HT_ ?_
   refine pu 8 (some 2) HT_ ?_
   refine pu 9 (some 3) HT_ ?_
   refine done_ (done_of HT_.out (by kernel_rfl)) ?_
   try go_wp2
   go_ret2
   exact ⟨by first | rfl | (simp [errW_none, errW_some] <;> rfl) | (simp [*, errW_none, errW_some] <;> rfl), bl1 HB.out GE502.out⟩
  ·rw [if_neg c6] at H
   exact absurd H (by simp)
 ·replace c3 := Bool.eq_false_iff.mpr c3
  subst c3
  rw [if_neg ff] at H
  simp only [Option.some.injEq, Prod.mk.injEq] at H
  obtain ⟨rfl, rfl⟩ := H
  go_enter Tryz.func18, Tryz.ntmps18
  go_wp2_with (first | ((with_reducible refine gd 1 ?_); refine bE 1 #[.string a0_0, .string a0_1, .slice A0_2 l0_2.length c0_2, .string a0_3] 24 ?_; intro gb502 hg w13 hbox hb; have BK502 := ak hbox; have GW502 := gs hg (bl HB.out); have GE502 := gs hg (bl HB.out); replace HB := ak (below_step (bl HB.out) hb); clear hb hbox hg; obtain ⟨hcz14_0, hcz14_1, hcz14_2, hcz14_3, hfz14_0, hfz14_1, hfz14_2, hfz14_3⟩ := b4 BK502.out) | ((with_reducible refine gc 29 ?_); refine gL 29 Tryz.func29 (some 5) #[.agg #[.string a0_0, .string a0_1, .slice A0_2 l0_2.length c0_2, .string a0_3]] ?_; (with_reducible refine (spec_GoodRequest.calls k a0_0 a0_1 _ _ l0_2 a0_3 false _ ?side1 ?side2 A2.out).mono ?_); (case side1 => exact kc (Kd.C_below HR0_2.out HB.out)); (case side2 => exact HC0_2.out); rintro e w15 ⟨rfl, hb⟩; refine ⟨_, rfl, ?_⟩; replace BK502 := ak (blk_below (bk BK502.out) hb); replace HB := ak (below_step (bl1 HB.out GE502.out) hb); clear hb))
  go_ret2
  exact ⟨by first | rfl | (simp [errW_none, errW_some] <;> rfl) | (simp [*, errW_none, errW_some] <;> rfl), bl1 HB.out GE502.out⟩

/-! ### laws_numberOf: function 19 -/
def laws_numberOf.l0 : Nat → Int → List Int → Int → Int → Option (Int)
 | 0, _, _, _, _ => none
 | k + 1, x3, x6, x7, x8 => if x8 < x7 then (if 0 ≤ x8 then (if x8 < (x6.length : Int) then (laws_numberOf.l0 k (Int.tmod (wrap64 ((wrap64 (31 * x3)) + (wrap64 (rd x6 x8)))) 1000003) x6 x7 (wrap64 (x8 + 1))) else (none)) else (none)) else (some x3)
def laws_numberOf.f (k : Nat) (l0 : List Int) : Option (Int) := laws_numberOf.l0 k 0 l0 (l0.length : Int) 0
theorem laws_numberOf.mono_l : ∀ k, (∀ y0 y1 y2 y3, LeO (laws_numberOf.l0 k y0 y1 y2 y3) (laws_numberOf.l0 (k + 1) y0 y1 y2 y3))
 | 0 => fun _ _ _ _ r h => by simp [laws_numberOf.l0] at h
 | k + 1 => by
  have ih0 := laws_numberOf.mono_l k
  ·intro y0 y1 y2 y3
   unfold laws_numberOf.l0
   repeat' with_reducible first | exact ih0 _ _ _ _ | exact LeO.refl _ | exact LeO.none _ | refine LeO.ite ?_ ?_ | refine LeO.bind ?_ (fun _ => ?_)
theorem laws_numberOf.mono : ∀ a0 k, LeO (laws_numberOf.f k a0) (laws_numberOf.f (k + 1) a0) := by
 intro a0 k
 have ih0 := laws_numberOf.mono_l k
 unfold laws_numberOf.f
 repeat' with_reducible first | exact ih0 _ _ _ _ | exact LeO.refl _ | exact LeO.none _ | refine LeO.ite ?_ ?_ | refine LeO.bind ?_ (fun _ => ?_)
set_option maxHeartbeats 8000000 in
set_option maxRecDepth 100000 in
theorem laws_numberOf.calls (k : Nat) (A0 : Option Addr) (c0 : Nat) (l0 : List Int) (r : Int) (w : World) (hr0 : Kd.C (Kd.int .u8) w A0 l0.length l0) (hc0 : l0.length ≤ c0) (h : laws_numberOf.f k l0 = some r) :
  Calls Tryz.prog 19 #[.slice A0 l0.length c0] w fun e w' => e = .returned (.int .i64 r) ∧ Drawn0 w w' := by
 have HR0 := ak hr0
 have HC0 := ak hc0
 clear hr0 hc0
 have H : (laws_numberOf.l0 k 0 l0 (l0.length : Int) 0) = some r := h
 clear h
 have H' := ak H
 clear H
 go_enter Tryz.func19, Tryz.ntmps19
 go_wp2
 go_loopg [3, 8] k (fun kq v3 v8 w' => ∃ (x3_1 : Int) (x8_1 : Int), v3 = .int .i64 x3_1 ∧ v8 = .int .i64 x8_1 ∧ Aside0 (laws_numberOf.l0 kq x3_1 l0 (l0.length : Int) x8_1 = some r) ∧ Aside0 (kq ≤ k) ∧ Drawn0 w w')
 case atStart => exact ⟨(0), (0), (by first | rfl | (simp; done) | (simp [*]; done)), (by first | rfl | (simp; done) | (simp [*]; done)), H', ⟨Nat.le_refl _⟩, by repeat (first | exact Drawn0.refl _ | apply Drawn0.step)⟩
 case round =>
  clear H'
  try clear c1
  obtain ⟨x3_1, x8_1, rfl, rfl, HA, HK1, ⟨m1, rfl⟩⟩ := hrel
  cases gk with
  | zero => exact absurd HA.out (by simp [laws_numberOf.l0])
  | succ k1 =>
   have H := HA.out
   clear HA
   simp only [laws_numberOf.l0] at H
   by_cases c2 : x8_1 < (l0.length : Int)
   ·rw [if_pos c2] at H
    have c2b0 : decide (x8_1 < (l0.length : Int)) = true := decide_eq_true c2
    clear c2
    by_cases c3 : 0 ≤ x8_1
    ·rw [if_pos c3] at H
     have c3b0 : decide (0 ≤ x8_1) = true := decide_eq_true c3
     clear c3
     by_cases c4 : x8_1 < (l0.length : Int)
     ·rw [if_pos c4] at H
      have c4b0 : decide (x8_1 < (l0.length : Int)) = true := decide_eq_true c4
      clear c4
      have H' := ak H
      clear H
      have p506 : 0 ≤ (x8_1 : Int) := od
      have q506 : x8_1 < (l0.length : Int) := od
      obtain ⟨ad506, e506, hx506_0⟩ := Kd.at_int HR0.out x8_1 p506 q506
      cases e506
      replace p506 := eq_true p506
      replace q506 := eq_true q506
      go_wp2
      go_roundg k1
      case measure => have := HK1.out; omega
      case rel => exact ⟨(Int.tmod (wrap64 ((wrap64 (31 * x3_1)) + (wrap64 (rd l0 x8_1)))) 1000003), (wrap64 (x8_1 + 1)), (by first | rfl | (simp; done) | (simp [*]; done)), (by first | rfl | (simp; done) | (simp [*]; done)), H', ⟨by have := HK1.out; omega⟩, by repeat (first | exact Drawn0.refl _ | apply Drawn0.step)⟩
     ·rw [if_neg c4] at H
      exact absurd H (by simp)
    ·rw [if_neg c3] at H
     exact absurd H (by simp)
   ·rw [if_neg c2] at H
    have c2b0 : decide (x8_1 < (l0.length : Int)) = false := decide_eq_false c2
    clear c2
    obtain rfl := Option.some.inj H
    go_wp2
    go_ret
    exact ⟨by first | rfl | (simp; done) | (simp [*]; done), by repeat (first | exact Drawn0.refl _ | apply Drawn0.step)⟩

end Go.Proofs.YthneflfbafieeaaGreatDoor.PFnTorn
