-- written by a program of this session (wip/tool)
import Derived.Test.YthneflfbafieeaaGreatDoorPFnTornx0
import Derived.Test.YthneflfbafieeaaGreatDoorPFnTornx10
import Derived.Test.YthneflfbafieeaaGreatDoorVOwn0
import Derived.Test.YthneflfbafieeaaGreatDoorVOwnOpen
import Derived.WalkKit
import Derived.BigCall
import Derived.Test.YthneflfbafieeaaGreatDoorOwnTr
import Derived.Test.YthneflfbafieeaaGreatDoorVOwnShort
import Derived.Test.YthneflfbafieeaaGreatDoorOwnSq
namespace Go.Proofs.YthneflfbafieeaaGreatDoor.PFnTorn
open Go.RowKit Go.Proofs.YthneflfbafieeaaGreatDoorW.PrintWords Go.Proofs.YthneflfbafieeaaGreatDoorW.PrintLast Go.Proofs.YthneflfbafieeaaGreatDoorW.PrintMore Go.Shelf Go.Proofs.YthneflfbafieeaaGreatDoorOwn
attribute [local go_sem] max2_int min2_int max_two min_two max_three min_three max_four min_four   -- for this text's walks alone
set_option linter.unusedVariables false
set_option linter.unusedSimpArgs false

/-! ### impl_isAmong: function 104 -/
def impl_isAmong.f (a0 : Int) (a1 : ByteArray) : Option (Bool) := (impl_isLetter.f a0).bind fun t199 => (if t199 = true then (some true) else ((impl_isDigit.f a0).bind fun t200 => (if t200 = true then (some true) else ((strings_IndexByte.f a1 a0).bind fun t201 => (some (decide (t201 ≥ 0)))))))
set_option maxHeartbeats 8000000 in
set_option maxRecDepth 100000 in
theorem impl_isAmong.calls (a0 : Int) (a1 : ByteArray) (r : Bool) (w : World) (h : impl_isAmong.f a0 a1 = some r) :
  Calls Tryz.prog 104 #[.int .u8 a0, .string a1] w fun e w' => e = .returned (.bool r) ∧ Below w.heap.size w w' := by
 have HB := ak (Below.refl w.heap.size w)
 have H : ((impl_isLetter.f a0).bind fun t199 => (if t199 = true then (some true) else ((impl_isDigit.f a0).bind fun t200 => (if t200 = true then (some true) else ((strings_IndexByte.f a1 a0).bind fun t201 => (some (decide (t201 ≥ 0)))))))) = some r := h
 clear h
 replace H := bs H
 obtain ⟨t199, A3, H⟩ := H
 try dsimp only at H
 by_cases c4 : t199 = true
 ·subst c4
  rw [if_pos rfl] at H
  obtain rfl := Option.some.inj H
  go_enter Tryz.func104, Tryz.ntmps104
  go_wp2_with (first | ((with_reducible refine gc 129 ?_); refine gL 129 Tryz.func129 (some 6) #[.int .u8 a0] ?_; (with_reducible refine (impl_isLetter.calls a0 true _ A3.out).mono ?_); rintro e w' ⟨rfl, ⟨nd, rfl⟩⟩; refine ⟨_, rfl, ?_⟩))
  go_ret
  exact ⟨by first | rfl | (simp [errW_none, errW_some] <;> rfl) | (simp [*, errW_none, errW_some] <;> rfl), bl HB.out⟩
 ·replace c4 := Bool.eq_false_iff.mpr c4
  subst c4
  rw [if_neg ff] at H
  replace H := bs H
  obtain ⟨t200, A5, H⟩ := H
  try dsimp only at H
  by_cases c6 : t200 = true
  ·subst c6
   rw [if_pos rfl] at H
   obtain rfl := Option.some.inj H
   go_enter Tryz.func104, Tryz.ntmps104
   go_wp2_with (first | ((with_reducible refine gc 129 ?_); refine gL 129 Tryz.func129 (some 6) #[.int .u8 a0] ?_; (with_reducible refine (impl_isLetter.calls a0 false _ A3.out).mono ?_); rintro e w' ⟨rfl, ⟨nd, rfl⟩⟩; refine ⟨_, rfl, ?_⟩) | (go_at_call 100; (with_reducible refine (impl_isDigit.calls a0 true _ A5.out).mono ?_); rintro e w' ⟨rfl, ⟨nd, rfl⟩⟩))
   go_ret
   exact ⟨by first | rfl | (simp [errW_none, errW_some] <;> rfl) | (simp [*, errW_none, errW_some] <;> rfl), bl HB.out⟩
  ·replace c6 := Bool.eq_false_iff.mpr c6
   subst c6
   rw [if_neg ff] at H
   replace H := bs H
   obtain ⟨t201, A7, H⟩ := H
   try dsimp only at H
   obtain rfl := Option.some.inj H
   go_enter Tryz.func104, Tryz.ntmps104
   go_wp2_with (first | ((with_reducible refine gc 129 ?_); refine gL 129 Tryz.func129 (some 6) #[.int .u8 a0] ?_; (with_reducible refine (impl_isLetter.calls a0 false _ A3.out).mono ?_); rintro e w' ⟨rfl, ⟨nd, rfl⟩⟩; refine ⟨_, rfl, ?_⟩) | (go_at_call 100; (with_reducible refine (impl_isDigit.calls a0 false _ A5.out).mono ?_); rintro e w' ⟨rfl, ⟨nd, rfl⟩⟩) | (go_at_call 130; (with_reducible refine (strings_IndexByte.calls a1 a0 t201 _ A7.out).mono ?_); rintro e w8 ⟨rfl, hb⟩; replace HB := ak (below_step (bl HB.out) hb); clear hb))
   go_ret
   exact ⟨by first | rfl | (simp [errW_none, errW_some] <;> rfl) | (simp [*, errW_none, errW_some] <;> rfl), bl HB.out⟩

/-! ### impl_isToken_1: function 103 -/
def impl_isToken_1.f (a0 : Int) : Option (Bool) := (impl_isAmong.f a0 (⟨#[33, 35, 36, 37, 38, 39, 42, 43, 45, 46, 94, 95, 124, 126, 96]⟩ : ByteArray)).bind fun t202 => (some t202)
set_option maxHeartbeats 8000000 in
set_option maxRecDepth 100000 in
theorem impl_isToken_1.calls (a0 : Int) (r : Bool) (w : World) (h : impl_isToken_1.f a0 = some r) :
  Calls Tryz.prog 103 #[.int .u8 a0] w fun e w' => e = .returned (.bool r) ∧ Below w.heap.size w w' := by
 have HB := ak (Below.refl w.heap.size w)
 have H : ((impl_isAmong.f a0 (⟨#[33, 35, 36, 37, 38, 39, 42, 43, 45, 46, 94, 95, 124, 126, 96]⟩ : ByteArray)).bind fun t202 => (some t202)) = some r := h
 clear h
 replace H := bs H
 obtain ⟨t202, A2, H⟩ := H
 try dsimp only at H
 obtain rfl := Option.some.inj H
 go_enter Tryz.func103, Tryz.ntmps103
 go_wp2_with (first | ((with_reducible refine gc 104 ?_); refine gL 104 Tryz.func104 (some 4) #[.int .u8 a0, .string (⟨#[33, 35, 36, 37, 38, 39, 42, 43, 45, 46, 94, 95, 124, 126, 96]⟩ : ByteArray)] ?_; (with_reducible refine (impl_isAmong.calls a0 (⟨#[33, 35, 36, 37, 38, 39, 42, 43, 45, 46, 94, 95, 124, 126, 96]⟩ : ByteArray) t202 _ A2.out).mono ?_); rintro e w3 ⟨rfl, hb⟩; refine ⟨_, rfl, ?_⟩; replace HB := ak (below_step (bl HB.out) hb); clear hb))
 go_ret
 exact ⟨by first | rfl | (simp [errW_none, errW_some] <;> rfl) | (simp [*, errW_none, errW_some] <;> rfl), bl HB.out⟩

/-! ### areAll, function 125, at any predicate -/
set_option maxHeartbeats 800000 in
theorem areAll_g125.neg (h : Nat) (p : Int → Option Bool) (hp : PredOk Tryz.prog h (Value.int .u8) p) (eg : ∀ args w, (callFunc h args).run Tryz.prog w = .ok (.enter h args) w)
  (x : Int) (r : Bool) (b : Nat) (w : World) (hc : w.cell? ⟨b, 0, none⟩ = some (.func (.func h) #[] #[])) (hx : p x = some r) :
  Calls Tryz.prog 148 #[.int .u8 x, .pointer (some ⟨b, 0, none⟩)] w fun e w' => e = .returned (.bool (!r)) ∧ Below w.heap.size w w' := by
 have hh := hp x r
 clear hp
 go_enter Tryz.func148, Tryz.ntmps148
 go_wp2_with (go_at_fn h; refine (hh _ hx).mono ?_; rintro e w' ⟨rfl, hb⟩)
 go_ret
 exact ⟨rfl, hb⟩
set_option maxHeartbeats 800000 in
theorem areAll_g125.idx (h : Nat) (p : Int → Option Bool) (hp : PredOk Tryz.prog h (Value.int .u8) p) (eg : ∀ args w, (callFunc h args).run Tryz.prog w = .ok (.enter h args) w)
  (eg90 : ∀ args w, (callFunc 148 args).run Tryz.prog w = .ok (.enter 148 args) w)
  (A : Option Addr) (c : Nat) (l : List Int) (r : Int) (b : Nat) (w : World) (hr : Kd.C (Kd.int .u8) w A l.length l) (hb : b < w.heap.size) (hcb : w.cell? ⟨b, 0, none⟩ = some (.func (.func h) #[] #[])) (hx : idxO p l 0 = some r) :
  Calls Tryz.prog 162 #[.slice A l.length c, .func (.func 148) #[] #[.pointer (some ⟨b, 0, none⟩)]] w fun e w' => e = .returned (.int .i64 r) ∧ Below w.heap.size w w' := by
 have hm := Kd.C_max hr
 have HX := ak hx
 have HP := ak hp
 have HR := ak hr
 have HC := ak hcb
 have EG := ak eg
 clear hx hp hr hcb eg
 go_enter Tryz.func162, Tryz.ntmps162
 go_wp2
 go_loopg [5, 8] l.length (fun gg _ s8 wr => ∃ j : Nat, j ≤ l.length ∧ l.length - j ≤ gg ∧ s8 = .int .i64 j ∧ Aside0 (Below w.heap.size w wr) ∧ Aside0 (idxO p (l.drop j) j = some r))
 case atStart => exact ⟨0, Nat.zero_le _, by omega, rfl, ⟨Below.refl _ w⟩, ⟨HX.out⟩⟩
 case round =>
  obtain ⟨j, hj, hg, rfl, BW, HA⟩ := hrel
  by_cases hlt : j < l.length
  ·have hlt' : (j : Int) < (l.length : Int) := by omega
   have h0 : (0 : Int) ≤ (j : Int) := by omega
   obtain ⟨bo, hbo, hy, hn⟩ := idxO_step p l 0 j hlt r HA.out
   obtain ⟨ad, ea, hcell⟩ := Kd.at_int (Kd.C_below HR.out BW.out) (j : Int) h0 hlt'
   cases ea
   have hcell2 : wr.cell? (ad.add j) = some (.int .u8 (l.getD j 0)) := hcell
   clear hcell
   have hc2 := (BW.out.cell (p := ⟨b, 0, none⟩) hb).trans HC.out
   have hbw : w.heap.size ≤ wr.heap.size := BW.out.size
   generalize l.getD j 0 = y at hbo hcell2
   have hcall := areAll_g125.neg h p HP.out EG.out y bo b wr hc2 hbo
   have HY := ak hy
   have HN := ak hn
   have HC2 := ak hcall
   clear hy hn hbo hcall hc2
   cases bo with
   | true =>
    go_wp2_with (go_at_fn 148; refine HC2.out.mono ?_; rintro e w' ⟨rfl, hb'⟩)
    go_roundg (l.length - (j + 1))
    case measure => omega
    case rel => exact ⟨j + 1, by omega, by omega, by go_num, ⟨below_then BW.out hbw hb'⟩, ⟨HY.out (by simp)⟩⟩
   | false =>
    go_wp2_with (go_at_fn 148; refine HC2.out.mono ?_; rintro e w' ⟨rfl, hb'⟩)
    go_ret
    exact ⟨congrArg (fun z => Ending.returned (.int .i64 z)) (HN.out (by simp)).symm, below_then BW.out hbw hb'⟩
  ·have hlt' : ¬ (j : Int) < (l.length : Int) := by omega
   have : j = l.length := by omega
   subst this
   have HA2 := HA.out
   rw [List.drop_length] at HA2
   simp only [idxO, Option.some.injEq] at HA2
   have HA3 := ak HA2
   clear HA2
   go_wp2
   go_ret
   exact ⟨congrArg (fun z => Ending.returned (.int .i64 z)) HA3.out, BW.out⟩
set_option maxHeartbeats 800000 in
theorem areAll_g125.has (h : Nat) (p : Int → Option Bool) (hp : PredOk Tryz.prog h (Value.int .u8) p) (eg : ∀ args w, (callFunc h args).run Tryz.prog w = .ok (.enter h args) w)
  (eg90 : ∀ args w, (callFunc 148 args).run Tryz.prog w = .ok (.enter 148 args) w)
  (A : Option Addr) (c : Nat) (l : List Int) (r : Bool) (b : Nat) (w : World) (hr : Kd.C (Kd.int .u8) w A l.length l) (hb : b < w.heap.size) (hcb : w.cell? ⟨b, 0, none⟩ = some (.func (.func h) #[] #[])) (hx : allO p l = some r) :
  Calls Tryz.prog 147 #[.slice A l.length c, .func (.func 148) #[] #[.pointer (some ⟨b, 0, none⟩)]] w fun e w' => e = .returned (.bool (!r)) ∧ Below w.heap.size w w' := by
 obtain ⟨i, hi, h1, h2⟩ := allO_idx p l r hx 0
 have hcall := fun W hr hb hcb => areAll_g125.idx h p hp eg eg90 A c l i b W hr hb hcb hi
 have HC := ak hcall
 have HR := ak hr
 have HB := ak hcb
 have EG := ak eg
 clear hcall hr hp hx hi hcb eg
 cases r with
 | true =>
  obtain rfl := h1 rfl
  clear h1 h2
  go_enter Tryz.func147, Tryz.ntmps147
  go_wp2_with (go_at_call 162; refine (HC.out _ HR.out hb HB.out).mono ?_; rintro e w' ⟨rfl, hb'⟩)
  go_ret
  exact ⟨rfl, hb'⟩
 | false =>
  have h3 := h2 rfl
  have h4 : decide (0 ≤ i) = true := decide_eq_true h3
  clear h1 h2
  go_enter Tryz.func147, Tryz.ntmps147
  go_wp2_with (go_at_call 162; refine (HC.out _ HR.out hb HB.out).mono ?_; rintro e w' ⟨rfl, hb'⟩)
  go_ret
  exact ⟨rfl, hb'⟩
set_option maxHeartbeats 800000 in
theorem areAll_g125.all (h : Nat) (p : Int → Option Bool) (hp : PredOk Tryz.prog h (Value.int .u8) p) (eg : ∀ args w, (callFunc h args).run Tryz.prog w = .ok (.enter h args) w)
  (A : Option Addr) (c : Nat) (l : List Int) (r : Bool) (w : World) (hr : Kd.C (Kd.int .u8) w A l.length l) (hx : allO p l = some r) :
  Calls Tryz.prog 125 #[.slice A l.length c, .func (.func h) #[] #[]] w fun e w' => e = .returned (.bool r) ∧ Below w.heap.size w w' := by
 have eg90 : ∀ args w, (callFunc 148 args).run Tryz.prog w = .ok (.enter 148 args) w := enters_of Tryz.func148 (by kernel_rfl) rfl
 have hcall := fun W b hr hb hcb => areAll_g125.has h p hp eg eg90 A c l r b W hr hb hcb hx
 have HC := ak hcall
 have HR := ak hr
 have EG := ak eg
 clear hcall hr hp hx eg
 go_enter Tryz.func125, Tryz.ntmps125
 go_wp2_with (go_at_call 147; refine (HC.out _ _ (Kd.C_alloc HR.out _) (by simp) (by simp)).mono ?_; rintro e w' ⟨rfl, hb'⟩)
 go_ret
 exact ⟨rfl, below_then (below_alloc (Below.refl _ _) _) (by simp) hb'⟩

/-! ### impl_areBytes_103: function 99 at the predicate 103 -/
def impl_areBytes_103.f (a0 : ByteArray) : Option Bool := if a0.size ≤ 9223372036854775807 then allO (fun x => impl_isToken_1.f x) (bytesOf a0) else none
set_option maxHeartbeats 800000 in
set_option maxRecDepth 100000 in
theorem impl_areBytes_103.calls (a0 : ByteArray) (r : Bool) (w : World) (h : impl_areBytes_103.f a0 = some r) :
  Calls Tryz.prog 99 #[.string a0, .func (.func 103) #[] #[]] w fun e w' => e = .returned (.bool r) ∧ Below w.heap.size w w' := by
 unfold impl_areBytes_103.f at h
 split at h
 ·rename_i hm
  have HR := Kd.C_of_reads (d := (0 : Int)) (h1 := fun _ => rfl) (bytes_reads w 5 a0 hm)
  have HB := ak (bytes_below (Below.refl w.heap.size w) (Nat.le_refl _) 5 a0)
  have hcall := areAll_g125.all 103 (fun x => impl_isToken_1.f x) (fun x r w h => by
   refine (impl_isToken_1.calls x r w h).mono ?_
   rintro e w' ⟨rfl, hb⟩
   exact ⟨rfl, hb⟩) (enters_of Tryz.func103 (by kernel_rfl) rfl) (some ⟨w.heap.size, 0, none⟩) (grownCap w a0.size 0 5) (bytesOf a0) r (Lib.bytesWorld w 5 a0) (by rw [bytesOf_length]; exact HR) h
  rw [bytesOf_length] at hcall
  have HC := ak hcall
  clear h hcall HR
  have kb := fun W => print_bytes (P := Tryz.prog) 9 36 5 Tryz.underlying9 Tryz.underlying36 Tryz.underlying5 a0 W
  go_enter Tryz.func99, Tryz.ntmps99
  go_wp2_with (go_at_call 125; refine HC.out.mono ?_; rintro e w' ⟨rfl, hb⟩)
  go_ret
  exact ⟨rfl, below_then HB.out (by rw [Lib.bytesWorld_size]; omega) hb⟩
 ·cases h


/-! ### impl_isToken: function 69 -/
def impl_isToken.f (a0 : ByteArray) : Option (Bool) := (impl_within.f (a0.size : Int) 1 60).bind fun t204 => (if t204 = true then ((impl_areBytes_103.f a0).bind fun t205 => (some t205)) else (some false))
set_option maxHeartbeats 8000000 in
set_option maxRecDepth 100000 in
theorem impl_isToken.calls (a0 : ByteArray) (r : Bool) (w : World) (h : impl_isToken.f a0 = some r) :
  Calls Tryz.prog 69 #[.string a0] w fun e w' => e = .returned (.bool r) ∧ Below w.heap.size w w' := by
 have HB := ak (Below.refl w.heap.size w)
 have H : ((impl_within.f (a0.size : Int) 1 60).bind fun t204 => (if t204 = true then ((impl_areBytes_103.f a0).bind fun t205 => (some t205)) else (some false))) = some r := h
 clear h
 replace H := bs H
 obtain ⟨t204, A2, H⟩ := H
 try dsimp only at H
 by_cases c3 : t204 = true
 ·subst c3
  rw [if_pos rfl] at H
  replace H := bs H
  obtain ⟨t205, A4, H⟩ := H
  try dsimp only at H
  obtain rfl := Option.some.inj H
  go_enter Tryz.func69, Tryz.ntmps69
  go_wp2_with (first | ((with_reducible refine gc 79 ?_); refine gL 79 Tryz.func79 (some 5) #[.int .i64 (a0.size : Int), .int .i64 1, .int .i64 60] ?_; (with_reducible refine (impl_within.calls (a0.size : Int) 1 60 true _ A2.out).mono ?_); rintro e w' ⟨rfl, ⟨nd, rfl⟩⟩; refine ⟨_, rfl, ?_⟩) | (go_at_call 99; (with_reducible refine (impl_areBytes_103.calls a0  t205 _ A4.out).mono ?_); rintro e w5 ⟨rfl, hb⟩; replace HB := ak (below_step (bl HB.out) hb); clear hb))
  go_ret
  exact ⟨by first | rfl | (simp [errW_none, errW_some] <;> rfl) | (simp [*, errW_none, errW_some] <;> rfl), bl HB.out⟩
 ·replace c3 := Bool.eq_false_iff.mpr c3
  subst c3
  rw [if_neg ff] at H
  obtain rfl := Option.some.inj H
  go_enter Tryz.func69, Tryz.ntmps69
  go_wp2_with (first | ((with_reducible refine gc 79 ?_); refine gL 79 Tryz.func79 (some 5) #[.int .i64 (a0.size : Int), .int .i64 1, .int .i64 60] ?_; (with_reducible refine (impl_within.calls (a0.size : Int) 1 60 false _ A2.out).mono ?_); rintro e w' ⟨rfl, ⟨nd, rfl⟩⟩; refine ⟨_, rfl, ?_⟩))
  go_ret
  exact ⟨by first | rfl | (simp [errW_none, errW_some] <;> rfl) | (simp [*, errW_none, errW_some] <;> rfl), bl HB.out⟩

/-! ### impl_isPrinted_1: function 111 -/
def impl_isPrinted_1.f (a0 : Int) : Option (Bool) := if a0 ≥ 32 then (some (decide (a0 ≤ 126))) else (some false)
set_option maxHeartbeats 8000000 in
set_option maxRecDepth 100000 in
theorem impl_isPrinted_1.calls (a0 : Int) (r : Bool) (w : World) (h : impl_isPrinted_1.f a0 = some r) :
  Calls Tryz.prog 111 #[.int .u8 a0] w fun e w' => e = .returned (.bool r) ∧ Drawn0 w w' := by
 have H : (if a0 ≥ 32 then (some (decide (a0 ≤ 126))) else (some false)) = some r := h
 clear h
 by_cases c2 : a0 ≥ 32
 ·rw [if_pos c2] at H
  have c2b0 : decide (32 ≤ a0) = true := decide_eq_true c2
  clear c2
  obtain rfl := Option.some.inj H
  go_enter Tryz.func111, Tryz.ntmps111
  go_wp2
  go_ret
  exact ⟨by first | rfl | (simp; done) | (simp [*]; done), by repeat (first | exact Drawn0.refl _ | apply Drawn0.step)⟩
 ·rw [if_neg c2] at H
  have c2b0 : decide (32 ≤ a0) = false := decide_eq_false c2
  clear c2
  obtain rfl := Option.some.inj H
  go_enter Tryz.func111, Tryz.ntmps111
  go_wp2
  go_ret
  exact ⟨by first | rfl | (simp; done) | (simp [*]; done), by repeat (first | exact Drawn0.refl _ | apply Drawn0.step)⟩


/-! ### impl_areBytes_111: function 99 at the predicate 111 -/
def impl_areBytes_111.f (a0 : ByteArray) : Option Bool := if a0.size ≤ 9223372036854775807 then allO (fun x => impl_isPrinted_1.f x) (bytesOf a0) else none
set_option maxHeartbeats 800000 in
set_option maxRecDepth 100000 in
theorem impl_areBytes_111.calls (a0 : ByteArray) (r : Bool) (w : World) (h : impl_areBytes_111.f a0 = some r) :
  Calls Tryz.prog 99 #[.string a0, .func (.func 111) #[] #[]] w fun e w' => e = .returned (.bool r) ∧ Below w.heap.size w w' := by
 unfold impl_areBytes_111.f at h
 split at h
 ·rename_i hm
  have HR := Kd.C_of_reads (d := (0 : Int)) (h1 := fun _ => rfl) (bytes_reads w 5 a0 hm)
  have HB := ak (bytes_below (Below.refl w.heap.size w) (Nat.le_refl _) 5 a0)
  have hcall := areAll_g125.all 111 (fun x => impl_isPrinted_1.f x) (fun x r w h => by
   refine (impl_isPrinted_1.calls x r w h).mono ?_
   rintro e w' ⟨rfl, hb⟩
   exact ⟨rfl, hb.below⟩) (enters_of Tryz.func111 (by kernel_rfl) rfl) (some ⟨w.heap.size, 0, none⟩) (grownCap w a0.size 0 5) (bytesOf a0) r (Lib.bytesWorld w 5 a0) (by rw [bytesOf_length]; exact HR) h
  rw [bytesOf_length] at hcall
  have HC := ak hcall
  clear h hcall HR
  have kb := fun W => print_bytes (P := Tryz.prog) 9 36 5 Tryz.underlying9 Tryz.underlying36 Tryz.underlying5 a0 W
  go_enter Tryz.func99, Tryz.ntmps99
  go_wp2_with (go_at_call 125; refine HC.out.mono ?_; rintro e w' ⟨rfl, hb⟩)
  go_ret
  exact ⟨rfl, below_then HB.out (by rw [Lib.bytesWorld_size]; omega) hb⟩
 ·cases h


/-! ### impl_isPrinted: function 80 -/
def impl_isPrinted.f (a0 : ByteArray) (a1 : Int) : Option (Bool) := if (a0.size : Int) ≤ a1 then ((impl_areBytes_111.f a0).bind fun t206 => (some t206)) else (some false)
set_option maxHeartbeats 8000000 in
set_option maxRecDepth 100000 in
theorem impl_isPrinted.calls (a0 : ByteArray) (a1 : Int) (r : Bool) (w : World) (h : impl_isPrinted.f a0 a1 = some r) :
  Calls Tryz.prog 80 #[.string a0, .int .i64 a1] w fun e w' => e = .returned (.bool r) ∧ Below w.heap.size w w' := by
 have HB := ak (Below.refl w.heap.size w)
 have H : (if (a0.size : Int) ≤ a1 then ((impl_areBytes_111.f a0).bind fun t206 => (some t206)) else (some false)) = some r := h
 clear h
 by_cases c3 : (a0.size : Int) ≤ a1
 ·rw [if_pos c3] at H
  have c3b0 : decide ((a0.size : Int) ≤ a1) = true := decide_eq_true c3
  clear c3
  replace H := bs H
  obtain ⟨t206, A4, H⟩ := H
  try dsimp only at H
  obtain rfl := Option.some.inj H
  go_enter Tryz.func80, Tryz.ntmps80
  go_wp2_with (first | (go_at_call 99; (with_reducible refine (impl_areBytes_111.calls a0  t206 _ A4.out).mono ?_); rintro e w5 ⟨rfl, hb⟩; replace HB := ak (below_step (bl HB.out) hb); clear hb))
  go_ret
  exact ⟨by first | rfl | (simp [errW_none, errW_some] <;> rfl) | (simp [*, errW_none, errW_some] <;> rfl), bl HB.out⟩
 ·rw [if_neg c3] at H
  have c3b0 : decide ((a0.size : Int) ≤ a1) = false := decide_eq_false c3
  clear c3
  obtain rfl := Option.some.inj H
  go_enter Tryz.func80, Tryz.ntmps80
  go_wp2
  go_ret
  exact ⟨by first | rfl | (simp [errW_none, errW_some] <;> rfl) | (simp [*, errW_none, errW_some] <;> rfl), bl HB.out⟩

/-! ### impl_GoodField: function 124 -/
def impl_GoodField.f (a0_0 : ByteArray) (a0_1 : ByteArray) : Option (Bool) := (impl_isToken.f a0_0).bind fun t208 => (if t208 = true then ((impl_isPrinted.f a0_1 300).bind fun t209 => (if t209 = true then ((strings_Trim.f a0_1 (⟨#[32]⟩ : ByteArray)).bind fun t210 => (some (t210.toList == a0_1.toList))) else (some false))) else (some false))
def impl_GoodField.T1 : Bool × List (List Nat × List Nat) := (true, [([], []), ([0], [0]), ([1], [1]), ([2, 2], [2]), ([3], [3]), ([4, 3], [3, 4]), ([5, 3, 3], [3, 5]), ([3, 6], [3, 6]), ([7, 6], [7]), ([8], [8]), ([9, 8], [8, 9]), ([10, 8, 8], [8, 10]), ([8], [8]), ([12, 8], [8, 12]), ([11, 13, 8], [8, 11, 13]), ([8, 14], [8, 14]), ([15, 11, 0, 1, 2, 3, 4, 5, 6, 7, 8, 9, 10, 11, 12, 13, 14, 15], [15])])
def impl_GoodField.B1 : List Nat := [0, 1, 3, 7, 15, 31, 63, 127, 255, 511, 1023, 2047, 511, 4607, 16383, 32767, 65535]
theorem impl_GoodField.tab1 : rtab .any (opsOf Tryz.f124 1) = impl_GoodField.T1 := by kernel_rfl
theorem impl_GoodField.bits1 : waitsOk impl_GoodField.T1.2 impl_GoodField.B1 = true := by kernel_rfl
set_option maxHeartbeats 8000000 in
set_option maxRecDepth 100000 in
theorem impl_GoodField.calls (a0_0 : ByteArray) (a0_1 : ByteArray) (r : Bool) (w : World) (h : impl_GoodField.f a0_0 a0_1 = some r) :
  Calls Tryz.prog 124 #[.agg #[.string a0_0, .string a0_1]] w fun e w' => e = .returned (.bool r) ∧ Below w.heap.size w w' := by
 have hu75 := Tryz.underlying75
 have HB := ak (Below.refl w.heap.size w)
 have H : ((impl_isToken.f a0_0).bind fun t208 => (if t208 = true then ((impl_isPrinted.f a0_1 300).bind fun t209 => (if t209 = true then ((strings_Trim.f a0_1 (⟨#[32]⟩ : ByteArray)).bind fun t210 => (some (t210.toList == a0_1.toList))) else (some false))) else (some false))) = some r := h
 clear h
 replace H := bs H
 obtain ⟨t208, A2, H⟩ := H
 try dsimp only at H
 by_cases c3 : t208 = true
 ·subst c3
  rw [if_pos rfl] at H
  replace H := bs H
  obtain ⟨t209, A4, H⟩ := H
  try dsimp only at H
  by_cases c5 : t209 = true
  ·subst c5
   rw [if_pos rfl] at H
   replace H := bs H
   obtain ⟨t210, A6, H⟩ := H
   try dsimp only at H
   obtain rfl := Option.some.inj H
   go_enter Tryz.func124, Tryz.ntmps124
   try go_wp2_with (first | ((with_reducible refine gd 1 ?_); refine bE 1 #[.string a0_0, .string a0_1] 75 ?_; intro gb207 hg w7 hbox hb; have BK207 := ak hbox; have GW207 := gs hg (bl HB.out); have GE207 := gs hg (bl HB.out); replace HB := ak (below_step (bl HB.out) hb); clear hb hbox hg))
   replace BK207 := ak (blk_drew BK207.out)
   replace HB := ak (below_drew1 HB.out)
   refine start_ (n := 17) (S := fun w' => w'.cell? ⟨gb207, 0, none⟩ = some (.string a0_0) ∧ w'.cell? ⟨gb207, 1, none⟩ = some (.string a0_1)) (ds := []) #[false, false, false, false, false, false, false, false, false, false, false, false, false, false, false, false, false] (by kernel_rfl) rfl rfl ⟨bc0 BK207.out, bc1 BK207.out⟩ (fun hHeld => ?_); refine with_tabW impl_GoodField.tab1 impl_GoodField.bits1 (fun HT_ HW_ => ?_)
   generalize w7.drew = w8 at BK207 HB hHeld ⊢
   refine pu 0 (some 3) HT_ ?_
   refine tk 1 (some 4) HT_ HW_ hHeld ?_
   refine on 2 (some 5) HT_ (fun K hK => ?_)
   refine gO Tryz.func69 #[.string a0_0] ?_
   with_reducible refine (impl_isToken.calls a0_0 true _ A2.out).mono ?_
   rintro e w9 ⟨rfl, hb⟩
   refine ⟨_, rfl, ?_⟩
   replace BK207 := ak (blk_below (bk BK207.out) hb)
   replace HB := ak (below_step (bl1 HB.out GE207.out) hb)
   clear hb
   refine hK.out _ _ ⟨bc0 BK207.out, bc1 BK207.out⟩ (fun hHeld => ?_)
   clear hK K
   refine nr (some 5) ?_
   refine pu 3 (some 6) HT_ ?_
   refine pu 4 (some 7) HT_ ?_
   refine tk 5 (some 8) HT_ HW_ hHeld ?_
   refine on 6 (some 9) HT_ (fun K hK => ?_)
   refine gO Tryz.func80 #[.string a0_1, .int .i64 300] ?_
   with_reducible refine (impl_isPrinted.calls a0_1 300 true _ A4.out).mono ?_
   rintro e w10 ⟨rfl, hb⟩
   refine ⟨_, rfl, ?_⟩
   replace BK207 := ak (blk_below (bk BK207.out) hb)
   replace HB := ak (below_step (bl1 HB.out GE207.out) hb)
   clear hb
   refine hK.out _ _ ⟨bc0 BK207.out, bc1 BK207.out⟩ (fun hHeld => ?_)
   clear hK K
   refine nr (some 9) ?_
   refine pu 7 (some 10) HT_ ?_
   refine pu 8 (some 11) HT_ ?_
   refine pu 9 (some 12) HT_ ?_
   refine pu 12 (some 15) HT_ ?_
   refine tk 10 (some 13) HT_ HW_ hHeld ?_
   refine tk 13 (some 16) HT_ HW_ hHeld ?_
   refine on 11 (some 14) HT_ (fun K hK => ?_)
   refine gO Tryz.func123 #[.string a0_1, .string (⟨#[32]⟩ : ByteArray)] ?_
   with_reducible refine (strings_Trim.calls a0_1 (⟨#[32]⟩ : ByteArray) t210 _ A6.out).mono ?_
   rintro e w11 ⟨rfl, hb⟩
   refine ⟨_, rfl, ?_⟩
   replace BK207 := ak (blk_below (bk BK207.out) hb)
   replace HB := ak (below_step (bl1 HB.out GE207.out) hb)
   clear hb
   refine hK.out _ _ ⟨bc0 BK207.out, bc1 BK207.out⟩ (fun hHeld => ?_)
   clear hK K
   refine nr (some 14) ?_
   refine pu 14 (some 17) HT_ ?_
   refine pu 15 (some 18) HT_ ?_
   refine pu 16 (some 2) HT_ ?_
   refine done_ (done_of HT_.out (by kernel_rfl)) ?_
   try go_wp2
   go_ret
   exact ⟨by first | rfl | (simp [errW_none, errW_some] <;> rfl) | (simp [*, errW_none, errW_some] <;> rfl), bl1 HB.out GE207.out⟩
  ·replace c5 := Bool.eq_false_iff.mpr c5
   subst c5
   rw [if_neg ff] at H
   obtain rfl := Option.some.inj H
   go_enter Tryz.func124, Tryz.ntmps124
   try go_wp2_with (first | ((with_reducible refine gd 1 ?_); refine bE 1 #[.string a0_0, .string a0_1] 75 ?_; intro gb207 hg w12 hbox hb; have BK207 := ak hbox; have GW207 := gs hg (bl HB.out); have GE207 := gs hg (bl HB.out); replace HB := ak (below_step (bl HB.out) hb); clear hb hbox hg))
   replace BK207 := ak (blk_drew BK207.out)
   replace HB := ak (below_drew1 HB.out)
   refine start_ (n := 17) (S := fun w' => w'.cell? ⟨gb207, 0, none⟩ = some (.string a0_0) ∧ w'.cell? ⟨gb207, 1, none⟩ = some (.string a0_1)) (ds := []) #[false, false, false, false, false, false, false, false, false, false, false, false, false, false, false, false, false] (by kernel_rfl) rfl rfl ⟨bc0 BK207.out, bc1 BK207.out⟩ (fun hHeld => ?_); refine with_tabW impl_GoodField.tab1 impl_GoodField.bits1 (fun HT_ HW_ => ?_)
   generalize w12.drew = w13 at BK207 HB hHeld ⊢
   refine pu 0 (some 3) HT_ ?_
   refine tk 1 (some 4) HT_ HW_ hHeld ?_
   refine on 2 (some 5) HT_ (fun K hK => ?_)
   refine gO Tryz.func69 #[.string a0_0] ?_
   with_reducible refine (impl_isToken.calls a0_0 true _ A2.out).mono ?_
   rintro e w14 ⟨rfl, hb⟩
   refine ⟨_, rfl, ?_⟩
   replace BK207 := ak (blk_below (bk BK207.out) hb)
   replace HB := ak (below_step (bl1 HB.out GE207.out) hb)
   clear hb
   refine hK.out _ _ ⟨bc0 BK207.out, bc1 BK207.out⟩ (fun hHeld => ?_)
   clear hK K
   refine nr (some 5) ?_
   refine pu 3 (some 6) HT_ ?_
   refine pu 4 (some 7) HT_ ?_
   refine tk 5 (some 8) HT_ HW_ hHeld ?_
   refine on 6 (some 9) HT_ (fun K hK => ?_)
   refine gO Tryz.func80 #[.string a0_1, .int .i64 300] ?_
   with_reducible refine (impl_isPrinted.calls a0_1 300 false _ A4.out).mono ?_
   rintro e w15 ⟨rfl, hb⟩
   refine ⟨_, rfl, ?_⟩
   replace BK207 := ak (blk_below (bk BK207.out) hb)
   replace HB := ak (below_step (bl1 HB.out GE207.out) hb)
   clear hb
   refine hK.out _ _ ⟨bc0 BK207.out, bc1 BK207.out⟩ (fun hHeld => ?_)
   clear hK K
   refine nr (some 9) ?_
   refine pu 7 (some 10) HT_ ?_
   refine pu 8 (some 11) HT_ ?_
   refine pn 9 (some 12) HT_ ?_
   refine pn 10 (some 13) HT_ ?_
   refine pn 11 (some 14) HT_ ?_
   refine pn 12 (some 15) HT_ ?_
   refine pn 13 (some 16) HT_ ?_
   refine pn 14 (some 17) HT_ ?_
   refine pu 15 (some 18) HT_ ?_
   refine pu 16 (some 2) HT_ ?_
   refine done_ (done_of HT_.out (by kernel_rfl)) ?_
   try go_wp2
   go_ret
   exact ⟨by first | rfl | (simp [errW_none, errW_some] <;> rfl) | (simp [*, errW_none, errW_some] <;> rfl), bl1 HB.out GE207.out⟩
 ·replace c3 := Bool.eq_false_iff.mpr c3
  subst c3
  rw [if_neg ff] at H
  obtain rfl := Option.some.inj H
  go_enter Tryz.func124, Tryz.ntmps124
  try go_wp2_with (first | ((with_reducible refine gd 1 ?_); refine bE 1 #[.string a0_0, .string a0_1] 75 ?_; intro gb207 hg w16 hbox hb; have BK207 := ak hbox; have GW207 := gs hg (bl HB.out); have GE207 := gs hg (bl HB.out); replace HB := ak (below_step (bl HB.out) hb); clear hb hbox hg))
  replace BK207 := ak (blk_drew BK207.out)
  replace HB := ak (below_drew1 HB.out)
  refine start_ (n := 17) (S := fun w' => w'.cell? ⟨gb207, 0, none⟩ = some (.string a0_0) ∧ w'.cell? ⟨gb207, 1, none⟩ = some (.string a0_1)) (ds := []) #[false, false, false, false, false, false, false, false, false, false, false, false, false, false, false, false, false] (by kernel_rfl) rfl rfl ⟨bc0 BK207.out, bc1 BK207.out⟩ (fun hHeld => ?_); refine with_tabW impl_GoodField.tab1 impl_GoodField.bits1 (fun HT_ HW_ => ?_)
  generalize w16.drew = w17 at BK207 HB hHeld ⊢
  refine pu 0 (some 3) HT_ ?_
  refine tk 1 (some 4) HT_ HW_ hHeld ?_
  refine on 2 (some 5) HT_ (fun K hK => ?_)
  refine gO Tryz.func69 #[.string a0_0] ?_
  with_reducible refine (impl_isToken.calls a0_0 false _ A2.out).mono ?_
  rintro e w18 ⟨rfl, hb⟩
  refine ⟨_, rfl, ?_⟩
  replace BK207 := ak (blk_below (bk BK207.out) hb)
  replace HB := ak (below_step (bl1 HB.out GE207.out) hb)
  clear hb
  refine hK.out _ _ ⟨bc0 BK207.out, bc1 BK207.out⟩ (fun hHeld => ?_)
  clear hK K
  refine nr (some 5) ?_
  refine pu 3 (some 6) HT_ ?_
  refine pn 4 (some 7) HT_ ?_
  refine pn 5 (some 8) HT_ ?_
  refine pn 6 (some 9) HT_ ?_
  refine pu 7 (some 10) HT_ ?_
  refine pu 8 (some 11) HT_ ?_
  refine pn 9 (some 12) HT_ ?_
  refine pn 10 (some 13) HT_ ?_
  refine pn 11 (some 14) HT_ ?_
  refine pn 12 (some 15) HT_ ?_
  refine pn 13 (some 16) HT_ ?_
  refine pn 14 (some 17) HT_ ?_
  refine pu 15 (some 18) HT_ ?_
  refine pu 16 (some 2) HT_ ?_
  refine done_ (done_of HT_.out (by kernel_rfl)) ?_
  try go_wp2
  go_ret
  exact ⟨by first | rfl | (simp [errW_none, errW_some] <;> rfl) | (simp [*, errW_none, errW_some] <;> rfl), bl1 HB.out GE207.out⟩

end Go.Proofs.YthneflfbafieeaaGreatDoor.PFnTorn
