-- written by a program of this session (wip/tool)
import Derived.Test.YtlmnmakkojgfnaaGreatDoorPFnExactKeptForx0
import Derived.Test.YtlmnmakkojgfnaaGreatDoorPFnExactKeptForx14
import Derived.Test.YtlmnmakkojgfnaaGreatDoorVOwn0
import Derived.Test.YtlmnmakkojgfnaaGreatDoorVOwnOpen
import Derived.WalkKit
import Derived.BigCall
import Derived.Test.YtlmnmakkojgfnaaGreatDoorOwnTr
import Derived.Test.YtlmnmakkojgfnaaGreatDoorVOwnShort
import Derived.Test.YtlmnmakkojgfnaaGreatDoorOwnSq
import Derived.Test.YtlmnmakkojgfnaaGreatDoorOwnIt
namespace Go.Proofs.YtlmnmakkojgfnaaGreatDoor.PFnExactKeptFor
open Go.RowKit Go.Proofs.YtlmnmakkojgfnaaGreatDoorW.PrintWords Go.Proofs.YtlmnmakkojgfnaaGreatDoorW.PrintLast Go.Proofs.YtlmnmakkojgfnaaGreatDoorW.PrintMore Go.Shelf Go.Proofs.YtlmnmakkojgfnaaGreatDoorOwn
attribute [local go_sem] max2_int min2_int max_two min_two max_three min_three max_four min_four   -- for this text's walks alone
set_option linter.unusedVariables false
set_option linter.unusedSimpArgs false

/-! ### impl_GoodField: function 141 -/
def impl_GoodField.f (a0_0 : ByteArray) (a0_1 : ByteArray) : Option (Bool) := (impl_isToken.f a0_0).bind fun t393 => (if t393 = true then ((impl_isPrinted.f a0_1 300).bind fun t394 => (if t394 = true then ((strings_Trim.f a0_1 (⟨#[32]⟩ : ByteArray)).bind fun t395 => (some (t395.toList == a0_1.toList))) else (some false))) else (some false))
def impl_GoodField.T1 : Bool × List (List Nat × List Nat) := (true, [([], []), ([0], [0]), ([1], [1]), ([2, 2], [2]), ([3], [3]), ([4, 3], [3, 4]), ([5, 3, 3], [3, 5]), ([3, 6], [3, 6]), ([7, 6], [7]), ([8], [8]), ([9, 8], [8, 9]), ([10, 8, 8], [8, 10]), ([8], [8]), ([12, 8], [8, 12]), ([11, 13, 8], [8, 11, 13]), ([8, 14], [8, 14]), ([15, 11, 0, 1, 2, 3, 4, 5, 6, 7, 8, 9, 10, 11, 12, 13, 14, 15], [15])])
def impl_GoodField.B1 : List Nat := [0, 1, 3, 7, 15, 31, 63, 127, 255, 511, 1023, 2047, 511, 4607, 16383, 32767, 65535]
theorem impl_GoodField.tab1 : rtab .any (opsOf Tryz.f141 1) = impl_GoodField.T1 := by kernel_rfl
theorem impl_GoodField.bits1 : waitsOk impl_GoodField.T1.2 impl_GoodField.B1 = true := by kernel_rfl
set_option maxHeartbeats 8000000 in
set_option maxRecDepth 100000 in
theorem impl_GoodField.calls (a0_0 : ByteArray) (a0_1 : ByteArray) (r : Bool) (w : World) (h : impl_GoodField.f a0_0 a0_1 = some r) :
  Calls Tryz.prog 141 #[.agg #[.string a0_0, .string a0_1]] w fun e w' => e = .returned (.bool r) ∧ Below w.heap.size w w' := by
 have hu105 := Tryz.underlying105
 have HB := ak (Below.refl w.heap.size w)
 unfold impl_GoodField.f at h; have H := h
 clear h
 replace H := bs H
 obtain ⟨t393, A2, H⟩ := H
 try dsimp only at H
 by_cases c3 : t393 = true
 ·subst c3
  rw [if_pos rfl] at H
  replace H := bs H
  obtain ⟨t394, A4, H⟩ := H
  try dsimp only at H
  by_cases c5 : t394 = true
  ·subst c5
   rw [if_pos rfl] at H
   replace H := bs H
   obtain ⟨t395, A6, H⟩ := H
   try dsimp only at H
   obtain rfl := Option.some.inj H
   go_enter Tryz.func141, Tryz.ntmps141
   try go_wp2_with (first | ((with_reducible refine gd 1 ?_); refine bE 1 #[.string a0_0, .string a0_1] 105 ?_; intro gb392 hg w7 hbox hb; have BK392 := ak hbox; have GW392 := gs hg (bl HB.out); have GE392 := gs hg (bl HB.out); replace HB := ak (below_step (bl HB.out) hb); clear hb hbox hg))
   replace BK392 := ak (blk_drew BK392.out)
   replace HB := ak (below_drew1 HB.out)
   refine start_ (n := 17) (S := fun w' => w'.cell? ⟨gb392, 0, none⟩ = some (.string a0_0) ∧ w'.cell? ⟨gb392, 1, none⟩ = some (.string a0_1)) (ds := []) #[false, false, false, false, false, false, false, false, false, false, false, false, false, false, false, false, false] (by kernel_rfl) rfl rfl ⟨bc0 BK392.out, bc1 BK392.out⟩ (fun hHeld => ?_); refine with_tabW impl_GoodField.tab1 impl_GoodField.bits1 (fun HT_ HW_ => ?_)
   generalize w7.drew = w8 at BK392 HB hHeld ⊢
   refine pu 0 (some 3) HT_ ?_
   refine tk 1 (some 4) HT_ HW_ hHeld ?_
   refine on 2 (some 5) HT_ (fun K hK => ?_)
   refine gO Tryz.func144 #[.string a0_0] ?_
   with_reducible refine (impl_isToken.calls a0_0 true _ A2.out).mono ?_
   rintro e w9 ⟨rfl, hb⟩
   refine ⟨_, rfl, ?_⟩
   replace BK392 := ak (blk_below (bk BK392.out) hb)
   replace HB := ak (below_step (bl1 HB.out GE392.out) hb)
   clear hb
   refine hK.out _ _ ⟨bc0 BK392.out, bc1 BK392.out⟩ (fun hHeld => ?_)
   clear hK K
   refine nr (some 5) ?_
   refine pu 3 (some 6) HT_ ?_
   refine pu 4 (some 7) HT_ ?_
   refine tk 5 (some 8) HT_ HW_ hHeld ?_
   refine on 6 (some 9) HT_ (fun K hK => ?_)
   refine gO Tryz.func176 #[.string a0_1, .int .i64 300] ?_
   with_reducible refine (impl_isPrinted.calls a0_1 300 true _ A4.out).mono ?_
   rintro e w10 ⟨rfl, hb⟩
   refine ⟨_, rfl, ?_⟩
   replace BK392 := ak (blk_below (bk BK392.out) hb)
   replace HB := ak (below_step (bl1 HB.out GE392.out) hb)
   clear hb
   refine hK.out _ _ ⟨bc0 BK392.out, bc1 BK392.out⟩ (fun hHeld => ?_)
   clear hK K
   refine nr (some 9) ?_
   refine pu 7 (some 10) HT_ ?_
   refine pu 8 (some 11) HT_ ?_
   refine pu 9 (some 12) HT_ ?_
   refine pu 12 (some 15) HT_ ?_
   refine tk 10 (some 13) HT_ HW_ hHeld ?_
   refine tk 13 (some 16) HT_ HW_ hHeld ?_
   refine on 11 (some 14) HT_ (fun K hK => ?_)
   refine gO Tryz.func177 #[.string a0_1, .string (⟨#[32]⟩ : ByteArray)] ?_
   with_reducible refine (strings_Trim.calls a0_1 (⟨#[32]⟩ : ByteArray) t395 _ A6.out).mono ?_
   rintro e w11 ⟨rfl, hb⟩
   refine ⟨_, rfl, ?_⟩
   replace BK392 := ak (blk_below (bk BK392.out) hb)
   replace HB := ak (below_step (bl1 HB.out GE392.out) hb)
   clear hb
   refine hK.out _ _ ⟨bc0 BK392.out, bc1 BK392.out⟩ (fun hHeld => ?_)
   clear hK K
   refine nr (some 14) ?_
   refine pu 14 (some 17) HT_ ?_
   refine pu 15 (some 18) HT_ ?_
   refine pu 16 (some 2) HT_ ?_
   refine done_ (done_of HT_.out (by kernel_rfl)) ?_
   try go_wp2
   go_ret
   exact rz (bl1 HB.out GE392.out)
  ·replace c5 := Bool.eq_false_iff.mpr c5
   subst c5
   rw [if_neg ff] at H
   obtain rfl := Option.some.inj H
   go_enter Tryz.func141, Tryz.ntmps141
   try go_wp2_with (first | ((with_reducible refine gd 1 ?_); refine bE 1 #[.string a0_0, .string a0_1] 105 ?_; intro gb392 hg w12 hbox hb; have BK392 := ak hbox; have GW392 := gs hg (bl HB.out); have GE392 := gs hg (bl HB.out); replace HB := ak (below_step (bl HB.out) hb); clear hb hbox hg))
   replace BK392 := ak (blk_drew BK392.out)
   replace HB := ak (below_drew1 HB.out)
   refine start_ (n := 17) (S := fun w' => w'.cell? ⟨gb392, 0, none⟩ = some (.string a0_0) ∧ w'.cell? ⟨gb392, 1, none⟩ = some (.string a0_1)) (ds := []) #[false, false, false, false, false, false, false, false, false, false, false, false, false, false, false, false, false] (by kernel_rfl) rfl rfl ⟨bc0 BK392.out, bc1 BK392.out⟩ (fun hHeld => ?_); refine with_tabW impl_GoodField.tab1 impl_GoodField.bits1 (fun HT_ HW_ => ?_)
   generalize w12.drew = w13 at BK392 HB hHeld ⊢
   refine pu 0 (some 3) HT_ ?_
   refine tk 1 (some 4) HT_ HW_ hHeld ?_
   refine on 2 (some 5) HT_ (fun K hK => ?_)
   refine gO Tryz.func144 #[.string a0_0] ?_
   with_reducible refine (impl_isToken.calls a0_0 true _ A2.out).mono ?_
   rintro e w14 ⟨rfl, hb⟩
   refine ⟨_, rfl, ?_⟩
   replace BK392 := ak (blk_below (bk BK392.out) hb)
   replace HB := ak (below_step (bl1 HB.out GE392.out) hb)
   clear hb
   refine hK.out _ _ ⟨bc0 BK392.out, bc1 BK392.out⟩ (fun hHeld => ?_)
   clear hK K
   refine nr (some 5) ?_
   refine pu 3 (some 6) HT_ ?_
   refine pu 4 (some 7) HT_ ?_
   refine tk 5 (some 8) HT_ HW_ hHeld ?_
   refine on 6 (some 9) HT_ (fun K hK => ?_)
   refine gO Tryz.func176 #[.string a0_1, .int .i64 300] ?_
   with_reducible refine (impl_isPrinted.calls a0_1 300 false _ A4.out).mono ?_
   rintro e w15 ⟨rfl, hb⟩
   refine ⟨_, rfl, ?_⟩
   replace BK392 := ak (blk_below (bk BK392.out) hb)
   replace HB := ak (below_step (bl1 HB.out GE392.out) hb)
   clear hb
   refine hK.out _ _ ⟨bc0 BK392.out, bc1 BK392.out⟩ (fun hHeld => ?_)
   clear hK K
   refine nr (some 9) ?_
   refine pu 7 (some 10) HT_ ?_
   refine pu 8 (some 11) HT_ ?_
   refine pn 9 (some 12) HT_ ?_
   refine pn 10 (some 13) HT_ ?_
   refine pn 11 (some 14) HT_ ?_
   refine pn 12 (some 15) HT_ ?_
   refine pn 13 (some 16) HT_ ?_
   refine pn 14 (some 17) HT_ ?_
   refine pu 15 (some 18) HT_ ?_
   refine pu 16 (some 2) HT_ ?_
   refine done_ (done_of HT_.out (by kernel_rfl)) ?_
   try go_wp2
   go_ret
   exact rz (bl1 HB.out GE392.out)
 ·replace c3 := Bool.eq_false_iff.mpr c3
  subst c3
  rw [if_neg ff] at H
  obtain rfl := Option.some.inj H
  go_enter Tryz.func141, Tryz.ntmps141
  try go_wp2_with (first | ((with_reducible refine gd 1 ?_); refine bE 1 #[.string a0_0, .string a0_1] 105 ?_; intro gb392 hg w16 hbox hb; have BK392 := ak hbox; have GW392 := gs hg (bl HB.out); have GE392 := gs hg (bl HB.out); replace HB := ak (below_step (bl HB.out) hb); clear hb hbox hg))
  replace BK392 := ak (blk_drew BK392.out)
  replace HB := ak (below_drew1 HB.out)
  refine start_ (n := 17) (S := fun w' => w'.cell? ⟨gb392, 0, none⟩ = some (.string a0_0) ∧ w'.cell? ⟨gb392, 1, none⟩ = some (.string a0_1)) (ds := []) #[false, false, false, false, false, false, false, false, false, false, false, false, false, false, false, false, false] (by kernel_rfl) rfl rfl ⟨bc0 BK392.out, bc1 BK392.out⟩ (fun hHeld => ?_); refine with_tabW impl_GoodField.tab1 impl_GoodField.bits1 (fun HT_ HW_ => ?_)
  generalize w16.drew = w17 at BK392 HB hHeld ⊢
  refine pu 0 (some 3) HT_ ?_
  refine tk 1 (some 4) HT_ HW_ hHeld ?_
  refine on 2 (some 5) HT_ (fun K hK => ?_)
  refine gO Tryz.func144 #[.string a0_0] ?_
  with_reducible refine (impl_isToken.calls a0_0 false _ A2.out).mono ?_
  rintro e w18 ⟨rfl, hb⟩
  refine ⟨_, rfl, ?_⟩
  replace BK392 := ak (blk_below (bk BK392.out) hb)
  replace HB := ak (below_step (bl1 HB.out GE392.out) hb)
  clear hb
  refine hK.out _ _ ⟨bc0 BK392.out, bc1 BK392.out⟩ (fun hHeld => ?_)
  clear hK K
  refine nr (some 5) ?_
  refine pu 3 (some 6) HT_ ?_
  refine pn 4 (some 7) HT_ ?_
  refine pn 5 (some 8) HT_ ?_
  refine pn 6 (some 9) HT_ ?_
  refine pu 7 (some 10) HT_ ?_
  refine pu 8 (some 11) HT_ ?_
  refine pn 9 (some 12) HT_ ?_
  refine pn 10 (some 13) HT_ ?_
  refine pn 11 (some 14) HT_ ?_
  refine pn 12 (some 15) HT_ ?_
  refine pn 13 (some 16) HT_ ?_
  refine pn 14 (some 17) HT_ ?_
  refine pu 15 (some 18) HT_ ?_
  refine pu 16 (some 2) HT_ ?_
  refine done_ (done_of HT_.out (by kernel_rfl)) ?_
  try go_wp2
  go_ret
  exact rz (bl1 HB.out GE392.out)

/-! ### areAll, function 140, at any predicate -/
set_option maxHeartbeats 800000 in
theorem areAll_g140.neg (h : Nat) (p : S105 → Option Bool) (hp : PredOk Tryz.prog h (fun x : S105 => Value.agg #[.string x.f0, .string x.f1]) p) (eg : ∀ args w, (callFunc h args).run Tryz.prog w = .ok (.enter h args) w)
  (x : S105) (r : Bool) (b : Nat) (w : World) (hb : b < w.heap.size) (hc : w.cell? ⟨b, 0, none⟩ = some (.func (.func h) #[] #[])) (hx : p x = some r) :
  Calls Tryz.prog 175 #[.agg #[.string x.f0, .string x.f1], .pointer (some ⟨b, 0, none⟩)] w fun e w' => e = .returned (.bool (!r)) ∧ Below w.heap.size w w' := by
 have hh := hp x r
 clear hp
 go_enter Tryz.func175, Tryz.ntmps175
 go_wp2_with (go_at_fn h; refine (hh _ hx).mono ?_; rintro e w' ⟨rfl, hb'⟩)
 go_ret
 exact ⟨rfl, below_then (below_alloc (Below.refl _ _) _) (by simp) hb'⟩
set_option maxHeartbeats 800000 in
theorem areAll_g140.idx (h : Nat) (p : S105 → Option Bool) (hp : PredOk Tryz.prog h (fun x : S105 => Value.agg #[.string x.f0, .string x.f1]) p) (eg : ∀ args w, (callFunc h args).run Tryz.prog w = .ok (.enter h args) w)
  (eg90 : ∀ args w, (callFunc 175 args).run Tryz.prog w = .ok (.enter 175 args) w)
  (A : Option Addr) (c : Nat) (l : List S105) (r : Int) (b : Nat) (w : World) (hr : Kd.C k105 w A l.length l) (hb : b < w.heap.size) (hcb : w.cell? ⟨b, 0, none⟩ = some (.func (.func h) #[] #[])) (hx : idxO p l 0 = some r) :
  Calls Tryz.prog 196 #[.slice A l.length c, .func (.func 175) #[] #[.pointer (some ⟨b, 0, none⟩)]] w fun e w' => e = .returned (.int .i64 r) ∧ Below w.heap.size w w' := by
 have hm := Kd.C_max hr
 have HX := ak hx
 have HP := ak hp
 have HR := ak hr
 have HC := ak hcb
 have EG := ak eg
 clear hx hp hr hcb eg
 go_enter Tryz.func196, Tryz.ntmps196
 go_wp2
 go_loopg [5, 8] l.length (fun gg _ s8 wr => ∃ j : Nat, j ≤ l.length ∧ l.length - j ≤ gg ∧ s8 = .int .i64 j ∧ Aside0 (Below w.heap.size w wr) ∧ Aside0 (idxO p (l.drop j) j = some r))
 case atStart => exact ⟨0, Nat.zero_le _, by omega, rfl, ⟨Below.refl _ w⟩, ⟨HX.out⟩⟩
 case round =>
  obtain ⟨j, hj, hg, rfl, BW, HA⟩ := hrel
  by_cases hlt : j < l.length
  ·have hlt' : (j : Int) < (l.length : Int) := by omega
   have h0 : (0 : Int) ≤ (j : Int) := by omega
   obtain ⟨bo, hbo, hy, hn⟩ := idxO_step p l z105 j hlt r HA.out
   obtain ⟨ad, ea, hx0, hx1⟩ := at_T105 (Kd.C_below HR.out BW.out) (j : Int) h0 hlt'
   cases ea
   simp only [Int.toNat_natCast] at hx0 hx1
   have hc2 := (BW.out.cell (p := ⟨b, 0, none⟩) hb).trans HC.out
   have hbw : w.heap.size ≤ wr.heap.size := BW.out.size
   rw [show rd_T105 l (j : Int) = l.getD j z105 from rfl] at hx0 hx1
   generalize l.getD j z105 = y at hbo hx0 hx1
   have hcall := areAll_g140.neg h p HP.out EG.out y bo b wr (by omega) hc2 hbo
   have HY := ak hy
   have HN := ak hn
   have HC2 := ak hcall
   clear hy hn hbo hcall hc2
   cases bo with
   | true =>
    go_wp2_with (go_at_fn 175; refine HC2.out.mono ?_; rintro e w' ⟨rfl, hb'⟩)
    go_roundg (l.length - (j + 1))
    case measure => omega
    case rel => exact ⟨j + 1, by omega, by omega, by go_num, ⟨below_then BW.out hbw hb'⟩, ⟨HY.out (by simp)⟩⟩
   | false =>
    go_wp2_with (go_at_fn 175; refine HC2.out.mono ?_; rintro e w' ⟨rfl, hb'⟩)
    go_ret
    exact ⟨congrArg (fun z => Ending.returned (.int .i64 z)) (HN.out (by simp)).symm, below_then BW.out hbw hb'⟩
  ·have hlt' : ¬ (j : Int) < (l.length : Int) := by omega
   have : j = l.length := by omega
   subst this
   have HA2 := HA.out
   rw [List.drop_length] at HA2
   simp only [idxO, Option.some.injEq] at HA2
   have HA3 := ak HA2
   clear HA2
   go_wp2
   go_ret
   exact ⟨congrArg (fun z => Ending.returned (.int .i64 z)) HA3.out, BW.out⟩
set_option maxHeartbeats 800000 in
theorem areAll_g140.has (h : Nat) (p : S105 → Option Bool) (hp : PredOk Tryz.prog h (fun x : S105 => Value.agg #[.string x.f0, .string x.f1]) p) (eg : ∀ args w, (callFunc h args).run Tryz.prog w = .ok (.enter h args) w)
  (eg90 : ∀ args w, (callFunc 175 args).run Tryz.prog w = .ok (.enter 175 args) w)
  (A : Option Addr) (c : Nat) (l : List S105) (r : Bool) (b : Nat) (w : World) (hr : Kd.C k105 w A l.length l) (hb : b < w.heap.size) (hcb : w.cell? ⟨b, 0, none⟩ = some (.func (.func h) #[] #[])) (hx : allO p l = some r) :
  Calls Tryz.prog 174 #[.slice A l.length c, .func (.func 175) #[] #[.pointer (some ⟨b, 0, none⟩)]] w fun e w' => e = .returned (.bool (!r)) ∧ Below w.heap.size w w' := by
 obtain ⟨i, hi, h1, h2⟩ := allO_idx p l r hx 0
 have hcall := fun W hr hb hcb => areAll_g140.idx h p hp eg eg90 A c l i b W hr hb hcb hi
 have HC := ak hcall
 have HR := ak hr
 have HB := ak hcb
 have EG := ak eg
 clear hcall hr hp hx hi hcb eg
 cases r with
 | true =>
  obtain rfl := h1 rfl
  clear h1 h2
  go_enter Tryz.func174, Tryz.ntmps174
  go_wp2_with (go_at_call 196; refine (HC.out _ HR.out hb HB.out).mono ?_; rintro e w' ⟨rfl, hb'⟩)
  go_ret
  exact ⟨rfl, hb'⟩
 | false =>
  have h3 := h2 rfl
  have h4 : decide (0 ≤ i) = true := decide_eq_true h3
  clear h1 h2
  go_enter Tryz.func174, Tryz.ntmps174
  go_wp2_with (go_at_call 196; refine (HC.out _ HR.out hb HB.out).mono ?_; rintro e w' ⟨rfl, hb'⟩)
  go_ret
  exact ⟨rfl, hb'⟩
set_option maxHeartbeats 800000 in
theorem areAll_g140.all (h : Nat) (p : S105 → Option Bool) (hp : PredOk Tryz.prog h (fun x : S105 => Value.agg #[.string x.f0, .string x.f1]) p) (eg : ∀ args w, (callFunc h args).run Tryz.prog w = .ok (.enter h args) w)
  (A : Option Addr) (c : Nat) (l : List S105) (r : Bool) (w : World) (hr : Kd.C k105 w A l.length l) (hx : allO p l = some r) :
  Calls Tryz.prog 140 #[.slice A l.length c, .func (.func h) #[] #[]] w fun e w' => e = .returned (.bool r) ∧ Below w.heap.size w w' := by
 have eg90 : ∀ args w, (callFunc 175 args).run Tryz.prog w = .ok (.enter 175 args) w := enters_of Tryz.func175 (by kernel_rfl) rfl
 have hcall := fun W b hr hb hcb => areAll_g140.has h p hp eg eg90 A c l r b W hr hb hcb hx
 have HC := ak hcall
 have HR := ak hr
 have EG := ak eg
 clear hcall hr hp hx eg
 go_enter Tryz.func140, Tryz.ntmps140
 go_wp2_with (go_at_call 174; refine (HC.out _ _ (Kd.C_alloc HR.out _) (by simp) (by simp)).mono ?_; rintro e w' ⟨rfl, hb'⟩)
 go_ret
 exact ⟨rfl, below_then (below_alloc (Below.refl _ _) _) (by simp) hb'⟩

/-! ### impl_Field__141: function 140 at the predicate 141 -/
def impl_Field__141.f (l0 : List (S105)) : Option Bool := allO (fun x => impl_GoodField.f x.f0 x.f1) l0
theorem impl_Field__141.calls (A0 : Option Addr) (c0 : Nat) (l0 : List (S105)) (r : Bool) (w : World) (hr0 : Kd.C k105 w A0 l0.length l0) (hc0 : l0.length ≤ c0) (h : impl_Field__141.f l0 = some r) :
  Calls Tryz.prog 140 #[.slice A0 l0.length c0, .func (.func 141) #[] #[]] w fun e w' => e = .returned (.bool r) ∧ Below w.heap.size w w' := by
 refine areAll_g140.all 141 (fun x => impl_GoodField.f x.f0 x.f1) (fun x r w h => ?_) (enters_of Tryz.func141 (by kernel_rfl) rfl) A0 c0 l0 r w hr0 h
 refine (impl_GoodField.calls x.f0 x.f1 r w h).mono ?_
 rintro e w' ⟨rfl, hb⟩
 exact ⟨rfl, hb⟩

/-! ### impl_areFields: function 96 -/
def impl_areFields.f (l0 : List (S105)) : Option (Bool) := if (l0.length : Int) ≤ 40 then ((impl_Field__141.f l0).bind fun t396 => (some t396)) else (some false)
set_option maxHeartbeats 8000000 in
set_option maxRecDepth 100000 in
theorem impl_areFields.calls (A0 : Option Addr) (c0 : Nat) (l0 : List (S105)) (r : Bool) (w : World) (hr0 : Kd.C k105 w A0 l0.length l0) (hc0 : l0.length ≤ c0) (h : impl_areFields.f l0 = some r) :
  Calls Tryz.prog 96 #[.slice A0 l0.length c0] w fun e w' => e = .returned (.bool r) ∧ Below w.heap.size w w' := by
 have HR0 := ak hr0
 have HC0 := ak hc0
 clear hr0 hc0
 have HB := ak (Below.refl w.heap.size w)
 unfold impl_areFields.f at h; have H := h
 clear h
 by_cases c2 : (l0.length : Int) ≤ 40
 ·rw [if_pos c2] at H
  have c2b0 := decide_eq_true c2
  have c2b1 : decide (l0.length ≤ 40) = true := decide_eq_true (by omega)
  clear c2
  replace H := bs H
  obtain ⟨t396, A3, H⟩ := H
  try dsimp only at H
  obtain rfl := Option.some.inj H
  go_enter Tryz.func96, Tryz.ntmps96
  go_wp2_with (first | (go_at_call 140; (with_reducible refine (impl_Field__141.calls _ _ l0  t396 _ ?side1 ?side2 A3.out).mono ?_); (case side1 => exact kc HR0.out); (case side2 => exact HC0.out); rintro e w4 ⟨rfl, hb⟩; replace HB := ak (below_step (bl HB.out) hb); clear hb))
  go_ret
  exact rz (bl HB.out)
 ·rw [if_neg c2] at H
  have c2b0 := decide_eq_false c2
  have c2b1 : decide (l0.length ≤ 40) = false := decide_eq_false (by omega)
  clear c2
  obtain rfl := Option.some.inj H
  go_enter Tryz.func96, Tryz.ntmps96
  go_wp2
  go_ret
  exact rz (bl HB.out)

/-! ### impl_headText: function 158 -/
def impl_headText.l0 : Nat → ByteArray → List (S105) → Int → Int → Option (ByteArray)
 | 0, _, _, _, _ => none
 | k + 1, x5, x10, x11, x12 => if x12 < x11 then (if 0 ≤ x12 then (if x12 < (x10.length : Int) then (if ((rd_T105 x10 x12).f0).size + 2 ≤ 9223372036854775807 then (if (((rd_T105 x10 x12).f0) ++ (⟨#[58, 32]⟩ : ByteArray)).size + ((rd_T105 x10 x12).f1).size ≤ 9223372036854775807 then (if ((((rd_T105 x10 x12).f0) ++ (⟨#[58, 32]⟩ : ByteArray)) ++ ((rd_T105 x10 x12).f1)).size + 2 ≤ 9223372036854775807 then (if x5.size + (((((rd_T105 x10 x12).f0) ++ (⟨#[58, 32]⟩ : ByteArray)) ++ ((rd_T105 x10 x12).f1)) ++ (⟨#[13, 10]⟩ : ByteArray)).size ≤ 9223372036854775807 then (impl_headText.l0 k (x5 ++ (((((rd_T105 x10 x12).f0) ++ (⟨#[58, 32]⟩ : ByteArray)) ++ ((rd_T105 x10 x12).f1)) ++ (⟨#[13, 10]⟩ : ByteArray))) x10 x11 (wrap64 (x12 + 1))) else (none)) else (none)) else (none)) else (none)) else (none)) else (none)) else (if x5.size + 2 ≤ 9223372036854775807 then (some (x5 ++ (⟨#[13, 10]⟩ : ByteArray))) else (none))
def impl_headText.f (k : Nat) (a0 : ByteArray) (l1 : List (S105)) : Option (ByteArray) := if a0.size + 2 ≤ 9223372036854775807 then (impl_headText.l0 k (a0 ++ (⟨#[13, 10]⟩ : ByteArray)) l1 (l1.length : Int) 0) else (none)
theorem impl_headText.mono_l : ∀ k, (∀ y0 y1 y2 y3, LeO (impl_headText.l0 k y0 y1 y2 y3) (impl_headText.l0 (k + 1) y0 y1 y2 y3))
 | 0 => fun _ _ _ _ r h => by simp [impl_headText.l0] at h
 | k + 1 => by
  have ih0 := impl_headText.mono_l k
  ·intro y0 y1 y2 y3
   unfold impl_headText.l0
   repeat' with_reducible first | exact ih0 _ _ _ _ | exact LeO.refl _ | exact LeO.none _ | refine LeO.ite ?_ ?_ | refine LeO.bind ?_ (fun _ => ?_)
theorem impl_headText.mono : ∀ a0 a1 k, LeO (impl_headText.f k a0 a1) (impl_headText.f (k + 1) a0 a1) := by
 intro a0 a1 k
 have ih0 := impl_headText.mono_l k
 unfold impl_headText.f
 repeat' with_reducible first | exact ih0 _ _ _ _ | exact LeO.refl _ | exact LeO.none _ | refine LeO.ite ?_ ?_ | refine LeO.bind ?_ (fun _ => ?_)
set_option maxHeartbeats 8000000 in
set_option maxRecDepth 100000 in
theorem impl_headText.calls (k : Nat) (a0 : ByteArray) (A1 : Option Addr) (c1 : Nat) (l1 : List (S105)) (r : ByteArray) (w : World) (hr1 : Kd.C k105 w A1 l1.length l1) (hc1 : l1.length ≤ c1) (h : impl_headText.f k a0 l1 = some r) :
  Calls Tryz.prog 158 #[.string a0, .slice A1 l1.length c1] w fun e w' => e = .returned (.string r) ∧ Below w.heap.size w w' := by
 have hu105 := Tryz.underlying105
 have HR1 := ak hr1
 have HC1 := ak hc1
 clear hr1 hc1
 have HB := ak (Below.refl w.heap.size w)
 unfold impl_headText.f at h; have H := h
 clear h
 by_cases c3 : a0.size + 2 ≤ 9223372036854775807
 ·rw [if_pos c3] at H
  have c3b0 := eq_true c3
  have c3b1 := decide_eq_true c3
  try have c3b2 : (9223372036854775807 < a0.size + 2) = False := eq_false (Nat.not_lt.2 c3)
  have H' := ak H
  clear H
  go_enter Tryz.func158, Tryz.ntmps158
  go_wp2
  go_loopg [5, 12] k (fun kq v5 v12 w' => ∃ (x5_1 : ByteArray) (x12_1 : Int), v5 = .string x5_1 ∧ v12 = .int .i64 x12_1 ∧ Aside0 (impl_headText.l0 kq x5_1 l1 (l1.length : Int) x12_1 = some r) ∧ Aside0 (kq ≤ k) ∧ Aside0 (Below w.heap.size w w'))
  case atStart => exact ⟨(a0 ++ (⟨#[13, 10]⟩ : ByteArray)), (0), (by first | rfl | (simp; done) | (simp [*]; done)), (by first | rfl | (simp; done) | (simp [*]; done)), H', ⟨Nat.le_refl _⟩, ⟨bl HB.out⟩⟩
  case round =>
   clear H'
   try clear c1
   try clear p2
   try clear c3
   try clear c3b0
   try clear c3b1
   try clear c3b2
   obtain ⟨x5_1, x12_1, rfl, rfl, HA, HK1, HB⟩ := hrel
   cases gk with
   | zero => exact absurd HA.out (by simp [impl_headText.l0])
   | succ k1 =>
    have H := HA.out
    clear HA
    simp only [impl_headText.l0] at H
    by_cases c4 : x12_1 < (l1.length : Int)
    ·rw [if_pos c4] at H
     have c4b0 := decide_eq_true c4
     clear c4
     by_cases c5 : 0 ≤ x12_1
     ·rw [if_pos c5] at H
      have c5b0 := decide_eq_true c5
      clear c5
      by_cases c6 : x12_1 < (l1.length : Int)
      ·rw [if_pos c6] at H
       have c6b0 := decide_eq_true c6
       clear c6
       by_cases c7 : ((rd_T105 l1 x12_1).f0).size + 2 ≤ 9223372036854775807
       ·rw [if_pos c7] at H
        have c7b0 := eq_true c7
        have c7b1 := decide_eq_true c7
        try have c7b2 : (9223372036854775807 < ((rd_T105 l1 x12_1).f0).size + 2) = False := eq_false (Nat.not_lt.2 c7)
        by_cases c8 : (((rd_T105 l1 x12_1).f0) ++ (⟨#[58, 32]⟩ : ByteArray)).size + ((rd_T105 l1 x12_1).f1).size ≤ 9223372036854775807
        ·rw [if_pos c8] at H
         have c8b0 := eq_true c8
         have c8b1 := decide_eq_true c8
         try have c8b2 : (9223372036854775807 < (((rd_T105 l1 x12_1).f0) ++ (⟨#[58, 32]⟩ : ByteArray)).size + ((rd_T105 l1 x12_1).f1).size) = False := eq_false (Nat.not_lt.2 c8)
         try have c8b3 : (9223372036854775807 < ((rd_T105 l1 x12_1).f0).size + 2 + ((rd_T105 l1 x12_1).f1).size) = False := by (have h_ := c8b2; simp only [ByteArray.size_append] at h_; exact h_)
         by_cases c9 : ((((rd_T105 l1 x12_1).f0) ++ (⟨#[58, 32]⟩ : ByteArray)) ++ ((rd_T105 l1 x12_1).f1)).size + 2 ≤ 9223372036854775807
         ·rw [if_pos c9] at H
          have c9b0 := eq_true c9
          have c9b1 := decide_eq_true c9
          try have c9b2 : (9223372036854775807 < ((((rd_T105 l1 x12_1).f0) ++ (⟨#[58, 32]⟩ : ByteArray)) ++ ((rd_T105 l1 x12_1).f1)).size + 2) = False := eq_false (Nat.not_lt.2 c9)
          try have c9b3 : (9223372036854775807 < ((rd_T105 l1 x12_1).f0).size + 2 + ((rd_T105 l1 x12_1).f1).size + 2) = False := by (have h_ := c9b2; simp only [ByteArray.size_append] at h_; exact h_)
          by_cases c10 : x5_1.size + (((((rd_T105 l1 x12_1).f0) ++ (⟨#[58, 32]⟩ : ByteArray)) ++ ((rd_T105 l1 x12_1).f1)) ++ (⟨#[13, 10]⟩ : ByteArray)).size ≤ 9223372036854775807
          ·rw [if_pos c10] at H
           have c10b0 := eq_true c10
           have c10b1 := decide_eq_true c10
           try have c10b2 : (9223372036854775807 < x5_1.size + (((((rd_T105 l1 x12_1).f0) ++ (⟨#[58, 32]⟩ : ByteArray)) ++ ((rd_T105 l1 x12_1).f1)) ++ (⟨#[13, 10]⟩ : ByteArray)).size) = False := eq_false (Nat.not_lt.2 c10)
           try have c10b3 : (9223372036854775807 < x5_1.size + (((rd_T105 l1 x12_1).f0).size + 2 + ((rd_T105 l1 x12_1).f1).size + 2)) = False := by (have h_ := c10b2; simp only [ByteArray.size_append] at h_; exact h_)
           have H' := ak H
           clear H
           have p397 : 0 ≤ (x12_1 : Int) := od
           have q397 : x12_1 < (l1.length : Int) := od
           obtain ⟨ad397, e397, hx397_0, hx397_1⟩ := at_T105 HR1.out x12_1 p397 q397
           cases e397
           replace hx397_0 := (HB.out.cell (World.block_lt_of_cell? w _ hx397_0)).trans hx397_0
           replace hx397_1 := (HB.out.cell (World.block_lt_of_cell? w _ hx397_1)).trans hx397_1
           replace p397 := eq_true p397
           replace q397 := eq_true q397
           go_wp2_with (first | ((with_reducible refine gd 7 ?_); refine bE 7 #[.string (⟨#[]⟩ : ByteArray), .string (⟨#[]⟩ : ByteArray)] 105 ?_; intro gb398 hg w11 hbox hb; have BK398 := ak hbox; have GW398 := gs hg (bl HB.out); have GE398 := gs hg (bl HB.out); replace HB := ak (below_step (bl HB.out) hb); clear hb hbox hg; obtain ⟨_, _, _, _⟩ := b2 BK398.out))
           go_roundg k1
           case measure => have := HK1.out; omega
           case rel => exact ⟨(x5_1 ++ (((((rd_T105 l1 x12_1).f0) ++ (⟨#[58, 32]⟩ : ByteArray)) ++ ((rd_T105 l1 x12_1).f1)) ++ (⟨#[13, 10]⟩ : ByteArray))), (wrap64 (x12_1 + 1)), (by first | rfl | (simp; done) | (simp [*]; done)), (by first | rfl | (simp; done) | (simp [*]; done)), H', ⟨by have := HK1.out; omega⟩, ⟨bl1 HB.out GE398.out⟩⟩
          ·rw [if_neg c10] at H
           exact absurd H (by simp)
         ·rw [if_neg c9] at H
          exact absurd H (by simp)
        ·rw [if_neg c8] at H
         exact absurd H (by simp)
       ·rw [if_neg c7] at H
        exact absurd H (by simp)
      ·rw [if_neg c6] at H
       exact absurd H (by simp)
     ·rw [if_neg c5] at H
      exact absurd H (by simp)
    ·rw [if_neg c4] at H
     have c4b0 := decide_eq_false c4
     clear c4
     by_cases c13 : x5_1.size + 2 ≤ 9223372036854775807
     ·rw [if_pos c13] at H
      have c13b0 := eq_true c13
      have c13b1 := decide_eq_true c13
      try have c13b2 : (9223372036854775807 < x5_1.size + 2) = False := eq_false (Nat.not_lt.2 c13)
      obtain rfl := Option.some.inj H
      go_wp2
      go_ret
      exact rz (bl HB.out)
     ·rw [if_neg c13] at H
      exact absurd H (by simp)
 ·rw [if_neg c3] at H
  exact absurd H (by simp)

end Go.Proofs.YtlmnmakkojgfnaaGreatDoor.PFnExactKeptFor
