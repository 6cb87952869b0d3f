-- written by a program of this session (wip/tool)
import Derived.Test.YthneflfbafieeaaGreatDoorPFnTornx0
import Derived.Test.YthneflfbafieeaaGreatDoorPFnTornx4
import Derived.Test.YthneflfbafieeaaGreatDoorPFnTornx10
import Derived.Test.YthneflfbafieeaaGreatDoorPFnTornx11
import Derived.Test.YthneflfbafieeaaGreatDoorVOwn0
import Derived.Test.YthneflfbafieeaaGreatDoorVOwnOpen
import Derived.WalkKit
import Derived.BigCall
import Derived.Test.YthneflfbafieeaaGreatDoorOwnTr
import Derived.Test.YthneflfbafieeaaGreatDoorVOwnShort
import Derived.Test.YthneflfbafieeaaGreatDoorOwnSq
namespace Go.Proofs.YthneflfbafieeaaGreatDoor.PFnTorn
open Go.RowKit Go.Proofs.YthneflfbafieeaaGreatDoorW.PrintWords Go.Proofs.YthneflfbafieeaaGreatDoorW.PrintLast Go.Proofs.YthneflfbafieeaaGreatDoorW.PrintMore Go.Shelf Go.Proofs.YthneflfbafieeaaGreatDoorOwn
attribute [local go_sem] max2_int min2_int max_two min_two max_three min_three max_four min_four   -- for this text's walks alone
set_option linter.unusedVariables false
set_option linter.unusedSimpArgs false

/-! ### impl_fieldOf: function 95 -/
def impl_fieldOf.f (a0 : ByteArray) : Option (ByteArray × ByteArray × Bool) := (strings_Cut.f a0 (⟨#[58]⟩ : ByteArray)).bind fun bt212 => ((strings_Trim.f bt212.2.1 (⟨#[32]⟩ : ByteArray)).bind fun t215 => (if bt212.2.2 = true then ((impl_GoodField.f bt212.1 t215).bind fun t217 => (some (bt212.1, t215, t217))) else (some (bt212.1, t215, false))))
def impl_fieldOf.T3 : Bool × List (List Nat × List Nat) := (true, [([], []), ([], []), ([1], [1]), ([2], [2]), ([3, 2, 2], [2, 3]), ([2, 4], [2, 4]), ([0, 4, 0], [0]), ([5, 6, 0, 1, 2, 3, 4, 5, 6], [5])])
def impl_fieldOf.B3 : List Nat := [0, 0, 2, 6, 14, 30, 31, 127]
theorem impl_fieldOf.tab3 : rtab .any (opsOf Tryz.f95 3) = impl_fieldOf.T3 := by kernel_rfl
theorem impl_fieldOf.bits3 : waitsOk impl_fieldOf.T3.2 impl_fieldOf.B3 = true := by kernel_rfl
set_option maxHeartbeats 8000000 in
set_option maxRecDepth 100000 in
theorem impl_fieldOf.calls (a0 : ByteArray) (r1 : ByteArray) (r2 : ByteArray) (r3 : Bool) (w : World) (h : impl_fieldOf.f a0 = some (r1, r2, r3)) (ht : Glob w) :
  Calls Tryz.prog 95 #[.string a0] w fun e w' => e = .returned (.tuple #[.agg #[.string r1, .string r2], .bool r3]) ∧ Below w.heap.size w w' := by
 have hu75 := Tryz.underlying75
 have HT := ak ht
 clear ht
 have HB := ak (Below.refl w.heap.size w)
 have H : ((strings_Cut.f a0 (⟨#[58]⟩ : ByteArray)).bind fun bt212 => ((strings_Trim.f bt212.2.1 (⟨#[32]⟩ : ByteArray)).bind fun t215 => (if bt212.2.2 = true then ((impl_GoodField.f bt212.1 t215).bind fun t217 => (some (bt212.1, t215, t217))) else (some (bt212.1, t215, false))))) = some (r1, r2, r3) := h
 clear h
 replace H := bs H
 obtain ⟨⟨t212, t213, t214⟩, A2, H⟩ := H
 try dsimp only at H
 replace H := bs H
 obtain ⟨t215, A3, H⟩ := H
 try dsimp only at H
 by_cases c4 : t214 = true
 ·subst c4
  rw [if_pos rfl] at H
  replace H := bs H
  obtain ⟨t217, A5, H⟩ := H
  try dsimp only at H
  simp only [Option.some.injEq, Prod.mk.injEq] at H
  obtain ⟨rfl, rfl, rfl⟩ := H
  go_enter Tryz.func95, Tryz.ntmps95
  try go_wp2_with (first | ((with_reducible refine gd 2 ?_); refine bE 2 #[.string (⟨#[]⟩ : ByteArray), .string (⟨#[]⟩ : ByteArray)] 75 ?_; intro gb211 hg w6 hbox hb; have BK211 := ak hbox; have GW211 := gs hg (bl HB.out); have GE211 := gs hg (bl HB.out); replace HB := ak (below_step (bl HB.out) hb); clear hb hbox hg) | ((with_reducible refine gc 43 ?_); refine gL 43 Tryz.func43 (some 10) #[.string a0, .string (⟨#[58]⟩ : ByteArray)] ?_; (with_reducible refine (strings_Cut.calls a0 (⟨#[58]⟩ : ByteArray) t212 t213 true _ A2.out (globg HT.out (bl1 HB.out GE211.out))).mono ?_); rintro e w7 ⟨rfl, hb⟩; refine ⟨_, rfl, ?_⟩; replace BK211 := ak (blk_below (bk BK211.out) hb); replace HB := ak (below_step (bl1 HB.out GE211.out) hb); clear hb) | ((with_reducible refine gc 123 ?_); refine gL 123 Tryz.func123 (some 16) #[.string t213, .string (⟨#[32]⟩ : ByteArray)] ?_; (with_reducible refine (strings_Trim.calls t213 (⟨#[32]⟩ : ByteArray) t215 _ A3.out).mono ?_); rintro e w8 ⟨rfl, hb⟩; refine ⟨_, rfl, ?_⟩; replace BK211 := ak (blk_below (bk BK211.out) hb); replace HB := ak (below_step (bl1 HB.out GE211.out) hb); clear hb) | ((with_reducible refine gd 7 ?_); refine bE 7 #[.string (⟨#[]⟩ : ByteArray), .string (⟨#[]⟩ : ByteArray)] 75 ?_; intro gb216 hg w9 hbox hb; have BK216 := ak hbox; have GW216 := gs hg (bl1 HB.out GE211.out); have GE216 := gs hg (bl1 HB.out GE211.out); replace HB := ak (below_step (bl1 HB.out GE211.out) hb); have NB211_216 := nl hg BK211.out; have NB216_211 := ng hg BK211.out; replace BK211 := ak (blk_below (bk BK211.out) hb); clear hb hbox hg; have hnb10 := NB216_211.out; have hnc10 := NB211_216.out; obtain ⟨hcz11_0, hcz11_1, hfz11_0, hfz11_1⟩ := b2 BK216.out))
  have n0_ : Aside0 (((w9.setCell ⟨gb216, 0, none⟩ (.string t212)).setCell ⟨gb216, 1, none⟩ (.string t215)).heap[gb211]? = some (.cells #[.string (⟨#[]⟩ : ByteArray), .string (⟨#[]⟩ : ByteArray)] 75 (0, 0))) := ⟨by (with_reducible repeat (first | refine blk_drewN ?_ _ | refine blk_drew ?_ | refine blk_alloc ?_ _)); refine blk_far ?_ NB211_216.out _; (with_reducible repeat (first | refine blk_drewN ?_ _ | refine blk_drew ?_ | refine blk_alloc ?_ _)); refine blk_far ?_ NB211_216.out _; exact bk BK211.out⟩
  have n1_ : Aside0 (((w9.setCell ⟨gb216, 0, none⟩ (.string t212)).setCell ⟨gb216, 1, none⟩ (.string t215)).heap[gb216]? = some (.cells #[.string t212, .string t215] 75 (0, 0))) := ⟨by (with_reducible repeat (first | refine blk_drewN ?_ _ | refine blk_drew ?_ | refine blk_alloc ?_ _)); refine blk_put (cs := #[.string t212, .string (⟨#[]⟩ : ByteArray)]) ?_ 1 _ rfl; (with_reducible repeat (first | refine blk_drewN ?_ _ | refine blk_drew ?_ | refine blk_alloc ?_ _)); refine blk_put (cs := #[.string (⟨#[]⟩ : ByteArray), .string (⟨#[]⟩ : ByteArray)]) ?_ 0 _ rfl; exact bk BK216.out⟩
  have n2_ : Aside0 (Below w.heap.size w ((w9.setCell ⟨gb216, 0, none⟩ (.string t212)).setCell ⟨gb216, 1, none⟩ (.string t215))) := ⟨bl2 HB.out GE211.out GE216.out⟩
  (try clear BK211)
  (try clear BK216)
  (try clear HB)
  generalize ((w9.setCell ⟨gb216, 0, none⟩ (.string t212)).setCell ⟨gb216, 1, none⟩ (.string t215)) = w12 at n0_ n1_ n2_ ⊢
  have BK211 := n0_
  have BK216 := n1_
  have HB := n2_
  clear n0_ n1_ n2_
  replace BK211 := ak (blk_drew BK211.out)
  replace BK216 := ak (blk_drew BK216.out)
  replace HB := ak (below_drew1 HB.out)
  refine start_ (n := 8) (S := fun w' => w'.cell? ⟨gb216, 0, none⟩ = some (.string t212) ∧ w'.cell? ⟨gb216, 1, none⟩ = some (.string t215)) (ds := []) #[false, false, false, false, false, false, false, false] (by kernel_rfl) rfl rfl ⟨bc0 BK216.out, bc1 BK216.out⟩ (fun hHeld => ?_); refine with_tabW impl_fieldOf.tab3 impl_fieldOf.bits3 (fun HT_ HW_ => ?_)
  generalize w12.drew = w13 at BK211 BK216 HB hHeld ⊢
  refine pu 1 (some 19) HT_ ?_
  refine pu 2 (some 20) HT_ ?_
  refine tk 0 (some 18) HT_ HW_ hHeld ?_
  refine tk 3 (some 21) HT_ HW_ hHeld ?_
  refine on 4 (some 22) HT_ (fun K hK => ?_)
  refine gO Tryz.func124 #[.agg #[.string t212, .string t215]] ?_
  with_reducible refine (impl_GoodField.calls t212 t215 t217 _ A5.out).mono ?_
  rintro e w14 ⟨rfl, hb⟩
  refine ⟨_, rfl, ?_⟩
  replace BK211 := ak (blk_below (bk BK211.out) hb)
  replace BK216 := ak (blk_below (bk BK216.out) hb)
  replace HB := ak (below_step (bl2 HB.out GE211.out GE216.out) hb)
  clear hb
  refine hK.out _ _ ⟨bc0 BK216.out, bc1 BK216.out⟩ (fun hHeld => ?_)
  clear hK K
  refine nr (some 22) ?_
  refine pu 5 (some 23) HT_ ?_
  refine on 6 none HT_ (fun K hK => ?_)
  have hs15 := bc0 BK211.out
  have hfs15 := blk_frozen BK211.out 0
  have hns15_1 := NB216_211.out
  have hms15_1 := NB211_216.out
  have hs16 := bc1 BK211.out
  have hfs16 := blk_frozen BK211.out 1
  have hns16_1 := NB216_211.out
  have hms16_1 := NB211_216.out
  refine skip_ (w1 := ?_) (by rfl) rfl ?_ ?_
  rotate_left
  ·go_simp
   rfl
  refine hK.out _ _ ⟨((cell_far (p := ⟨gb211, _, none⟩) NB216_211.out _).trans (((cell_far (p := ⟨gb211, _, none⟩) NB216_211.out _).trans (hHeld.1)))), ((cell_far (p := ⟨gb211, _, none⟩) NB216_211.out _).trans (((cell_far (p := ⟨gb211, _, none⟩) NB216_211.out _).trans (hHeld.2))))⟩ (fun hHeld => ?_)
  clear hK K
  refine pu 7 (some 3) HT_ ?_
  refine done_ (done_of HT_.out (by kernel_rfl)) ?_
  try go_wp2
  refine bodyPost_ret (results_ct rfl _ _ gb211 75 #[.string t212, .string t215] (0, 0) _ rfl (bq BK211.out) Tryz.underlying75 rfl (by kernel_rfl)) rfl ?_
  exact ⟨by first | rfl | (simp [errW_none, errW_some] <;> rfl) | (simp [*, errW_none, errW_some] <;> rfl), bl2 HB.out GE211.out GE216.out⟩
 ·replace c4 := Bool.eq_false_iff.mpr c4
  subst c4
  rw [if_neg ff] at H
  simp only [Option.some.injEq, Prod.mk.injEq] at H
  obtain ⟨rfl, rfl, rfl⟩ := H
  go_enter Tryz.func95, Tryz.ntmps95
  try go_wp2_with (first | ((with_reducible refine gd 2 ?_); refine bE 2 #[.string (⟨#[]⟩ : ByteArray), .string (⟨#[]⟩ : ByteArray)] 75 ?_; intro gb211 hg w17 hbox hb; have BK211 := ak hbox; have GW211 := gs hg (bl HB.out); have GE211 := gs hg (bl HB.out); replace HB := ak (below_step (bl HB.out) hb); clear hb hbox hg) | ((with_reducible refine gc 43 ?_); refine gL 43 Tryz.func43 (some 10) #[.string a0, .string (⟨#[58]⟩ : ByteArray)] ?_; (with_reducible refine (strings_Cut.calls a0 (⟨#[58]⟩ : ByteArray) t212 t213 false _ A2.out (globg HT.out (bl1 HB.out GE211.out))).mono ?_); rintro e w18 ⟨rfl, hb⟩; refine ⟨_, rfl, ?_⟩; replace BK211 := ak (blk_below (bk BK211.out) hb); replace HB := ak (below_step (bl1 HB.out GE211.out) hb); clear hb) | ((with_reducible refine gc 123 ?_); refine gL 123 Tryz.func123 (some 16) #[.string t213, .string (⟨#[32]⟩ : ByteArray)] ?_; (with_reducible refine (strings_Trim.calls t213 (⟨#[32]⟩ : ByteArray) t215 _ A3.out).mono ?_); rintro e w19 ⟨rfl, hb⟩; refine ⟨_, rfl, ?_⟩; replace BK211 := ak (blk_below (bk BK211.out) hb); replace HB := ak (below_step (bl1 HB.out GE211.out) hb); clear hb) | ((with_reducible refine gd 7 ?_); refine bE 7 #[.string (⟨#[]⟩ : ByteArray), .string (⟨#[]⟩ : ByteArray)] 75 ?_; intro gb216 hg w20 hbox hb; have BK216 := ak hbox; have GW216 := gs hg (bl1 HB.out GE211.out); have GE216 := gs hg (bl1 HB.out GE211.out); replace HB := ak (below_step (bl1 HB.out GE211.out) hb); have NB211_216 := nl hg BK211.out; have NB216_211 := ng hg BK211.out; replace BK211 := ak (blk_below (bk BK211.out) hb); clear hb hbox hg; have hnb21 := NB216_211.out; have hnc21 := NB211_216.out; obtain ⟨hcz22_0, hcz22_1, hfz22_0, hfz22_1⟩ := b2 BK216.out))
  have n0_ : Aside0 (((w20.setCell ⟨gb216, 0, none⟩ (.string t212)).setCell ⟨gb216, 1, none⟩ (.string t215)).heap[gb211]? = some (.cells #[.string (⟨#[]⟩ : ByteArray), .string (⟨#[]⟩ : ByteArray)] 75 (0, 0))) := ⟨by (with_reducible repeat (first | refine blk_drewN ?_ _ | refine blk_drew ?_ | refine blk_alloc ?_ _)); refine blk_far ?_ NB211_216.out _; (with_reducible repeat (first | refine blk_drewN ?_ _ | refine blk_drew ?_ | refine blk_alloc ?_ _)); refine blk_far ?_ NB211_216.out _; exact bk BK211.out⟩
  have n1_ : Aside0 (((w20.setCell ⟨gb216, 0, none⟩ (.string t212)).setCell ⟨gb216, 1, none⟩ (.string t215)).heap[gb216]? = some (.cells #[.string t212, .string t215] 75 (0, 0))) := ⟨by (with_reducible repeat (first | refine blk_drewN ?_ _ | refine blk_drew ?_ | refine blk_alloc ?_ _)); refine blk_put (cs := #[.string t212, .string (⟨#[]⟩ : ByteArray)]) ?_ 1 _ rfl; (with_reducible repeat (first | refine blk_drewN ?_ _ | refine blk_drew ?_ | refine blk_alloc ?_ _)); refine blk_put (cs := #[.string (⟨#[]⟩ : ByteArray), .string (⟨#[]⟩ : ByteArray)]) ?_ 0 _ rfl; exact bk BK216.out⟩
  have n2_ : Aside0 (Below w.heap.size w ((w20.setCell ⟨gb216, 0, none⟩ (.string t212)).setCell ⟨gb216, 1, none⟩ (.string t215))) := ⟨bl2 HB.out GE211.out GE216.out⟩
  (try clear BK211)
  (try clear BK216)
  (try clear HB)
  generalize ((w20.setCell ⟨gb216, 0, none⟩ (.string t212)).setCell ⟨gb216, 1, none⟩ (.string t215)) = w23 at n0_ n1_ n2_ ⊢
  have BK211 := n0_
  have BK216 := n1_
  have HB := n2_
  clear n0_ n1_ n2_
  replace BK211 := ak (blk_drew BK211.out)
  replace BK216 := ak (blk_drew BK216.out)
  replace HB := ak (below_drew1 HB.out)
  refine start_ (n := 8) (S := fun w' => w'.cell? ⟨gb216, 0, none⟩ = some (.string t212) ∧ w'.cell? ⟨gb216, 1, none⟩ = some (.string t215)) (ds := []) #[false, false, false, false, false, false, false, false] (by kernel_rfl) rfl rfl ⟨bc0 BK216.out, bc1 BK216.out⟩ (fun hHeld => ?_); refine with_tabW impl_fieldOf.tab3 impl_fieldOf.bits3 (fun HT_ HW_ => ?_)
  generalize w23.drew = w24 at BK211 BK216 HB hHeld ⊢
  refine pu 1 (some 19) HT_ ?_
  refine pu 2 (some 20) HT_ ?_
  refine pn 3 (some 21) HT_ ?_
  refine pn 4 (some 22) HT_ ?_
  refine pu 5 (some 23) HT_ ?_
  refine tk 0 (some 18) HT_ HW_ hHeld ?_
  refine on 6 none HT_ (fun K hK => ?_)
  have hs25 := bc0 BK211.out
  have hfs25 := blk_frozen BK211.out 0
  have hns25_1 := NB216_211.out
  have hms25_1 := NB211_216.out
  have hs26 := bc1 BK211.out
  have hfs26 := blk_frozen BK211.out 1
  have hns26_1 := NB216_211.out
  have hms26_1 := NB211_216.out
  refine skip_ (w1 := ?_) (by rfl) rfl ?_ ?_
  rotate_left
  ·go_simp
   rfl
  refine hK.out _ _ ⟨((cell_far (p := ⟨gb211, _, none⟩) NB216_211.out _).trans (((cell_far (p := ⟨gb211, _, none⟩) NB216_211.out _).trans (hHeld.1)))), ((cell_far (p := ⟨gb211, _, none⟩) NB216_211.out _).trans (((cell_far (p := ⟨gb211, _, none⟩) NB216_211.out _).trans (hHeld.2))))⟩ (fun hHeld => ?_)
  clear hK K
  refine pu 7 (some 3) HT_ ?_
  refine done_ (done_of HT_.out (by kernel_rfl)) ?_
  try go_wp2
  refine bodyPost_ret (results_ct rfl _ _ gb211 75 #[.string t212, .string t215] (0, 0) _ rfl (bq BK211.out) Tryz.underlying75 rfl (by kernel_rfl)) rfl ?_
  exact ⟨by first | rfl | (simp [errW_none, errW_some] <;> rfl) | (simp [*, errW_none, errW_some] <;> rfl), bl2 HB.out GE211.out GE216.out⟩

/-! ### impl_small: function 96 -/
def impl_small.f (a0 : ByteArray) : Option ByteArray := if a0.size ≤ 9223372036854775807 then some (lowT a0) else none
set_option maxHeartbeats 4000000 in
set_option maxRecDepth 100000 in
theorem impl_small.calls (a0 : ByteArray) (r : ByteArray) (w : World) (h : impl_small.f a0 = some r) :
  Calls Tryz.prog 96 #[.string a0] w fun e w' => e = .returned (.string r) ∧ Below w.heap.size w w' := by
 unfold impl_small.f at h
 split at h
 rotate_left
 ·cases h
 rename_i hm
 obtain rfl := Option.some.inj h
 clear h
 have kb := fun W => print_bytes (P := Tryz.prog) 9 36 5 Tryz.underlying9 Tryz.underlying36 Tryz.underlying5 a0 W
 have HB := ak (bytes_below (Below.refl w.heap.size w) (Nat.le_refl _) 5 a0)
 have HL := ak (show Lw (Lib.bytesWorld w 5 a0) w.heap.size (lowAt a0 0) from Lw.start w a0)
 go_enter Tryz.func96, Tryz.ntmps96
 go_wp2
 generalize hcap : grownCap w a0.size 0 5 = cap
 clear hcap kb
 go_loopg [10] a0.size (fun gg s9 wr => ∃ j : Nat, j ≤ a0.size ∧ a0.size - j ≤ gg ∧ s9 = .int .i64 j ∧ Aside0 (Lw wr w.heap.size (lowAt a0 j)) ∧ Aside0 (Below w.heap.size w wr))
 case atStart => exact ⟨0, Nat.zero_le _, by omega, rfl, HL, HB⟩
 case round =>
  clear HB HL
  obtain ⟨j, hj, hg, rfl, HL, HB⟩ := hrel
  have hlen := lowAt_length a0 j hj
  by_cases hlt : j < a0.size
  ·have hlt' : (j : Int) < (a0.size : Int) := by omega
   have hj0 : (0 : Int) ≤ (j : Int) := by omega
   have hc := HL.out.cell j (by omega)
   have hf := HL.out.frozen j (by omega)
   rw [lowAt_get a0 j hlt] at hc
   have hw1 : wrap64 ((j : Int) + 1) = ((j + 1 : Nat) : Int) := by unfold wrap64; omega
   have hbr := bt_range a0 (j : Int)
   by_cases h1 : 65 ≤ bt a0 (j : Int)
   ·have h1b : decide (65 ≤ bt a0 (j : Int)) = true := decide_eq_true h1
    by_cases h2 : bt a0 (j : Int) ≤ 90
    ·have h2b : decide (bt a0 (j : Int) ≤ 90) = true := decide_eq_true h2
     have e := lowAt_up a0 j hlt ⟨h1, h2⟩
     have HS := ak (HL.out.set j (by omega) (bt a0 (j : Int) + 32))
     rw [← e] at HS
     have hm32 : (bt a0 (j : Int) + 32) % 256 = bt a0 (j : Int) + 32 := by omega
     clear e
     generalize bt a0 (j : Int) = c at *
     go_wp2
     go_roundg (a0.size - (j + 1))
     case measure => omega
     case rel => exact ⟨j + 1, by omega, Nat.le_refl _, by go_num, HS, ⟨below_set HB.out (Nat.le_refl _)⟩⟩
    ·have h2b : decide (bt a0 (j : Int) ≤ 90) = false := decide_eq_false h2
     have e := lowAt_same a0 j hlt (fun h => h2 h.2)
     rw [← e] at HL
     generalize bt a0 (j : Int) = c at *
     go_wp2
     go_roundg (a0.size - (j + 1))
     case measure => omega
     case rel => exact ⟨j + 1, by omega, Nat.le_refl _, by go_num, HL, HB⟩
   ·have h1b : decide (65 ≤ bt a0 (j : Int)) = false := decide_eq_false h1
    have e := lowAt_same a0 j hlt (fun h => h1 h.1)
    rw [← e] at HL
    generalize bt a0 (j : Int) = c at *
    go_wp2
    go_roundg (a0.size - (j + 1))
    case measure => omega
    case rel => exact ⟨j + 1, by omega, Nat.le_refl _, by go_num, HL, HB⟩
  ·have hlt' : ¬ (j : Int) < (a0.size : Int) := by omega
   obtain rfl : j = a0.size := by omega
   rw [lowAt_end] at HL hlen
   have hr := HL.out.reads (by omega)
   rw [hlen] at hr
   have hs := string_of_reads (P := Tryz.prog) (src := 36) (dst := 9) (e := 5) (c := cap) Tryz.underlying36 Tryz.underlying5 Tryz.underlying9 hr
   clear hr
   go_wp2
   go_ret
   exact ⟨rfl, HB.out⟩


/-! ### impl_fieldsOf: function 66 -/
def impl_fieldsOf.l0 : Nat → List (S75) → List ByteArray → Int → Int → Option ((List (S75)) × Bool)
 | 0, _, _, _, _ => none
 | k + 1, x4, x9, x10, x11 => if x11 < x10 then (if 0 ≤ x11 then (if x11 < (x9.length : Int) then ((impl_fieldOf.f (rdOf ByteArray.empty x9 x11)).bind fun bt222 => (if bt222.2.2 = true then (if (x4.length : Int) = 40 then (some (([] : List (S75)), false)) else ((impl_small.f bt222.1).bind fun t226 => (if t226.toList = ([116, 114, 97, 110, 115, 102, 101, 114, 45, 101, 110, 99, 111, 100, 105, 110, 103] : List UInt8) then (some (([] : List (S75)), false)) else (if x4.length < 4398046511104 then (impl_fieldsOf.l0 k (x4 ++ [(⟨bt222.1, bt222.2.1⟩ : S75)]) x9 x10 (wrap64 (x11 + 1))) else (none))))) else (some (([] : List (S75)), false)))) else (none)) else (none)) else (some (x4, true))
def impl_fieldsOf.f (k : Nat) (l0 : List ByteArray) : Option ((List (S75)) × Bool) := impl_fieldsOf.l0 k ([] : List (S75)) l0 (l0.length : Int) 0
theorem impl_fieldsOf.mono_l : ∀ k, (∀ y0 y1 y2 y3, LeO (impl_fieldsOf.l0 k y0 y1 y2 y3) (impl_fieldsOf.l0 (k + 1) y0 y1 y2 y3))
 | 0 => fun _ _ _ _ r h => by simp [impl_fieldsOf.l0] at h
 | k + 1 => by
  have ih0 := impl_fieldsOf.mono_l k
  ·intro y0 y1 y2 y3
   unfold impl_fieldsOf.l0
   repeat' with_reducible first | exact ih0 _ _ _ _ | exact LeO.refl _ | exact LeO.none _ | refine LeO.ite ?_ ?_ | refine LeO.bind ?_ (fun _ => ?_)
theorem impl_fieldsOf.mono : ∀ a0 k, LeO (impl_fieldsOf.f k a0) (impl_fieldsOf.f (k + 1) a0) := by
 intro a0 k
 have ih0 := impl_fieldsOf.mono_l k
 unfold impl_fieldsOf.f
 repeat' with_reducible first | exact ih0 _ _ _ _ | exact LeO.refl _ | exact LeO.none _ | refine LeO.ite ?_ ?_ | refine LeO.bind ?_ (fun _ => ?_)
set_option maxHeartbeats 8000000 in
set_option maxRecDepth 100000 in
theorem impl_fieldsOf.calls (k : Nat) (A0 : Option Addr) (c0 : Nat) (l0 : List ByteArray) (r1 : List (S75)) (r2 : Bool) (w : World) (hr0 : Kd.C Kd.string w A0 l0.length l0) (hc0 : l0.length ≤ c0) (h : impl_fieldsOf.f k l0 = some (r1, r2)) (ht : Glob w) :
  Calls Tryz.prog 66 #[.slice A0 l0.length c0] w fun e w' => ∃ v0_ : Value, e = .returned (.tuple #[v0_, .bool r2]) ∧ Kd.R k75 75 w' w.heap.size (fun _ => True) v0_ r1 ∧ Below w.heap.size w w' := by
 have hu75 := Tryz.underlying75
 have HR0 := ak hr0
 have HC0 := ak hc0
 clear hr0 hc0
 have HT := ak ht
 clear ht
 have HB := ak (Below.refl w.heap.size w)
 have H : (impl_fieldsOf.l0 k ([] : List (S75)) l0 (l0.length : Int) 0) = some (r1, r2) := h
 clear h
 have H' := ak H
 clear H
 go_enter Tryz.func66, Tryz.ntmps66
 go_wp2
 go_loopg [4, 11] k (fun kq v4 v11 w' => ∃ (x4_1 : List (S75)) (x11_1 : Int), v11 = .int .i64 x11_1 ∧ Aside0 (impl_fieldsOf.l0 kq x4_1 l0 (l0.length : Int) x11_1 = some (r1, r2)) ∧ Aside0 (kq ≤ k) ∧ Aside0 (Kd.R k75 75 w' w.heap.size (fun _ => True) v4 x4_1) ∧ Aside0 (Below w.heap.size w w'))
 case atStart => exact ⟨(([] : List (S75))), (0), (by first | rfl | (simp; done) | (simp [*]; done)), H', ⟨Nat.le_refl _⟩, ⟨by first | exact Kd.R_nil _ _ _ _ _ | exact Kd.N_nil _ _ _ _ _ | exact Kd.V_nil _ _ _ _ _ | exact Kd.Q_nil _ _ _ _ _ | exact Kd.S_nil _ _ _ _ _⟩, ⟨bl HB.out⟩⟩
 case round =>
  clear H'
  obtain ⟨x4_1, x11_1, rfl, HA, HK1, HO_4, HB⟩ := hrel
  cases gk with
  | zero => exact absurd HA.out (by simp [impl_fieldsOf.l0])
  | succ k1 =>
   have H := HA.out
   clear HA
   simp only [impl_fieldsOf.l0] at H
   by_cases c2 : x11_1 < (l0.length : Int)
   ·rw [if_pos c2] at H
    have c2b0 : decide (x11_1 < (l0.length : Int)) = true := decide_eq_true c2
    clear c2
    by_cases c3 : 0 ≤ x11_1
    ·rw [if_pos c3] at H
     have c3b0 : decide (0 ≤ x11_1) = true := decide_eq_true c3
     clear c3
     by_cases c4 : x11_1 < (l0.length : Int)
     ·rw [if_pos c4] at H
      have c4b0 : decide (x11_1 < (l0.length : Int)) = true := decide_eq_true c4
      clear c4
      replace H := bs H
      obtain ⟨⟨t222, t223, t224⟩, A5, H⟩ := H
      try dsimp only at H
      by_cases c6 : t224 = true
      ·subst c6
       rw [if_pos rfl] at H
       by_cases c7 : (x4_1.length : Int) = 40
       ·rw [if_pos c7] at H
        have c7b0 : ((x4_1.length : Int) == 40) = true := beq_iff_eq.mpr c7
        have c7b1 : ((x4_1.length : Int) != 40) = false := bne_eq_false_iff_eq.mpr c7
        clear c7
        simp only [Option.some.injEq, Prod.mk.injEq] at H
        obtain ⟨rfl, rfl⟩ := H
        have p221 : 0 ≤ (x11_1 : Int) := od
        have q221 : x11_1 < (l0.length : Int) := od
        obtain ⟨ad221, e221, hx221_0⟩ := Kd.at_string HR0.out x11_1 p221 q221
        cases e221
        replace hx221_0 := (HB.out.cell (World.block_lt_of_cell? w _ hx221_0)).trans hx221_0
        replace p221 := eq_true p221
        replace q221 := eq_true q221
        go_wp2_with (first | ((with_reducible refine gc 95 ?_); refine gL 95 Tryz.func95 (some 17) #[.string (rdOf ByteArray.empty l0 x11_1)] ?_; (with_reducible refine (impl_fieldOf.calls (rdOf ByteArray.empty l0 x11_1) t222 t223 true _ A5.out (globg HT.out (bl HB.out))).mono ?_); rintro e w8 ⟨rfl, hb⟩; refine ⟨_, rfl, ?_⟩; replace HO_4 := ak (Kd.R_below (kr HO_4.out) hb); replace HB := ak (below_step (bl HB.out) hb); clear hb) | ((with_reducible refine gd 7 ?_); (try (refine gate_guard (by rfl) ?_; dsimp only)); refine bE 7 #[.string (⟨#[]⟩ : ByteArray), .string (⟨#[]⟩ : ByteArray)] 75 ?_; intro gb225 hg w9 hbox hb; replace HO_4 := ak (Kd.R_below (Kd.R_elderB (kr HO_4.out) gb225 (Nat.le_of_eq hg.symm)) hb); have BK225 := ak hbox; have GW225 := gs hg (bl HB.out); have GE225 := gs hg (bl HB.out); replace HB := ak (below_step (bl HB.out) hb); clear hb hbox hg; obtain ⟨hcz10_0, hcz10_1, hfz10_0, hfz10_1⟩ := b2 BK225.out; obtain ⟨Ao11, co11, eo11⟩ := Kd.R_slice HO_4.out; subst eo11))
        go_ret2
        exact ⟨_, by first | rfl | (simp [errW_none, errW_some] <;> rfl) | (simp [*, errW_none, errW_some] <;> rfl), by first | exact Kd.R_nil _ _ _ _ _ | exact Kd.N_nil _ _ _ _ _ | exact Kd.V_nil _ _ _ _ _ | exact Kd.Q_nil _ _ _ _ _ | exact Kd.S_nil _ _ _ _ _, bl1 HB.out GE225.out⟩
       ·rw [if_neg c7] at H
        have c7b0 : ((x4_1.length : Int) == 40) = false := beq_eq_false_iff_ne.mpr c7
        have c7b1 : ((x4_1.length : Int) != 40) = true := bne_iff_ne.mpr c7
        replace H := bs H
        obtain ⟨t226, A12, H⟩ := H
        try dsimp only at H
        by_cases c13 : t226.toList = ([116, 114, 97, 110, 115, 102, 101, 114, 45, 101, 110, 99, 111, 100, 105, 110, 103] : List UInt8)
        ·rw [if_pos c13] at H
         have c13b0 : (t226.toList == ([116, 114, 97, 110, 115, 102, 101, 114, 45, 101, 110, 99, 111, 100, 105, 110, 103] : List UInt8)) = true := beq_iff_eq.mpr c13
         have c13b1 : (t226.toList != ([116, 114, 97, 110, 115, 102, 101, 114, 45, 101, 110, 99, 111, 100, 105, 110, 103] : List UInt8)) = false := bne_eq_false_iff_eq.mpr c13
         clear c13
         simp only [Option.some.injEq, Prod.mk.injEq] at H
         obtain ⟨rfl, rfl⟩ := H
         have p221 : 0 ≤ (x11_1 : Int) := od
         have q221 : x11_1 < (l0.length : Int) := od
         obtain ⟨ad221, e221, hx221_0⟩ := Kd.at_string HR0.out x11_1 p221 q221
         cases e221
         replace hx221_0 := (HB.out.cell (World.block_lt_of_cell? w _ hx221_0)).trans hx221_0
         replace p221 := eq_true p221
         replace q221 := eq_true q221
         go_wp2_with (first | ((with_reducible refine gc 95 ?_); refine gL 95 Tryz.func95 (some 17) #[.string (rdOf ByteArray.empty l0 x11_1)] ?_; (with_reducible refine (impl_fieldOf.calls (rdOf ByteArray.empty l0 x11_1) t222 t223 true _ A5.out (globg HT.out (bl HB.out))).mono ?_); rintro e w14 ⟨rfl, hb⟩; refine ⟨_, rfl, ?_⟩; replace HO_4 := ak (Kd.R_below (kr HO_4.out) hb); replace HB := ak (below_step (bl HB.out) hb); clear hb) | ((with_reducible refine gd 7 ?_); (try (refine gate_guard (by rfl) ?_; dsimp only)); refine bE 7 #[.string (⟨#[]⟩ : ByteArray), .string (⟨#[]⟩ : ByteArray)] 75 ?_; intro gb225 hg w15 hbox hb; replace HO_4 := ak (Kd.R_below (Kd.R_elderB (kr HO_4.out) gb225 (Nat.le_of_eq hg.symm)) hb); have BK225 := ak hbox; have GW225 := gs hg (bl HB.out); have GE225 := gs hg (bl HB.out); replace HB := ak (below_step (bl HB.out) hb); clear hb hbox hg; obtain ⟨hcz16_0, hcz16_1, hfz16_0, hfz16_1⟩ := b2 BK225.out; obtain ⟨Ao17, co17, eo17⟩ := Kd.R_slice HO_4.out; subst eo17) | (go_at_call 96; (with_reducible refine (impl_small.calls t222 t226 _ A12.out).mono ?_); rintro e w18 ⟨rfl, hb⟩; replace HO_4 := ak (Kd.R_below (by (with_reducible repeat (first | apply Kd.R_alloc | apply Kd.R_drewN | apply Kd.R_drew)); exact (Kd.R_mono (Kd.R_far (p := ⟨gb225, 1, none⟩) (Kd.R_far (p := ⟨gb225, 0, none⟩) (Kd.R_mono HO_4.out (fun k_ hk => (⟨hk, hk.2⟩ : _ ∧ k_ ≠ gb225))) (fun _ hk => hk.2) (.string t222)) (fun _ hk => hk.2) (.string t223)) (fun _ h_ => h_.1))) hb); replace BK225 := ak (blk_below (g := gb225) (o := .cells #[.string t222, .string t223] 75 (0, 0)) (bq BK225.out) hb); replace HB := ak (below_step (bl1 HB.out GE225.out) hb); clear hb))
         go_ret2
         exact ⟨_, by first | rfl | (simp [errW_none, errW_some] <;> rfl) | (simp [*, errW_none, errW_some] <;> rfl), by first | exact Kd.R_nil _ _ _ _ _ | exact Kd.N_nil _ _ _ _ _ | exact Kd.V_nil _ _ _ _ _ | exact Kd.Q_nil _ _ _ _ _ | exact Kd.S_nil _ _ _ _ _, bl1 HB.out GE225.out⟩
        ·rw [if_neg c13] at H
         have c13b0 : (t226.toList == ([116, 114, 97, 110, 115, 102, 101, 114, 45, 101, 110, 99, 111, 100, 105, 110, 103] : List UInt8)) = false := beq_eq_false_iff_ne.mpr c13
         have c13b1 : (t226.toList != ([116, 114, 97, 110, 115, 102, 101, 114, 45, 101, 110, 99, 111, 100, 105, 110, 103] : List UInt8)) = true := bne_iff_ne.mpr c13
         by_cases c19 : x4_1.length < 4398046511104
         ·rw [if_pos c19] at H
          have LMc19 := ak c19
          clear c19
          obtain ⟨y227, hy227⟩ : ∃ y_ : List (S75), y_ = (x4_1 ++ [(⟨t222, t223⟩ : S75)]) := ⟨_, rfl⟩
          replace H : (impl_fieldsOf.l0 k1 y227 l0 (l0.length : Int) (wrap64 (x11_1 + 1))) = some (r1, r2) := by first | (rw [hy227]; with_reducible exact H) | (have H2_ := (Option.bind_some _ _).symm.trans H; rw [hy227]; with_reducible exact H2_) | (have H2_ := (Option.bind_some _ _).symm.trans H; with_reducible exact H2_) | with_reducible exact H | (rw [hy227]; exact H) | exact H
          have Ny227 := ak hy227
          clear hy227
          have H' := ak H
          clear H
          have p221 : 0 ≤ (x11_1 : Int) := od
          have q221 : x11_1 < (l0.length : Int) := od
          obtain ⟨ad221, e221, hx221_0⟩ := Kd.at_string HR0.out x11_1 p221 q221
          cases e221
          replace hx221_0 := (HB.out.cell (World.block_lt_of_cell? w _ hx221_0)).trans hx221_0
          replace p221 := eq_true p221
          replace q221 := eq_true q221
          go_wp2_with (first | ((with_reducible refine gc 95 ?_); refine gL 95 Tryz.func95 (some 17) #[.string (rdOf ByteArray.empty l0 x11_1)] ?_; (with_reducible refine (impl_fieldOf.calls (rdOf ByteArray.empty l0 x11_1) t222 t223 true _ A5.out (globg HT.out (bl HB.out))).mono ?_); rintro e w20 ⟨rfl, hb⟩; refine ⟨_, rfl, ?_⟩; replace HO_4 := ak (Kd.R_below (kr HO_4.out) hb); replace HB := ak (below_step (bl HB.out) hb); clear hb) | ((with_reducible refine gd 7 ?_); (try (refine gate_guard (by rfl) ?_; dsimp only)); refine bE 7 #[.string (⟨#[]⟩ : ByteArray), .string (⟨#[]⟩ : ByteArray)] 75 ?_; intro gb225 hg w21 hbox hb; replace HO_4 := ak (Kd.R_below (Kd.R_elderB (kr HO_4.out) gb225 (Nat.le_of_eq hg.symm)) hb); have BK225 := ak hbox; have GW225 := gs hg (bl HB.out); have GE225 := gs hg (bl HB.out); replace HB := ak (below_step (bl HB.out) hb); clear hb hbox hg; obtain ⟨hcz22_0, hcz22_1, hfz22_0, hfz22_1⟩ := b2 BK225.out; obtain ⟨Ao23, co23, eo23⟩ := Kd.R_slice HO_4.out; subst eo23) | (go_at_call 96; (with_reducible refine (impl_small.calls t222 t226 _ A12.out).mono ?_); rintro e w24 ⟨rfl, hb⟩; replace HO_4 := ak (Kd.R_below (by (with_reducible repeat (first | apply Kd.R_alloc | apply Kd.R_drewN | apply Kd.R_drew)); exact (Kd.R_mono (Kd.R_far (p := ⟨gb225, 1, none⟩) (Kd.R_far (p := ⟨gb225, 0, none⟩) (Kd.R_mono HO_4.out (fun k_ hk => (⟨hk, hk.2⟩ : _ ∧ k_ ≠ gb225))) (fun _ hk => hk.2) (.string t222)) (fun _ hk => hk.2) (.string t223)) (fun _ h_ => h_.1))) hb); replace BK225 := ak (blk_below (g := gb225) (o := .cells #[.string t222, .string t223] 75 (0, 0)) (bq BK225.out) hb); replace HB := ak (below_step (bl1 HB.out GE225.out) hb); clear hb; obtain ⟨hcz25_0, hcz25_1, hfz25_0, hfz25_1⟩ := b2 BK225.out) | ((with_reducible refine gate_builtin (b := .append) (xs := #[.tmp 33, .tmp 35]) rfl ?_); (try (refine gate_guard (by rfl) ?_; dsimp only)); at_builtin; refine Kd.R_append k75 (w0 := w) w.heap.size rfl (.tmp 33) (.tmp 35) 22 75 (.agg #[(.string ⟨#[]⟩), (.string ⟨#[]⟩)]) 32 rfl Tryz.underlying22 info75 rfl (by decide) (by omega) (.slice Ao23 x4_1.length co23) x4_1 (⟨t222, t223⟩ : S75) [.string t222, .string t223] (fun k_ => k_ ≠ gb225) (fun _ => False) rfl rfl ?aP (fun _ hk => hk.elim) ?aF ?aO ?aB ?aS ?aL ?_; (case aP => exact k75_mkM _ _ _ (⟨t222, t223⟩ : S75)); (case aB => exact (bl1 HB.out GE225.out)); (case aF => exact (fun k_ hk => Kd.freshB (bk BK225.out) k_ hk)); (case aO => exact (by (with_reducible repeat (first | apply Kd.R_alloc | apply Kd.R_drewN | apply Kd.R_drew)); exact Kd.R_mono HO_4.out (fun _ hk => hk.2))); (case aS => exact (below_size (bl1 HB.out GE225.out))); (case aL => have := LMc19.out; omega); intro v228 w26 ho hb hg hat; rw [← Ny227.out] at ho; replace BK225 := ak (blk_grown (bk BK225.out) hg (Kd.R_away HO_4.out (fun _ hk => hk.2))); replace HB := ak hb; have HO229 := ak ho; clear HO_4; clear ho hb hg hat))
          go_roundg k1
          case measure => have := HK1.out; omega
          case rel => exact ⟨(y227), (wrap64 (x11_1 + 1)), (by first | rfl | (simp; done) | (simp [*]; done)), H', ⟨by have := HK1.out; omega⟩, ⟨by (with_reducible repeat (first | apply Kd.R_alloc | apply Kd.R_drewN | apply Kd.R_drew)); exact Kd.R_mono HO229.out (fun _ hk => trivial)⟩, ⟨bl1 HB.out GE225.out⟩⟩
         ·rw [if_neg c19] at H
          exact absurd H (by simp)
      ·replace c6 := Bool.eq_false_iff.mpr c6
       subst c6
       rw [if_neg ff] at H
       simp only [Option.some.injEq, Prod.mk.injEq] at H
       obtain ⟨rfl, rfl⟩ := H
       have p221 : 0 ≤ (x11_1 : Int) := od
       have q221 : x11_1 < (l0.length : Int) := od
       obtain ⟨ad221, e221, hx221_0⟩ := Kd.at_string HR0.out x11_1 p221 q221
       cases e221
       replace hx221_0 := (HB.out.cell (World.block_lt_of_cell? w _ hx221_0)).trans hx221_0
       replace p221 := eq_true p221
       replace q221 := eq_true q221
       go_wp2_with (first | ((with_reducible refine gc 95 ?_); refine gL 95 Tryz.func95 (some 17) #[.string (rdOf ByteArray.empty l0 x11_1)] ?_; (with_reducible refine (impl_fieldOf.calls (rdOf ByteArray.empty l0 x11_1) t222 t223 false _ A5.out (globg HT.out (bl HB.out))).mono ?_); rintro e w27 ⟨rfl, hb⟩; refine ⟨_, rfl, ?_⟩; replace HO_4 := ak (Kd.R_below (kr HO_4.out) hb); replace HB := ak (below_step (bl HB.out) hb); clear hb) | ((with_reducible refine gd 7 ?_); (try (refine gate_guard (by rfl) ?_; dsimp only)); refine bE 7 #[.string (⟨#[]⟩ : ByteArray), .string (⟨#[]⟩ : ByteArray)] 75 ?_; intro gb225 hg w28 hbox hb; replace HO_4 := ak (Kd.R_below (Kd.R_elderB (kr HO_4.out) gb225 (Nat.le_of_eq hg.symm)) hb); have BK225 := ak hbox; have GW225 := gs hg (bl HB.out); have GE225 := gs hg (bl HB.out); replace HB := ak (below_step (bl HB.out) hb); clear hb hbox hg; obtain ⟨hcz29_0, hcz29_1, hfz29_0, hfz29_1⟩ := b2 BK225.out))
       go_ret2
       exact ⟨_, by first | rfl | (simp [errW_none, errW_some] <;> rfl) | (simp [*, errW_none, errW_some] <;> rfl), by first | exact Kd.R_nil _ _ _ _ _ | exact Kd.N_nil _ _ _ _ _ | exact Kd.V_nil _ _ _ _ _ | exact Kd.Q_nil _ _ _ _ _ | exact Kd.S_nil _ _ _ _ _, bl1 HB.out GE225.out⟩
     ·rw [if_neg c4] at H
      exact absurd H (by simp)
    ·rw [if_neg c3] at H
     exact absurd H (by simp)
   ·rw [if_neg c2] at H
    have c2b0 : decide (x11_1 < (l0.length : Int)) = false := decide_eq_false c2
    clear c2
    simp only [Option.some.injEq, Prod.mk.injEq] at H
    obtain ⟨rfl, rfl⟩ := H
    go_wp2
    go_ret2
    exact ⟨_, by first | rfl | (simp [errW_none, errW_some] <;> rfl) | (simp [*, errW_none, errW_some] <;> rfl), kr HO_4.out, bl HB.out⟩

-- NOT PRINTED: function 163 (strconv_lower)

-- NOT PRINTED: function 164 (strconv_underscoreOK)

-- NOT PRINTED: function 150 (strconv_ParseUint)

-- NOT PRINTED: function 131 (strconv_ParseInt)

-- NOT PRINTED: function 108 (strconv_Atoi_108)

-- NOT PRINTED: function 151 (stringslite_Clone)

-- NOT PRINTED: function 132 (strconv_syntaxError)

-- NOT PRINTED: function 133 (strconv_rangeError)

-- NOT PRINTED: function 153 (strconv_small)

-- NOT PRINTED: function 165 (strconv_log10Pow2)

-- NOT PRINTED: function 166 (bits_Len64)

-- NOT PRINTED: function 167 (strconv_bool2_int)

-- NOT PRINTED: function 154 (strconv_numDigits)

-- NOT PRINTED: function 155 (strconv_formatBase10)

-- NOT PRINTED: function 168 (strconv_isPowerOfTwo)

-- NOT PRINTED: function 173 (bits_TrailingZeros32)

-- NOT PRINTED: function 174 (bits_TrailingZeros64)

-- NOT PRINTED: function 169 (bits_TrailingZeros)

-- NOT PRINTED: function 156 (strconv_formatBits)

-- NOT PRINTED: function 136 (strconv_FormatInt)

-- NOT PRINTED: function 110 (strconv_Itoa_110)

/-! ### strconv_Itoa: function 78 -/
def strconv_Itoa.f (a0 : Int) : Option ByteArray := if -9223372036854775808 ≤ a0 ∧ a0 ≤ 9223372036854775807 then some ⟨(Lib.itoa a0).toArray⟩ else none
theorem strconv_Itoa.calls (a0 : Int) (r : ByteArray) (w : World) (h : strconv_Itoa.f a0 = some r) (ht : Glob w) :
  Calls Tryz.prog 78 #[.int .i64 a0] w fun e w' => e = .returned (.string r) ∧ Below w.heap.size w w' := by
 unfold strconv_Itoa.f at h
 split at h
 ·rename_i hc
  obtain rfl := Option.some.inj h
  exact trItoa a0 hc.1 hc.2 w ht
 ·cases h


-- NOT PRINTED: function 152 (errors_New)

-- NOT PRINTED: function 134 (strconv_baseError)

-- NOT PRINTED: function 135 (strconv_bitSizeError)

-- NOT PRINTED: function 109 (strconv_toError)

/-! ### strconv_Atoi: function 77 (the error: whether there is one) -/
def errV (tp : TypeId) (p : Value) : Option Int → Value
 | none => .nilIface
 | some _ => .iface tp p
theorem errV_none (tp : TypeId) (p : Value) : errV tp p none = .nilIface := rfl
theorem errV_some (tp : TypeId) (p : Value) (c : Int) : errV tp p (some c) = .iface tp p := rfl
def strconv_Atoi.f (a0 : ByteArray) : Option (Int × Option Int) := if a0.size ≤ 281474976710656 then some (atoiN a0, if atoiF a0 = true then some 0 else none) else none
theorem strconv_Atoi.calls (a0 : ByteArray) (r1 : Int) (r2 : Option Int) (w : World) (h : strconv_Atoi.f a0 = some (r1, r2)) (ht : Glob w) :
  Calls Tryz.prog 77 #[.string a0] w fun e w' => ∃ tp_ p_, e = .returned (.tuple #[.int .i64 r1, errV tp_ p_ r2]) ∧ Below w.heap.size w w' := by
 unfold strconv_Atoi.f at h
 split at h
 ·rename_i hs
  have h := Option.some.inj h
  simp only [Prod.mk.injEq] at h
  obtain ⟨rfl, h2⟩ := h
  refine (trAtoi a0 w hs ht).mono ?_
  rintro e w' ⟨tp, p, rfl, hb⟩
  refine ⟨tp, p, ?_, hb⟩
  rw [← h2]
  cases atoiF a0 <;> rfl
 ·cases h


/-! ### impl_valuesOf: function 97 -/
def impl_valuesOf.l0 : Nat → ByteArray → List ByteArray → List (S75) → Int → Int → Option (List ByteArray)
 | 0, _, _, _, _, _ => none
 | k + 1, x1, x5, x8, x9, x10 => if x10 < x9 then (if 0 ≤ x10 then (if x10 < (x8.length : Int) then ((impl_small.f ((rd_T75 x8 x10).f0)).bind fun t230 => ((impl_small.f x1).bind fun t231 => (if t230.toList = t231.toList then (if x5.length < 8796093022208 then (impl_valuesOf.l0 k x1 (x5 ++ [(rd_T75 x8 x10).f1]) x8 x9 (wrap64 (x10 + 1))) else (none)) else (impl_valuesOf.l0 k x1 x5 x8 x9 (wrap64 (x10 + 1)))))) else (none)) else (none)) else (some x5)
def impl_valuesOf.f (k : Nat) (l0 : List (S75)) (a1 : ByteArray) : Option (List ByteArray) := impl_valuesOf.l0 k a1 ([] : List ByteArray) l0 (l0.length : Int) 0
theorem impl_valuesOf.mono_l : ∀ k, (∀ y0 y1 y2 y3 y4, LeO (impl_valuesOf.l0 k y0 y1 y2 y3 y4) (impl_valuesOf.l0 (k + 1) y0 y1 y2 y3 y4))
 | 0 => fun _ _ _ _ _ r h => by simp [impl_valuesOf.l0] at h
 | k + 1 => by
  have ih0 := impl_valuesOf.mono_l k
  ·intro y0 y1 y2 y3 y4
   unfold impl_valuesOf.l0
   repeat' with_reducible first | exact ih0 _ _ _ _ _ | exact LeO.refl _ | exact LeO.none _ | refine LeO.ite ?_ ?_ | refine LeO.bind ?_ (fun _ => ?_)
theorem impl_valuesOf.mono : ∀ a0 a1 k, LeO (impl_valuesOf.f k a0 a1) (impl_valuesOf.f (k + 1) a0 a1) := by
 intro a0 a1 k
 have ih0 := impl_valuesOf.mono_l k
 unfold impl_valuesOf.f
 repeat' with_reducible first | exact ih0 _ _ _ _ _ | exact LeO.refl _ | exact LeO.none _ | refine LeO.ite ?_ ?_ | refine LeO.bind ?_ (fun _ => ?_)
set_option maxHeartbeats 8000000 in
set_option maxRecDepth 100000 in
theorem impl_valuesOf.calls (k : Nat) (A0 : Option Addr) (c0 : Nat) (l0 : List (S75)) (a1 : ByteArray) (r : List ByteArray) (w : World) (hr0 : Kd.C k75 w A0 l0.length l0) (hc0 : l0.length ≤ c0) (h : impl_valuesOf.f k l0 a1 = some r) :
  Calls Tryz.prog 97 #[.slice A0 l0.length c0, .string a1] w fun e w' => ∃ v0_ : Value, e = .returned (v0_) ∧ Kd.R Kd.string 9 w' w.heap.size (fun _ => True) v0_ r ∧ Below w.heap.size w w' := by
 have hu75 := Tryz.underlying75
 have HR0 := ak hr0
 have HC0 := ak hc0
 clear hr0 hc0
 have HB := ak (Below.refl w.heap.size w)
 have H : (impl_valuesOf.l0 k a1 ([] : List ByteArray) l0 (l0.length : Int) 0) = some r := h
 clear h
 have H' := ak H
 clear H
 go_enter Tryz.func97, Tryz.ntmps97
 go_wp2
 go_loopg [5, 10] k (fun kq v5 v10 w' => ∃ (x5_1 : List ByteArray) (x10_1 : Int), v10 = .int .i64 x10_1 ∧ Aside0 (impl_valuesOf.l0 kq a1 x5_1 l0 (l0.length : Int) x10_1 = some r) ∧ Aside0 (kq ≤ k) ∧ Aside0 (Kd.R Kd.string 9 w' w.heap.size (fun _ => True) v5 x5_1) ∧ Aside0 (Below w.heap.size w w'))
 case atStart => exact ⟨(([] : List ByteArray)), (0), (by first | rfl | (simp; done) | (simp [*]; done)), H', ⟨Nat.le_refl _⟩, ⟨by first | exact Kd.R_nil _ _ _ _ _ | exact Kd.N_nil _ _ _ _ _ | exact Kd.V_nil _ _ _ _ _ | exact Kd.Q_nil _ _ _ _ _ | exact Kd.S_nil _ _ _ _ _⟩, ⟨bl HB.out⟩⟩
 case round =>
  clear H'
  try clear p2
  obtain ⟨x5_1, x10_1, rfl, HA, HK1, HO_5, HB⟩ := hrel
  cases gk with
  | zero => exact absurd HA.out (by simp [impl_valuesOf.l0])
  | succ k1 =>
   have H := HA.out
   clear HA
   simp only [impl_valuesOf.l0] at H
   by_cases c3 : x10_1 < (l0.length : Int)
   ·rw [if_pos c3] at H
    have c3b0 : decide (x10_1 < (l0.length : Int)) = true := decide_eq_true c3
    clear c3
    by_cases c4 : 0 ≤ x10_1
    ·rw [if_pos c4] at H
     have c4b0 : decide (0 ≤ x10_1) = true := decide_eq_true c4
     clear c4
     by_cases c5 : x10_1 < (l0.length : Int)
     ·rw [if_pos c5] at H
      have c5b0 : decide (x10_1 < (l0.length : Int)) = true := decide_eq_true c5
      clear c5
      replace H := bs H
      obtain ⟨t230, A6, H⟩ := H
      try dsimp only at H
      replace H := bs H
      obtain ⟨t231, A7, H⟩ := H
      try dsimp only at H
      by_cases c8 : t230.toList = t231.toList
      ·rw [if_pos c8] at H
       have c8b0 : (t230.toList == t231.toList) = true := beq_iff_eq.mpr c8
       have c8b1 : (t230.toList != t231.toList) = false := bne_eq_false_iff_eq.mpr c8
       clear c8
       by_cases c9 : x5_1.length < 8796093022208
       ·rw [if_pos c9] at H
        have LMc9 := ak c9
        clear c9
        obtain ⟨y232, hy232⟩ : ∃ y_ : List ByteArray, y_ = (x5_1 ++ [(rd_T75 l0 x10_1).f1]) := ⟨_, rfl⟩
        replace H : (impl_valuesOf.l0 k1 a1 y232 l0 (l0.length : Int) (wrap64 (x10_1 + 1))) = some r := by first | (rw [hy232]; with_reducible exact H) | (have H2_ := (Option.bind_some _ _).symm.trans H; rw [hy232]; with_reducible exact H2_) | (have H2_ := (Option.bind_some _ _).symm.trans H; with_reducible exact H2_) | with_reducible exact H | (rw [hy232]; exact H) | exact H
        have Ny232 := ak hy232
        clear hy232
        have H' := ak H
        clear H
        have p228 : 0 ≤ (x10_1 : Int) := od
        have q228 : x10_1 < (l0.length : Int) := od
        obtain ⟨ad228, e228, hx228_0, hx228_1⟩ := at_T75 HR0.out x10_1 p228 q228
        cases e228
        replace hx228_0 := (HB.out.cell (World.block_lt_of_cell? w _ hx228_0)).trans hx228_0
        replace hx228_1 := (HB.out.cell (World.block_lt_of_cell? w _ hx228_1)).trans hx228_1
        replace p228 := eq_true p228
        replace q228 := eq_true q228
        go_wp2_with (first | ((with_reducible refine gd 7 ?_); refine bE 7 #[.string (⟨#[]⟩ : ByteArray), .string (⟨#[]⟩ : ByteArray)] 75 ?_; intro gb229 hg w10 hbox hb; replace HO_5 := ak (Kd.R_below (kr HO_5.out) hb); have BK229 := ak hbox; have GW229 := gs hg (bl HB.out); have GE229 := gs hg (bl HB.out); replace HB := ak (below_step (bl HB.out) hb); clear hb hbox hg; obtain ⟨hcz11_0, hcz11_1, hfz11_0, hfz11_1⟩ := b2 BK229.out) | ((with_reducible refine gc 96 ?_); refine gL 96 Tryz.func96 (some 16) #[.string ((rd_T75 l0 x10_1).f0)] ?_; (with_reducible refine (impl_small.calls ((rd_T75 l0 x10_1).f0) t230 _ A6.out).mono ?_); rintro e w12 ⟨rfl, hb⟩; refine ⟨_, rfl, ?_⟩; replace HO_5 := ak (Kd.R_below (by (with_reducible repeat (first | apply Kd.R_alloc | apply Kd.R_drewN | apply Kd.R_drew)); exact (Kd.R_mono (Kd.R_far (p := ⟨gb229, 1, none⟩) (Kd.R_far (p := ⟨gb229, 0, none⟩) (Kd.R_types HO_5.out BK229.out (by decide)) (fun _ hk => hk.2) (.string ((rd_T75 l0 x10_1).f0))) (fun _ hk => hk.2) (.string ((rd_T75 l0 x10_1).f1))) (fun _ h_ => h_.1))) hb); replace BK229 := ak (blk_below (g := gb229) (o := .cells #[.string ((rd_T75 l0 x10_1).f0), .string ((rd_T75 l0 x10_1).f1)] 75 (0, 0)) (bq BK229.out) hb); replace HB := ak (below_step (bl1 HB.out GE229.out) hb); clear hb) | ((with_reducible refine gc 96 ?_); refine gL 96 Tryz.func96 (some 18) #[.string a1] ?_; (with_reducible refine (impl_small.calls a1 t231 _ A7.out).mono ?_); rintro e w13 ⟨rfl, hb⟩; refine ⟨_, rfl, ?_⟩; replace HO_5 := ak (Kd.R_below (kr HO_5.out) hb); replace BK229 := ak (blk_below (bk BK229.out) hb); replace HB := ak (below_step (bl1 HB.out GE229.out) hb); clear hb; obtain ⟨hcz14_0, hcz14_1, hfz14_0, hfz14_1⟩ := b2 BK229.out) | ((with_reducible refine gate_builtin (b := .append) (xs := #[.tmp 20, .tmp 23]) rfl ?_); at_builtin; refine Kd.R_append Kd.string (w0 := w) w.heap.size rfl (.tmp 20) (.tmp 23) 43 9 (.string ⟨#[]⟩) 16 rfl Tryz.underlying43 info9 rfl (by decide) (by omega) u5 x5_1 ((rd_T75 l0 x10_1).f1) [.string ((rd_T75 l0 x10_1).f1)] (fun _ => True) (fun _ => False) rfl rfl ?aP (fun _ hk => hk.elim) ?aF ?aO ?aB ?aS ?aL ?_; (case aP => exact rfl); (case aB => exact (bl1 HB.out GE229.out)); (case aF => exact (fun _ _ => trivial)); (case aO => exact (kr HO_5.out)); (case aS => exact (below_size (bl1 HB.out GE229.out))); (case aL => have := LMc9.out; omega); intro v233 w15 ho hb hg hat; rw [← Ny232.out] at ho; replace BK229 := ak (blk_grown (bk BK229.out) hg (Kd.R_ne HO_5.out BK229.out (by decide))); replace HB := ak hb; have HO234 := ak ho; clear HO_5; clear ho hb hg hat))
        go_roundg k1
        case measure => have := HK1.out; omega
        case rel => exact ⟨(y232), (wrap64 (x10_1 + 1)), (by first | rfl | (simp; done) | (simp [*]; done)), H', ⟨by have := HK1.out; omega⟩, ⟨kr HO234.out⟩, ⟨bl1 HB.out GE229.out⟩⟩
       ·rw [if_neg c9] at H
        exact absurd H (by simp)
      ·rw [if_neg c8] at H
       have c8b0 : (t230.toList == t231.toList) = false := beq_eq_false_iff_ne.mpr c8
       have c8b1 : (t230.toList != t231.toList) = true := bne_iff_ne.mpr c8
       have H' := ak H
       clear H
       have p228 : 0 ≤ (x10_1 : Int) := od
       have q228 : x10_1 < (l0.length : Int) := od
       obtain ⟨ad228, e228, hx228_0, hx228_1⟩ := at_T75 HR0.out x10_1 p228 q228
       cases e228
       replace hx228_0 := (HB.out.cell (World.block_lt_of_cell? w _ hx228_0)).trans hx228_0
       replace hx228_1 := (HB.out.cell (World.block_lt_of_cell? w _ hx228_1)).trans hx228_1
       replace p228 := eq_true p228
       replace q228 := eq_true q228
       go_wp2_with (first | ((with_reducible refine gd 7 ?_); refine bE 7 #[.string (⟨#[]⟩ : ByteArray), .string (⟨#[]⟩ : ByteArray)] 75 ?_; intro gb229 hg w16 hbox hb; replace HO_5 := ak (Kd.R_below (kr HO_5.out) hb); have BK229 := ak hbox; have GW229 := gs hg (bl HB.out); have GE229 := gs hg (bl HB.out); replace HB := ak (below_step (bl HB.out) hb); clear hb hbox hg; obtain ⟨hcz17_0, hcz17_1, hfz17_0, hfz17_1⟩ := b2 BK229.out) | ((with_reducible refine gc 96 ?_); refine gL 96 Tryz.func96 (some 16) #[.string ((rd_T75 l0 x10_1).f0)] ?_; (with_reducible refine (impl_small.calls ((rd_T75 l0 x10_1).f0) t230 _ A6.out).mono ?_); rintro e w18 ⟨rfl, hb⟩; refine ⟨_, rfl, ?_⟩; replace HO_5 := ak (Kd.R_below (by (with_reducible repeat (first | apply Kd.R_alloc | apply Kd.R_drewN | apply Kd.R_drew)); exact (Kd.R_mono (Kd.R_far (p := ⟨gb229, 1, none⟩) (Kd.R_far (p := ⟨gb229, 0, none⟩) (Kd.R_types HO_5.out BK229.out (by decide)) (fun _ hk => hk.2) (.string ((rd_T75 l0 x10_1).f0))) (fun _ hk => hk.2) (.string ((rd_T75 l0 x10_1).f1))) (fun _ h_ => h_.1))) hb); replace BK229 := ak (blk_below (g := gb229) (o := .cells #[.string ((rd_T75 l0 x10_1).f0), .string ((rd_T75 l0 x10_1).f1)] 75 (0, 0)) (bq BK229.out) hb); replace HB := ak (below_step (bl1 HB.out GE229.out) hb); clear hb) | ((with_reducible refine gc 96 ?_); refine gL 96 Tryz.func96 (some 18) #[.string a1] ?_; (with_reducible refine (impl_small.calls a1 t231 _ A7.out).mono ?_); rintro e w19 ⟨rfl, hb⟩; refine ⟨_, rfl, ?_⟩; replace HO_5 := ak (Kd.R_below (kr HO_5.out) hb); replace BK229 := ak (blk_below (bk BK229.out) hb); replace HB := ak (below_step (bl1 HB.out GE229.out) hb); clear hb))
       go_roundg k1
       case measure => have := HK1.out; omega
       case rel => exact ⟨(x5_1), (wrap64 (x10_1 + 1)), (by first | rfl | (simp; done) | (simp [*]; done)), H', ⟨by have := HK1.out; omega⟩, ⟨kr HO_5.out⟩, ⟨bl1 HB.out GE229.out⟩⟩
     ·rw [if_neg c5] at H
      exact absurd H (by simp)
    ·rw [if_neg c4] at H
     exact absurd H (by simp)
   ·rw [if_neg c3] at H
    have c3b0 : decide (x10_1 < (l0.length : Int)) = false := decide_eq_false c3
    clear c3
    obtain rfl := Option.some.inj H
    go_wp2
    go_ret
    exact ⟨_, by first | rfl | (simp [errW_none, errW_some] <;> rfl) | (simp [*, errW_none, errW_some] <;> rfl), kr HO_5.out, bl HB.out⟩

end Go.Proofs.YthneflfbafieeaaGreatDoor.PFnTorn
