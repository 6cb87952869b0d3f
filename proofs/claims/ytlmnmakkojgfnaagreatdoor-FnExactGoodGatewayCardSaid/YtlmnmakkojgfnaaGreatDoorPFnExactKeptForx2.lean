-- written by a program of this session (wip/tool)
import Derived.Test.YtlmnmakkojgfnaaGreatDoorPFnExactKeptForx0
import Derived.Test.YtlmnmakkojgfnaaGreatDoorPFnExactKeptForx1
import Derived.Test.YtlmnmakkojgfnaaGreatDoorVOwn0
import Derived.Test.YtlmnmakkojgfnaaGreatDoorVOwnOpen
import Derived.WalkKit
import Derived.BigCall
import Derived.Test.YtlmnmakkojgfnaaGreatDoorOwnTr
import Derived.Test.YtlmnmakkojgfnaaGreatDoorVOwnShort
import Derived.Test.YtlmnmakkojgfnaaGreatDoorOwnSq
import Derived.Test.YtlmnmakkojgfnaaGreatDoorOwnIt
namespace Go.Proofs.YtlmnmakkojgfnaaGreatDoor.PFnExactKeptFor
open Go.RowKit Go.Proofs.YtlmnmakkojgfnaaGreatDoorW.PrintWords Go.Proofs.YtlmnmakkojgfnaaGreatDoorW.PrintLast Go.Proofs.YtlmnmakkojgfnaaGreatDoorW.PrintMore Go.Shelf Go.Proofs.YtlmnmakkojgfnaaGreatDoorOwn
attribute [local go_sem] max2_int min2_int max_two min_two max_three min_three max_four min_four   -- for this text's walks alone
set_option linter.unusedVariables false
set_option linter.unusedSimpArgs false

/-! ### laws_toItem: function 24 -/
def laws_toItem.f (k : Nat) (a0_0 : ByteArray) (l0_1 : List (S122)) (a0_2 : Int) (a0_3 : ByteArray) (l0_4 : List (S122)) (a0_5 : ByteArray) (a0_6 : Int) (a0_7 : Int) : Option (ByteArray × (List (S105)) × Int × ByteArray × (List (S105)) × ByteArray × Int × Int) := (laws_toFieldS.f k l0_1).bind fun t145 => ((laws_toKept.f k a0_2 a0_3 l0_4 a0_5 a0_6 a0_7).bind fun bt148 => (some (a0_0, t145, bt148.1, bt148.2.1, bt148.2.2.1, bt148.2.2.2.1, bt148.2.2.2.2.1, bt148.2.2.2.2.2)))
theorem laws_toItem.mono : ∀ a0 a1 a2 a3 a4 a5 a6 a7 k, LeO (laws_toItem.f k a0 a1 a2 a3 a4 a5 a6 a7) (laws_toItem.f (k + 1) a0 a1 a2 a3 a4 a5 a6 a7) := by
 intro a0 a1 a2 a3 a4 a5 a6 a7 k
 unfold laws_toItem.f
 repeat' with_reducible first | exact laws_toFieldS.mono _ _ | exact laws_toKept.mono _ _ _ _ _ _ _ | exact LeO.refl _ | exact LeO.none _ | refine LeO.ite ?_ ?_ | refine LeO.bind ?_ (fun _ => ?_)
set_option maxHeartbeats 8000000 in
set_option maxRecDepth 100000 in
theorem laws_toItem.calls (k : Nat) (a0_0 : ByteArray) (A0_1 : Option Addr) (c0_1 : Nat) (l0_1 : List (S122)) (a0_2 : Int) (a0_3 : ByteArray) (A0_4 : Option Addr) (c0_4 : Nat) (l0_4 : List (S122)) (a0_5 : ByteArray) (a0_6 : Int) (a0_7 : Int) (r1 : ByteArray) (r2 : List (S105)) (r3 : Int) (r4 : ByteArray) (r5 : List (S105)) (r6 : ByteArray) (r7 : Int) (r8 : Int) (w : World) (hr0_1 : Kd.C k122 w A0_1 l0_1.length l0_1) (hc0_1 : l0_1.length ≤ c0_1) (hr0_4 : Kd.C k122 w A0_4 l0_4.length l0_4) (hc0_4 : l0_4.length ≤ c0_4) (h : laws_toItem.f k a0_0 l0_1 a0_2 a0_3 l0_4 a0_5 a0_6 a0_7 = some (r1, r2, r3, r4, r5, r6, r7, r8)) :
  Calls Tryz.prog 24 #[.agg #[.string a0_0, .slice A0_1 l0_1.length c0_1, .int .i64 a0_2, .string a0_3, .slice A0_4 l0_4.length c0_4, .string a0_5, .int .i64 a0_6, .int .i64 a0_7]] w fun e w' => ∃ v1_ v4_ : Value, e = .returned (.agg #[.string r1, v1_, .int .i64 r3, .string r4, v4_, .string r6, .int .i64 r7, .int .i64 r8]) ∧ Kd.R k105 105 w' w.heap.size (fun k_ => some k_ ≠ (v4_ : Value).ownBlock) v1_ r2 ∧ Kd.R k105 105 w' w.heap.size (fun k_ => some k_ ≠ (v1_ : Value).ownBlock) v4_ r5 ∧ Below w.heap.size w w' := by
 have hu52 := Tryz.underlying52
 have hu61 := Tryz.underlying61
 have hu50 := Tryz.underlying50
 have hu59 := Tryz.underlying59
 have HR0_1 := ak hr0_1
 have HC0_1 := ak hc0_1
 clear hr0_1 hc0_1
 have HR0_4 := ak hr0_4
 have HC0_4 := ak hc0_4
 clear hr0_4 hc0_4
 have HB := ak (Below.refl w.heap.size w)
 unfold laws_toItem.f at h; have H := h
 clear h
 replace H := bs H
 obtain ⟨t145, A2, H⟩ := H
 try dsimp only at H
 replace H := bs H
 obtain ⟨⟨t148, t149, t150, t153, t154, t155⟩, A3, H⟩ := H
 try dsimp only at H
 simp only [Option.some.injEq, Prod.mk.injEq] at H
 obtain ⟨rfl, rfl, rfl, rfl, rfl, rfl, rfl, rfl⟩ := H
 go_enter Tryz.func24, Tryz.ntmps24
 go_wp2_with (first | ((with_reducible refine gd 1 ?_); refine bE 1 #[.string a0_0, .slice A0_1 l0_1.length c0_1, .int .i64 a0_2, .string a0_3, .slice A0_4 l0_4.length c0_4, .string a0_5, .int .i64 a0_6, .int .i64 a0_7] 52 ?_; intro gb142 hg w4 hbox hb; have BK142 := ak hbox; have GW142 := gs hg (bl HB.out); have GE142 := gs hg (bl HB.out); replace HB := ak (below_step (bl HB.out) hb); clear hb hbox hg) | ((with_reducible refine gd 2 ?_); refine bE 2 #[.string (⟨#[]⟩ : ByteArray), .slice none 0 0, .int .i64 0, .string (⟨#[]⟩ : ByteArray), .slice none 0 0, .string (⟨#[]⟩ : ByteArray), .int .i64 0, .int .i64 0] 61 ?_; intro gb143 hg w5 hbox hb; have BK143 := ak hbox; have GW143 := gs hg (bl1 HB.out GE142.out); have GE143 := gs hg (bl1 HB.out GE142.out); replace HB := ak (below_step (bl1 HB.out GE142.out) hb); have NB142_143 := nl hg BK142.out; have NB143_142 := ng hg BK142.out; replace BK142 := ak (blk_below (bk BK142.out) hb); clear hb hbox hg) | ((with_reducible refine gd 3 ?_); refine bE 3 #[.string (⟨#[]⟩ : ByteArray), .slice none 0 0, .int .i64 0, .string (⟨#[]⟩ : ByteArray), .slice none 0 0, .string (⟨#[]⟩ : ByteArray), .int .i64 0, .int .i64 0] 61 ?_; intro gb144 hg w6 hbox hb; have BK144 := ak hbox; have GW144 := gs hg (bl2 HB.out GE142.out GE143.out); have GE144 := gs hg (bl2 HB.out GE142.out GE143.out); replace HB := ak (below_step (bl2 HB.out GE142.out GE143.out) hb); have NB142_144 := nl hg BK142.out; have NB144_142 := ng hg BK142.out; replace BK142 := ak (blk_below (bk BK142.out) hb); have NB143_144 := nl hg BK143.out; have NB144_143 := ng hg BK143.out; replace BK143 := ak (blk_below (bk BK143.out) hb); clear hb hbox hg; have hnb7 := NB142_143.out; have hnc7 := NB143_142.out; have hnb8 := NB142_144.out; have hnc8 := NB144_142.out; obtain ⟨_, _, _, _, _, _, _, _, _, _, _, _, _, _, _, _⟩ := b8 BK142.out; have hnb10 := NB144_143.out; have hnc10 := NB143_144.out; obtain ⟨_, _, _, _, _, _, _, _, _, _, _, _, _, _, _, _⟩ := b8 BK144.out) | ((with_reducible refine gc 55 ?_); refine gL 55 Tryz.func55 (some 9) #[.slice A0_1 l0_1.length c0_1] ?_; (with_reducible refine (laws_toFieldS.calls k _ _ l0_1 t145 _ ?side1 ?side2 A2.out).mono ?_); (case side1 => exact Kd.C_below HR0_1.out (bl3 HB.out GE142.out GE143.out GE144.out)); (case side2 => exact HC0_1.out); rintro e w12 ⟨v146, rfl, ho0, hb⟩; refine ⟨_, rfl, ?_⟩; have HO147 := ak (Kd.R_lower ho0 (below_size (bl3 HB.out GE142.out GE143.out GE144.out))); replace BK142 := ak (blk_below (g := gb142) (o := .cells #[.string a0_0, .slice A0_1 l0_1.length c0_1, .int .i64 a0_2, .string a0_3, .slice A0_4 l0_4.length c0_4, .string a0_5, .int .i64 a0_6, .int .i64 a0_7] 52 (0, 0)) (bq BK142.out) hb); replace BK143 := ak (blk_below (g := gb143) (o := .cells #[.string (⟨#[]⟩ : ByteArray), .slice none 0 0, .int .i64 0, .string (⟨#[]⟩ : ByteArray), .slice none 0 0, .string (⟨#[]⟩ : ByteArray), .int .i64 0, .int .i64 0] 61 (0, 0)) (bq BK143.out) hb); replace BK144 := ak (blk_below (g := gb144) (o := .cells #[.string a0_0, .slice none 0 0, .int .i64 0, .string (⟨#[]⟩ : ByteArray), .slice none 0 0, .string (⟨#[]⟩ : ByteArray), .int .i64 0, .int .i64 0] 61 (0, 0)) (bq BK144.out) hb); replace HB := ak (below_step (bl3 HB.out GE142.out GE143.out GE144.out) hb); clear hb ho0; obtain ⟨Ao13, co13, eo13⟩ := Kd.R_slice HO147.out; subst eo13; obtain ⟨_, _, _, _, _, _, _, _, _, _, _, _, _, _, _, _⟩ := b8 BK144.out; obtain ⟨_, _, _, _, _, _, _, _, _, _, _, _, _, _, _, _⟩ := b8 BK142.out) | ((with_reducible refine gc 56 ?_); refine gL 56 Tryz.func56 (some 13) #[.agg #[.int .i64 a0_2, .string a0_3, .slice A0_4 l0_4.length c0_4, .string a0_5, .int .i64 a0_6, .int .i64 a0_7]] ?_; (with_reducible refine (laws_toKept.calls k a0_2 a0_3 _ _ l0_4 a0_5 a0_6 a0_7 t148 t149 t150 t153 t154 t155 _ ?side1 ?side2 A3.out).mono ?_); (case side1 => exact Kd.C_below HR0_4.out (bl3 HB.out GE142.out GE143.out GE144.out)); (case side2 => exact HC0_4.out); rintro e w16 ⟨v151, rfl, ho0, hb⟩; refine ⟨_, rfl, ?_⟩; have HO152 := ak (Kd.R_lower (Kd.R_new' ho0 (Kd.R_lt (by (with_reducible repeat (first | apply Kd.R_alloc | apply Kd.R_drewN | apply Kd.R_drew)); exact (Kd.R_mono (Kd.R_far (p := ⟨gb144, 1, none⟩) (Kd.R_types HO147.out BK144.out (by decide)) (fun _ hk => hk.2) (.slice Ao13 t145.length co13)) (fun _ h_ => h_.1))))) (below_size (bl3 HB.out GE142.out GE143.out GE144.out))); replace HO147 := ak (Kd.R_elder' (by (with_reducible repeat (first | apply Kd.R_alloc | apply Kd.R_drewN | apply Kd.R_drew)); exact (Kd.R_mono (Kd.R_far (p := ⟨gb144, 1, none⟩) (Kd.R_types HO147.out BK144.out (by decide)) (fun _ hk => hk.2) (.slice Ao13 t145.length co13)) (fun _ h_ => h_.1))) (Kd.R_base ho0) hb); replace BK142 := ak (blk_below (g := gb142) (o := .cells #[.string a0_0, .slice A0_1 l0_1.length c0_1, .int .i64 a0_2, .string a0_3, .slice A0_4 l0_4.length c0_4, .string a0_5, .int .i64 a0_6, .int .i64 a0_7] 52 (0, 0)) (bq BK142.out) hb); replace BK143 := ak (blk_below (g := gb143) (o := .cells #[.string (⟨#[]⟩ : ByteArray), .slice none 0 0, .int .i64 0, .string (⟨#[]⟩ : ByteArray), .slice none 0 0, .string (⟨#[]⟩ : ByteArray), .int .i64 0, .int .i64 0] 61 (0, 0)) (bq BK143.out) hb); replace BK144 := ak (blk_below (g := gb144) (o := .cells #[.string a0_0, .slice Ao13 t145.length co13, .int .i64 0, .string (⟨#[]⟩ : ByteArray), .slice none 0 0, .string (⟨#[]⟩ : ByteArray), .int .i64 0, .int .i64 0] 61 (0, 0)) (bq BK144.out) hb); replace HB := ak (below_step (bl3 HB.out GE142.out GE143.out GE144.out) hb); clear hb ho0; obtain ⟨_, _, _, _, _, _, _, _, _, _, _, _, _, _, _, _⟩ := b8 BK144.out; obtain ⟨Ao18, co18, eo18⟩ := Kd.R_slice HO152.out; subst eo18; obtain ⟨_, _, _, _, _, _, _, _, _, _, _, _, _, _, _, _⟩ := b8 BK143.out))
 refine bodyPost_ret (results_cell_row rfl _ _ gb143 61 #[.string a0_0, .slice Ao13 t145.length co13, .int .i64 t148, .string t149, .slice Ao18 t150.length co18, .string t153, .int .i64 t154, .int .i64 t155] (0, 0) _ rfl (bq BK143.out) Tryz.underlying61 rfl (by kernel_rfl)) rfl ?_
 exact ⟨_, _, by first | rfl | (simp [errW_none, errW_some] <;> rfl) | (simp [*, errW_none, errW_some] <;> rfl), by (with_reducible repeat (first | apply Kd.R_alloc | apply Kd.R_drewN | apply Kd.R_drew)); exact Kd.R_mono (Kd.R_far (p := ⟨gb143, 7, none⟩) (Kd.R_far (p := ⟨gb143, 6, none⟩) (Kd.R_far (p := ⟨gb143, 5, none⟩) (Kd.R_far (p := ⟨gb143, 4, none⟩) (Kd.R_far (p := ⟨gb143, 3, none⟩) (Kd.R_far (p := ⟨gb143, 2, none⟩) (Kd.R_far (p := ⟨gb143, 1, none⟩) (Kd.R_far (p := ⟨gb143, 0, none⟩) (Kd.R_far (p := ⟨gb144, 7, none⟩) (Kd.R_far (p := ⟨gb144, 6, none⟩) (Kd.R_far (p := ⟨gb144, 5, none⟩) (Kd.R_far (p := ⟨gb144, 4, none⟩) (Kd.R_far (p := ⟨gb144, 3, none⟩) (Kd.R_far (p := ⟨gb144, 2, none⟩) (Kd.R_types (Kd.R_types HO147.out BK144.out (by decide)) BK143.out (by decide)) (fun _ hk => hk.1.2) (.int .i64 t148)) (fun _ hk => hk.1.2) (.string t149)) (fun _ hk => hk.1.2) (.slice Ao18 t150.length co18)) (fun _ hk => hk.1.2) (.string t153)) (fun _ hk => hk.1.2) (.int .i64 t154)) (fun _ hk => hk.1.2) (.int .i64 t155)) (fun _ hk => hk.2) (.string a0_0)) (fun _ hk => hk.2) (.slice Ao13 t145.length co13)) (fun _ hk => hk.2) (.int .i64 t148)) (fun _ hk => hk.2) (.string t149)) (fun _ hk => hk.2) (.slice Ao18 t150.length co18)) (fun _ hk => hk.2) (.string t153)) (fun _ hk => hk.2) (.int .i64 t154)) (fun _ hk => hk.2) (.int .i64 t155)) (fun _ hk => hk.1.1.2), by (with_reducible repeat (first | apply Kd.R_alloc | apply Kd.R_drewN | apply Kd.R_drew)); exact Kd.R_mono (Kd.R_far (p := ⟨gb143, 7, none⟩) (Kd.R_far (p := ⟨gb143, 6, none⟩) (Kd.R_far (p := ⟨gb143, 5, none⟩) (Kd.R_far (p := ⟨gb143, 4, none⟩) (Kd.R_far (p := ⟨gb143, 3, none⟩) (Kd.R_far (p := ⟨gb143, 2, none⟩) (Kd.R_far (p := ⟨gb143, 1, none⟩) (Kd.R_far (p := ⟨gb143, 0, none⟩) (Kd.R_far (p := ⟨gb144, 7, none⟩) (Kd.R_far (p := ⟨gb144, 6, none⟩) (Kd.R_far (p := ⟨gb144, 5, none⟩) (Kd.R_far (p := ⟨gb144, 4, none⟩) (Kd.R_far (p := ⟨gb144, 3, none⟩) (Kd.R_far (p := ⟨gb144, 2, none⟩) (Kd.R_types (Kd.R_types HO152.out BK144.out (by decide)) BK143.out (by decide)) (fun _ hk => hk.1.2) (.int .i64 t148)) (fun _ hk => hk.1.2) (.string t149)) (fun _ hk => hk.1.2) (.slice Ao18 t150.length co18)) (fun _ hk => hk.1.2) (.string t153)) (fun _ hk => hk.1.2) (.int .i64 t154)) (fun _ hk => hk.1.2) (.int .i64 t155)) (fun _ hk => hk.2) (.string a0_0)) (fun _ hk => hk.2) (.slice Ao13 t145.length co13)) (fun _ hk => hk.2) (.int .i64 t148)) (fun _ hk => hk.2) (.string t149)) (fun _ hk => hk.2) (.slice Ao18 t150.length co18)) (fun _ hk => hk.2) (.string t153)) (fun _ hk => hk.2) (.int .i64 t154)) (fun _ hk => hk.2) (.int .i64 t155)) (fun _ hk => hk.1.1.2), bl3 HB.out GE142.out GE143.out GE144.out⟩

/-! ### rows of items, their inner rows apart -/
structure It where
 x : S61
 a : Value
 b : Value
def cellsI (p : It) : List Value := [.string p.x.f0, p.a, .int .i64 p.x.f2.f0.f0, .string p.x.f2.f0.f1, p.b, .string p.x.f2.f0.f3, .int .i64 p.x.f2.f1, .int .i64 p.x.f2.f2]
def kI : Kd It where
 sz := 8
 E := []
 K := fun _ p cs => cs = cellsI p ∧ p.a.oneCell' = true ∧ p.b.oneCell' = true
 M := fun _ _ _ p cs => cs = cellsI p ∧ p.a.oneCell' = true ∧ p.b.oneCell' = true
 K_len := fun h => by rw [h.1]; rfl
 K_one := fun h u hu => by
  rw [h.1] at hu
  simp only [cellsI, List.mem_cons, List.not_mem_nil, or_false] at hu
  rcases hu with rfl | rfl | rfl | rfl | rfl | rfl | rfl | rfl <;> first | rfl | exact h.2.1 | exact h.2.2
 K_below := fun _ h => h
 K_of_M := fun h => h
 M_mono := fun _ h => h
 M_bound := fun h => h
 M_move := fun _ h => h
 M_lower := fun _ h => h
def pb (p : It) : List Nat := p.a.ownBlock.toList ++ p.b.ownBlock.toList
def blks (l : List It) : List Nat := l.flatMap pb
/-- An item's rows: each is of its own block. -/
def InI (w : World) (base : Nat) (p : It) : Prop := Kd.R k105 105 w base (fun k => some k = p.a.ownBlock) p.a p.x.f1 ∧ Kd.R k105 105 w base (fun k => some k = p.b.ownBlock) p.b p.x.f2.f0.f2
structure IR (w : World) (base : Nat) (v : Value) (l : List It) : Prop where
 out : Kd.R kI 61 w base (fun k => some k = v.ownBlock) v l
 inn : ∀ p ∈ l, InI w base p
 sep : (blks l).Nodup
theorem InI.step {w w1 : World} {base : Nat} {p : It} (h : InI w base p) (hm : ∀ k, k ∈ pb p → k < w.heap.size → w1.heap[k]? = w.heap[k]?) : InI w1 base p :=
 ⟨Kd.R_step h.1 (fun k hk hl => hm k (List.mem_append_left _ (by rw [← hk]; simp)) hl), Kd.R_step h.2 (fun k hk hl => hm k (List.mem_append_right _ (by rw [← hk]; simp)) hl)⟩
theorem InI.one {w : World} {base : Nat} {p : It} (h : InI w base p) : p.a.oneCell' = true ∧ p.b.oneCell' = true := by
 obtain ⟨A, c, e⟩ := Kd.R_slice h.1
 obtain ⟨A', c', e'⟩ := Kd.R_slice h.2
 rw [e, e']; exact ⟨rfl, rfl⟩
theorem blks_mem {l : List It} {p : It} (h : p ∈ l) {k : Nat} (hk : k ∈ pb p) : k ∈ blks l := List.mem_flatMap.2 ⟨p, h, hk⟩
theorem IR.step {w w1 : World} {base : Nat} {v : Value} {l : List It} (h : IR w base v l) (hm : ∀ k, (some k = v.ownBlock ∨ k ∈ blks l) → k < w.heap.size → w1.heap[k]? = w.heap[k]?) : IR w1 base v l :=
 ⟨Kd.R_step h.out (fun k hk hl => hm k (.inl hk) hl), fun p hp => (h.inn p hp).step (fun k hk hl => hm k (.inr (blks_mem hp hk)) hl), h.sep⟩
theorem IR.below {w w1 : World} {base : Nat} {v : Value} {l : List It} (h : IR w base v l) (hb : Below w.heap.size w w1) : IR w1 base v l := h.step (fun k _ hl => hb.block k hl)
theorem IR.lower {w : World} {base base' : Nat} {v : Value} {l : List It} (h : IR w base v l) (hb : base' ≤ base) : IR w base' v l := ⟨Kd.R_lower h.out hb, fun p hp => ⟨Kd.R_lower (h.inn p hp).1 hb, Kd.R_lower (h.inn p hp).2 hb⟩, h.sep⟩
theorem IR.nil (w : World) (base : Nat) : IR w base (.slice none 0 0) [] := ⟨Kd.R_nil _ _ _ _ _, (fun _ h => by simp at h), List.nodup_nil⟩
/-- Which blocks these are. -/
theorem InI.typed {w : World} {base : Nat} {p : It} (h : InI w base p) {k : Nat} (hk : k ∈ pb p) : base ≤ k ∧ k < w.heap.size ∧ ∃ cells, w.heap[k]? = some (.cells cells 105 (0, 0)) := by
 rcases List.mem_append.1 hk with hk | hk
 ·have e : p.a.ownBlock = some k := by simpa using hk
  exact ⟨Kd.R_base h.1 k e, Kd.R_lt h.1 k e, Kd.R_typed h.1 k e⟩
 ·have e : p.b.ownBlock = some k := by simpa using hk
  exact ⟨Kd.R_base h.2 k e, Kd.R_lt h.2 k e, Kd.R_typed h.2 k e⟩
theorem IR.typed {w : World} {base : Nat} {v : Value} {l : List It} (h : IR w base v l) {k : Nat} (hk : k ∈ blks l) : base ≤ k ∧ k < w.heap.size ∧ ∃ cells, w.heap[k]? = some (.cells cells 105 (0, 0)) := by
 obtain ⟨p, hp, hk⟩ := List.mem_flatMap.1 hk
 exact (h.inn p hp).typed hk
theorem IR.ne {w : World} {base : Nat} {v : Value} {l : List It} (h : IR w base v l) {k : Nat} (hk : k ∈ blks l) : some k ≠ v.ownBlock := fun e => by
 obtain ⟨_, _, c1, h1⟩ := h.typed hk
 obtain ⟨c2, h2⟩ := Kd.R_typed h.out k e.symm
 rw [h1] at h2
 injection h2 with h2
 injection h2 with _ h2
 cases h2
/-- Only the outer row has been written. -/
theorem IR.inner_grown {w w1 : World} {base : Nat} {v : Value} {l : List It} (h : IR w base v l) (hg : w.grownBy w1 v.ownBlock) : ∀ p ∈ l, InI w1 base p :=
 fun p hp => (h.inn p hp).step (fun k hk hl => hg.block k hl (h.ne (blks_mem hp hk)))
theorem IR.reads {w : World} {base : Nat} {v : Value} {l : List It} (h : IR w base v l) : ∃ A c, v = .slice A l.length c ∧ l.length ≤ c ∧ Kd.C k61 w A l.length (l.map (·.x)) := by
 obtain ⟨A, c, e, hl, hr⟩ := Kd.R_reads h.out
 refine ⟨A, c, e, hl, by rw [List.length_map], hr.2.1, fun hp => ?_⟩
 obtain ⟨ad, ea, hc⟩ := hr.2.2 hp
 refine ⟨ad, ea, fun j x hj => ?_⟩
 rw [List.getElem?_map] at hj
 obtain ⟨p, hq, rfl⟩ := Option.map_eq_some_iff.1 hj
 clear hj
 have hj := hq
 clear hq
 obtain ⟨cs, hl2, hK, hcell⟩ := hc j p hj
 have hi := h.inn p (List.mem_of_getElem? hj)
 obtain ⟨A1, c1, e1, l1, g1⟩ := Kd.R_reads hi.1
 obtain ⟨A4, c4, e4, l4, g4⟩ := Kd.R_reads hi.2
 refine ⟨cs, hl2, ?_, hcell⟩
 rw [hK.1, cellsI, e1, e4]
 exact k61_mk w p.x l1 g1 l4 g4
theorem Reps_map {α β : Type} {R : α → List Value → Prop} {R' : β → List Value → Prop} {sz : Nat} {xs : List α} {cs : List Value} (f : α → β) (h : Reps R sz xs cs) (hR : ∀ x ∈ xs, ∀ c, R x c → R' (f x) c) : Reps R' sz (xs.map f) cs :=
 ⟨by rw [List.length_map]; exact h.1, fun j p hj => by
  rw [List.getElem?_map] at hj
  obtain ⟨x, hq, rfl⟩ := Option.map_eq_some_iff.1 hj
  exact hR x (List.mem_of_getElem? hq) _ (h.2 j x hq)⟩
theorem IR.plain {w : World} {base : Nat} {v : Value} {l : List It} (h : IR w base v l) : Kd.R k61 61 w base (fun _ => True) v (l.map (·.x)) := by
 obtain ⟨inner, ho, hr⟩ := h.out.2
 refine ⟨fun _ _ => trivial, inner, by rw [List.length_map]; exact ho, Reps_map _ hr (fun p hp c hc => ?_)⟩
 have hi := h.inn p hp
 rw [hc.1]
 exact k61_mkM w base _ p.x (Kd.R_mono hi.1 (fun k hk => ⟨trivial, h.ne (blks_mem hp (List.mem_append_left _ (by rw [← hk]; simp)))⟩)) (Kd.R_mono hi.2 (fun k hk => ⟨trivial, h.ne (blks_mem hp (List.mem_append_right _ (by rw [← hk]; simp)))⟩))
theorem blks_app (l l' : List It) : blks (l ++ l') = blks l ++ blks l' := List.flatMap_append
theorem blks_set {l : List It} {j : Nat} {p q : It} (hj : l[j]? = some q) : (blks (l.set j p) ++ pb q).Perm (pb p ++ blks l) := by
 induction l generalizing j with
 | nil => simp at hj
 | cons x l ih =>
  cases j with
  | zero =>
   simp only [List.getElem?_cons_zero, Option.some.injEq] at hj
   subst hj
   simp only [List.set_cons_zero, blks, List.flatMap_cons]
   rw [List.append_assoc]
   exact (List.perm_append_comm).append_left _
  | succ j =>
   simp only [List.getElem?_cons_succ] at hj
   simp only [List.set_cons_succ, blks, List.flatMap_cons]
   have := (ih hj).append_left (pb x)
   rw [List.append_assoc]
   refine this.trans ?_
   rw [← List.append_assoc, ← List.append_assoc]
   exact (List.perm_append_comm).append_right _
/-- An element has been written anew: its rows are not those of the others. -/
theorem IR.set {w w1 : World} {base : Nat} {v : Value} {l : List It} {j : Nat} {p q : It} (h : IR w base v l) (hj : l[j]? = some q) (ho : Kd.R kI 61 w1 base (fun k => some k = v.ownBlock) v (l.set j p)) (hg : w.grownBy w1 v.ownBlock) (hp : InI w1 base p) (hn : (pb p).Nodup) (hx : ∀ k ∈ pb p, k ∈ blks l → k ∈ pb q) : IR w1 base v (l.set j p) := by
 refine ⟨ho, fun r hr => ?_, ?_⟩
 ·rcases List.mem_or_eq_of_mem_set hr with hr | rfl
  ·exact h.inner_grown hg r hr
  ·exact hp
 ·have h1 := blks_set (p := p) hj
  obtain ⟨m, hm⟩ : ∃ m, (blks l).Perm (m ++ pb q) := by
   obtain ⟨hlt, hq⟩ := List.getElem?_eq_some_iff.1 hj
   have e : l = l.take j ++ q :: l.drop (j + 1) := by rw [← hq, ← List.drop_eq_getElem_cons hlt, List.take_append_drop]
   refine ⟨blks (l.take j) ++ blks (l.drop (j + 1)), ?_⟩
   conv => lhs; rw [e]
   simp only [blks, List.flatMap_append, List.flatMap_cons]
   rw [List.append_assoc]
   exact (List.perm_append_comm).append_left _
  have h3 : (blks (l.set j p)).Perm (pb p ++ m) := by
   have := h1.trans ((hm.append_left (pb p)))
   rw [← List.append_assoc] at this
   exact (List.perm_append_right_iff _).1 this
  rw [h3.nodup_iff]
  have h4 := hm.nodup_iff.1 h.sep
  rw [List.nodup_append] at h4
  refine List.nodup_append.2 ⟨hn, h4.1, fun a ha b hb e => ?_⟩
  subst e
  have := hx a ha (hm.mem_iff.2 (List.mem_append_left _ hb))
  exact h4.2.2 a hb a this rfl
theorem IR.snoc {w w1 : World} {base : Nat} {v v1 : Value} {l : List It} {p : It} (h : IR w base v l) (ho : Kd.R kI 61 w1 base (fun k => some k = v1.ownBlock) v1 (l ++ [p])) (hg : w.grownBy w1 v.ownBlock) (hp : InI w1 base p) (hn : (pb p).Nodup) (hx : ∀ k ∈ pb p, k ∉ blks l) : IR w1 base v1 (l ++ [p]) := by
 refine ⟨ho, fun r hr => ?_, ?_⟩
 ·rcases List.mem_append.1 hr with hr | hr
  ·exact h.inner_grown hg r hr
  ·rw [List.mem_singleton.1 hr]; exact hp
 ·rw [blks_app]
  exact List.nodup_append.2 ⟨h.sep, by simpa [blks] using hn, fun a ha b hb e => hx b (by simpa [blks] using hb) (e ▸ ha)⟩
/-- An item that was just made: its rows are new, and two. -/
theorem InI.made {w2 : World} {B : Nat} {x : S61} {va vb : Value} (h1 : Kd.R k105 105 w2 B (fun k => some k ≠ vb.ownBlock) va x.f1) (h4 : Kd.R k105 105 w2 B (fun k => some k ≠ va.ownBlock) vb x.f2.f0.f2) :
  InI w2 B ⟨x, va, vb⟩ ∧ (pb ⟨x, va, vb⟩).Nodup ∧ ∀ k ∈ pb ⟨x, va, vb⟩, B ≤ k := by
 have hi : InI w2 B ⟨x, va, vb⟩ := ⟨Kd.R_tight rfl h1, Kd.R_tight rfl h4⟩
 refine ⟨hi, ?_, fun k hk => (hi.typed hk).1⟩
 refine List.nodup_append.2 ⟨by cases (va.ownBlock) <;> simp, by cases (vb.ownBlock) <;> simp, fun a ha b hb e => ?_⟩
 have ea : va.ownBlock = some a := by simpa using ha
 have eb : vb.ownBlock = some b := by simpa using hb
 exact h1.1 a ea (by rw [eb, e])
theorem IR.elem {w : World} {base g n c j : Nat} {l : List It} {p : It} (h : IR w base (.slice (some ⟨g, 0, none⟩) n c) l) (hj : l[j]? = some p) : ∀ (i : Nat) (u : Value), (cellsI p)[i]? = some u → w.cell? ⟨g, j * 8 + i, none⟩ = some u := by
 obtain ⟨e, _, hr⟩ := Kd.R_reads' h.out
 have hl := (List.getElem?_eq_some_iff.1 hj).1
 obtain ⟨ad, ea, hc⟩ := hr.2.2 (by omega)
 cases ea
 obtain ⟨cs, _, hK, hcell⟩ := hc j p hj
 intro i u hi
 have := hcell i u (by rw [hK.1]; exact hi)
 rwa [add_plain] at this
theorem cells_one {p : It} (h : p.a.oneCell' = true ∧ p.b.oneCell' = true) : ∀ q ∈ cellsI p, q.oneCell' = true := kI.K_one (w := default) ⟨rfl, h⟩
theorem pb_idx {l : List It} (h : (blks l).Nodup) {j k : Nat} {p : It} (hj : l[j]? = some p) (hk : k ∈ pb p) : l.findIdx (fun q => decide (k ∈ pb q)) = j := by
 induction l generalizing j with
 | nil => simp at hj
 | cons x l ih =>
  simp only [blks, List.flatMap_cons] at h
  rw [List.nodup_append] at h
  cases j with
  | zero =>
   simp only [List.getElem?_cons_zero, Option.some.injEq] at hj
   subst hj
   rw [List.findIdx_cons, decide_eq_true hk]; rfl
  | succ j =>
   simp only [List.getElem?_cons_succ] at hj
   have hn : k ∉ pb x := fun hx => h.2.2 k hx k (List.mem_flatMap.2 ⟨p, List.mem_of_getElem? hj, hk⟩) rfl
   rw [List.findIdx_cons, decide_eq_false hn, ih h.2.1 hj]; rfl
theorem IR.apart {w : World} {base : Nat} {v : Value} {l : List It} (h : IR w base v l) : Kd.S k61 61 w base (fun _ => True) v (l.map (·.x)) := by
 obtain ⟨inner, ho, hr⟩ := h.out.2
 refine ⟨fun k => l.findIdx (fun q => decide (k ∈ pb q)), fun _ _ => trivial, inner, by rw [List.length_zipIdx, List.length_map]; exact ho, ?_⟩
 refine ⟨by rw [List.length_zipIdx, List.length_map]; exact hr.1, fun j p hj => ?_⟩
 obtain ⟨x, i⟩ := p
 rw [List.getElem?_zipIdx] at hj
 obtain ⟨y, hy, he⟩ := Option.map_eq_some_iff.1 hj
 rw [List.getElem?_map] at hy
 obtain ⟨q, hq, rfl⟩ := Option.map_eq_some_iff.1 hy
 simp only [Prod.mk.injEq] at he
 obtain ⟨rfl, rfl⟩ := he
 have hc : (inner.drop (j * 8)).take 8 = cellsI q := (hr.2 j q hq).1
 have hi := h.inn q (List.mem_of_getElem? hq)
 show k61.M w base _ q.x ((inner.drop (j * 8)).take 8)
 rw [hc, Nat.zero_add]
 exact k61_mkM w base _ q.x (Kd.R_mono hi.1 (fun k hk => ⟨⟨trivial, h.ne (blks_mem (List.mem_of_getElem? hq) (List.mem_append_left _ (by rw [← hk]; simp)))⟩, pb_idx h.sep hq (List.mem_append_left _ (by rw [← hk]; simp))⟩)) (Kd.R_mono hi.2 (fun k hk => ⟨⟨trivial, h.ne (blks_mem (List.mem_of_getElem? hq) (List.mem_append_right _ (by rw [← hk]; simp)))⟩, pb_idx h.sep hq (List.mem_append_right _ (by rw [← hk]; simp))⟩))

/-! ### laws_toItemS: function 17 -/
def mapO {α β : Type} (f : α → Option β) : List α → Option (List β)
 | [] => some []
 | x :: xs => (f x).bind fun y => (mapO f xs).bind fun ys => some (y :: ys)
theorem mapO_at {α β : Type} {f : α → Option β} : ∀ {l : List α} {r : List β}, mapO f l = some r → r.length = l.length ∧ ∀ (j : Nat) (x : α), l[j]? = some x → ∃ y, f x = some y ∧ r[j]? = some y
 | [], r, h => by
  simp only [mapO, Option.some.injEq] at h
  subst h
  exact ⟨rfl, fun j x hj => by simp at hj⟩
 | x :: xs, r, h => by
  simp only [mapO] at h
  obtain ⟨y, hy, h⟩ := Option.bind_eq_some_iff.mp h
  obtain ⟨ys, hys, h⟩ := Option.bind_eq_some_iff.mp h
  simp only [Option.some.injEq] at h
  subst h
  obtain ⟨h1, h2⟩ := mapO_at hys
  refine ⟨by simp [h1], fun j z hj => ?_⟩
  cases j with
  | zero => simp only [List.getElem?_cons_zero, Option.some.injEq] at hj; subst hj; exact ⟨y, hy, by simp⟩
  | succ j => simp only [List.getElem?_cons_succ] at hj ⊢; exact h2 j z hj
theorem mapO_mono {α β : Type} {f g : α → Option β} (h : ∀ x, LeO (f x) (g x)) : ∀ l : List α, LeO (mapO f l) (mapO g l)
 | [] => fun _ hr => hr
 | x :: xs => LeO.bind (h x) (fun _ => LeO.bind (mapO_mono h xs) (fun _ => LeO.refl _))
def toI (k : Nat) (x : S52) : Option S61 := (laws_toItem.f k x.f0 x.f1 x.f2.f0.f0 x.f2.f0.f1 x.f2.f0.f2 x.f2.f0.f3 x.f2.f1 x.f2.f2).bind fun b => some ⟨b.1, b.2.1, ⟨⟨b.2.2.1, b.2.2.2.1, b.2.2.2.2.1, b.2.2.2.2.2.1⟩, b.2.2.2.2.2.2.1, b.2.2.2.2.2.2.2⟩⟩
def laws_toItemS.f (k : Nat) (l0 : List S52) : Option (List S61) := if l0.length ≤ 1000000000 then mapO (toI k) l0 else none
theorem laws_toItemS.mono : ∀ a0 k, LeO (laws_toItemS.f k a0) (laws_toItemS.f (k + 1) a0) := fun a0 k => LeO.ite (mapO_mono (fun x => LeO.bind (laws_toItem.mono _ _ _ _ _ _ _ _ k) (fun _ => LeO.refl _)) a0) (LeO.refl _)
def zIt : It := ⟨z61, .slice none 0 0, .slice none 0 0⟩
theorem blks_z (n : Nat) : blks (List.replicate n zIt) = [] := by
 unfold blks
 rw [List.flatMap_eq_nil_iff]
 intro p hp
 rw [List.eq_of_mem_replicate hp]
 rfl
theorem InI_z (w : World) (base : Nat) : InI w base zIt := ⟨Kd.R_nil _ _ _ _ _, Kd.R_nil _ _ _ _ _⟩
set_option maxHeartbeats 4000000 in
set_option maxRecDepth 100000 in
theorem laws_toItemS.callsI (k : Nat) (A0 : Option Addr) (c0 : Nat) (l0 : List S52) (r : List S61) (w : World) (hr0 : Kd.C k52 w A0 l0.length l0) (hc0 : l0.length ≤ c0) (h : laws_toItemS.f k l0 = some r) :
  Calls Tryz.prog 17 #[.slice A0 l0.length c0] w fun e w' => ∃ (v : Value) (l : List It), e = .returned v ∧ IR w' w.heap.size v l ∧ l.map (·.x) = r ∧ Below w.heap.size w w' := by
 unfold laws_toItemS.f at h
 split at h
 rotate_left
 ·cases h
 rename_i hn
 have HM := ak (mapO_at h)
 have HR0 := ak hr0
 have HN := ak hn
 clear hr0 hc0 h hn
 have hn0 : (0 : Int) ≤ (l0.length : Int) := by omega
 have hn1 : ((l0.length : Int).toNat) = l0.length := by omega
 go_enter Tryz.func17, Tryz.ntmps17
 go_wp2_with (first
  | ((with_reducible refine gd 7 ?_); refine Kd.R_make kI (w0 := w) w.heap.size 61 rfl (N := 7) rfl 30 _ _ rfl (l0.length : Int) rfl rfl Tryz.underlying30 (.agg #[(.string ⟨#[]⟩), (.slice none 0 0), (.int .i64 0), (.string ⟨#[]⟩), (.slice none 0 0), (.string ⟨#[]⟩), (.int .i64 0), (.int .i64 0)]) 120 info61 rfl (by decide) (by omega) zIt (ok := fun _ => True) (okp := fun _ => True) ⟨rfl, rfl, rfl⟩ (fun _ _ => trivial) trivial hn0 (by have := HN.out; omega) (Below.refl _ _) (Nat.le_refl _) ?_; intro v1 w1 ho hb hg_ hnew_; clear hg_ hnew_; rw [hn1] at ho; have HO := ak (IR.mk (Kd.R_tight rfl ho) (fun p hp => by rw [List.eq_of_mem_replicate hp]; exact InI_z _ _) (by rw [blks_z]; exact List.nodup_nil)); have HB := ak hb; clear ho hb))
 go_loopg [4] l0.length (fun gg s4 w' => ∃ (j : Nat) (l1 : List It), j ≤ l0.length ∧ l0.length - j ≤ gg ∧ s4 = .int .i64 j ∧ Aside0 (l1.length = j) ∧ Aside0 (l1.map (·.x) = r.take j) ∧ Aside0 (IR w' w.heap.size v1 (l1 ++ List.replicate (l0.length - j) zIt)) ∧ Aside0 (Below w.heap.size w w'))
 case atStart => exact ⟨0, [], Nat.zero_le _, by omega, rfl, ⟨rfl⟩, ⟨rfl⟩, ⟨HO.out⟩, ⟨HB.out⟩⟩
 case round =>
  clear HO HB
  obtain ⟨j, l1, hj, hg, rfl, HL, HX, HO, HB⟩ := hrel
  by_cases hlt : j < l0.length
  ·have hlt' : (j : Int) < (l0.length : Int) := by omega
   have h0 : (0 : Int) ≤ (j : Int) := by omega
   have hlt2 := decide_eq_true hlt'
   obtain ⟨y, hy, hry⟩ := HM.out.2 j _ (List.getElem?_eq_getElem hlt)
   obtain ⟨ad, A1, c1, A4, c4, ea, hx0, hx1, hx2, hx3, hx4, hx5, hx6, hx7, hl1, hi1, hl4, hi4⟩ := at_T52 (Kd.C_below HR0.out HB.out) (j : Int) h0 hlt'
   cases ea
   have eq : rd_T52 l0 (j : Int) = l0[j] := by
    show l0.getD j _ = _
    rw [List.getD_eq_getElem?_getD, List.getElem?_eq_getElem hlt]; rfl
   rw [eq] at hx0 hx1 hx2 hx3 hx4 hx5 hx6 hx7 hl1 hi1 hl4 hi4
   simp only [Int.toNat_natCast] at hx0 hx1 hx2 hx3 hx4 hx5 hx6 hx7
   generalize l0[j] = x at *
   obtain ⟨⟨t0, t1, t2, t3, t4, t5, t6, t7⟩, hb0, hy⟩ := Option.bind_eq_some_iff.mp hy
   simp only [Option.some.injEq] at hy
   have hz : (l1 ++ List.replicate (l0.length - j) zIt)[j]? = some zIt := by
    rw [List.getElem?_append_right (by rw [HL.out]; omega), HL.out, Nat.sub_self, List.getElem?_replicate, if_pos (by omega)]
   have hlen : (l1 ++ List.replicate (l0.length - j) zIt).length = l0.length := by rw [List.length_append, HL.out, List.length_replicate]; omega
   obtain ⟨go, co, ev, gb, gl, cl, hG⟩ := Kd.R_form HO.out.out (by rw [hlen]; omega)
   rw [hlen] at ev
   subst ev
   have HRY := ak hry
   have HY := ak hy
   have HZ := ak hz
   have HLE := ak hlen
   have hw0 : w.heap.size ≤ wr.heap.size := HB.out.size
   have LJ := ak hj
   have LT := ak hlt
   have hi1 := ak hi1
   have hl1 := ak hl1
   have hi4 := ak hi4
   have hl4 := ak hl4
   have HBB := ak hb0
   clear hry hy hz hlen hj hb0
   go_wp2_with (first
    | ((with_reducible refine gc 24 ?_); refine gL 24 Tryz.func24 (some 20) #[.agg #[.string x.f0, .slice A1 x.f1.length c1, .int .i64 x.f2.f0.f0, .string x.f2.f0.f1, .slice A4 x.f2.f0.f2.length c4, .string x.f2.f0.f3, .int .i64 x.f2.f1, .int .i64 x.f2.f2]] ?_; (with_reducible refine (laws_toItem.calls k _ _ _ _ _ _ _ _ _ _ _ _ t0 t1 t2 t3 t4 t5 t6 t7 _ hi1.out hl1.out hi4.out hl4.out HBB.out).mono ?_); rintro e w2 ⟨va, vb, rfl, ho1, ho4, hb⟩; obtain ⟨Aa, ca, e1⟩ := Kd.R_slice ho1; subst e1; obtain ⟨Ab, cb, e4⟩ := Kd.R_slice ho4; subst e4; refine ⟨_, rfl, ?_⟩; have HA := ak ho1; have HBo := ak ho4; have HB2 := ak hb; clear ho1 ho4 hb)
    | ((with_reducible refine gate_store (t := 61) (p := 21) rfl ?_); refine Kd.R_store kI (w0 := w) (g := go) (n := l0.length) (cap := co) (o' := j * 8) w.heap.size rfl rfl 61 (.tmp 21) (.tmp 20) rfl 61 (j : Int) 0 (l1 ++ List.replicate (l0.length - j) zIt) ⟨⟨t0, t1, ⟨⟨t2, t3, t4, t5⟩, t6, t7⟩⟩, (.slice Aa t1.length ca), (.slice Ab t4.length cb)⟩ _ (cellsI ⟨⟨t0, t1, ⟨⟨t2, t3, t4, t5⟩, t6, t7⟩⟩, (.slice Aa t1.length ca), (.slice Ab t4.length cb)⟩) (cellsI zIt) (fun k => some k = (Value.slice (some ⟨go, 0, none⟩) l0.length co).ownBlock) (fun _ => False) rfl rfl rfl rfl ?aT ?aH ?aO h0 hlt' rfl ?aC (show 8 ≤ 8 from Nat.le_refl 8) ?aM (fun _ hk => False.elim hk) ?aB ?_))
   case aT => kernel_rfl
   case aH => exact cells_one (InI.made HA.out HBo.out).1.one
   case aO => exact (HO.out.below HB2.out).out
   case aC => rw [Int.toNat_natCast]; exact (HO.out.below HB2.out).elem HZ.out
   case aM => exact ⟨rfl, (InI.made HA.out HBo.out).1.one⟩
   case aB => exact below_step HB.out HB2.out
   intro w3 ho hb hg3
   have hp := InI.made (x := ⟨t0, t1, ⟨⟨t2, t3, t4, t5⟩, t6, t7⟩⟩) HA.out HBo.out
   have H3 := ak ((HO.out.below HB2.out).set HZ.out (by rw [Int.toNat_natCast] at ho; exact ho) hg3
    (by
     have hs : ∀ k ∈ pb ⟨⟨t0, t1, ⟨⟨t2, t3, t4, t5⟩, t6, t7⟩⟩, (.slice Aa t1.length ca), (.slice Ab t4.length cb)⟩, k < w2.heap.size → w3.heap[k]? = w2.heap[k]? := fun k hk hl => hg3.block k hl (fun e => by
      obtain ⟨_, _, c1, h1⟩ := hp.1.typed hk
      obtain ⟨c2, h2⟩ := Kd.R_typed (HO.out.below HB2.out).out k e.symm
      rw [h1] at h2; injection h2 with h2; injection h2 with _ h2; cases h2)
     exact ⟨Kd.R_lower (hp.1.step hs).1 hw0, Kd.R_lower (hp.1.step hs).2 hw0⟩)
    hp.2.1 (fun k hk hk2 => absurd (HO.out.typed hk2).2.1 (Nat.not_lt.2 (hp.2.2 k hk))))
   have HB3 := ak hb
   clear ho hb hg3 hp
   have hs : (l1 ++ List.replicate (l0.length - j) zIt).set j ⟨⟨t0, t1, ⟨⟨t2, t3, t4, t5⟩, t6, t7⟩⟩, (.slice Aa t1.length ca), (.slice Ab t4.length cb)⟩ = (l1 ++ [⟨⟨t0, t1, ⟨⟨t2, t3, t4, t5⟩, t6, t7⟩⟩, (.slice Aa t1.length ca), (.slice Ab t4.length cb)⟩]) ++ List.replicate (l0.length - (j + 1)) zIt := by
    have e : l0.length - j = (l0.length - (j + 1)) + 1 := by have := LT.out; omega
    rw [List.set_append_right _ _ (by rw [HL.out]; exact Nat.le_refl _), HL.out, Nat.sub_self, e, List.replicate_succ, List.set_cons_zero, List.append_assoc]
    rfl
   have H4 := ak (by have := H3.out; rw [hs] at this; exact this : IR w3 w.heap.size (.slice (some ⟨go, 0, none⟩) l0.length co) _)
   clear H3 hs HO HB
   go_wp2
   go_roundg (l0.length - (j + 1))
   case measure => have := LT.out; omega
   case rel => have hq1 := HN.out; have hq2 := LT.out; exact ⟨j + 1, _, LT.out, by omega, (by rw [show wrap64 ((j : Int) + 1) = ((j + 1 : Nat) : Int) from by unfold wrap64; omega]), ⟨by rw [List.length_append, HL.out]; rfl⟩, ⟨by rw [List.map_append, HX.out, List.take_add_one, HRY.out]; simp [HY.out]⟩, H4, HB3⟩
  ·have hlt' : ¬ (j : Int) < (l0.length : Int) := by omega
   have hlt2 := decide_eq_false hlt'
   obtain rfl : j = l0.length := by omega
   have HF := HO.out
   rw [Nat.sub_self, List.replicate_zero, List.append_nil] at HF
   have HF := ak HF
   go_wp2
   go_ret
   exact ⟨_, rfl, l1, HF.out, by rw [HX.out, List.take_of_length_le (by rw [HM.out.1]; exact Nat.le_refl _)], HB.out⟩
theorem laws_toItemS.calls (k : Nat) (A0 : Option Addr) (c0 : Nat) (l0 : List S52) (r : List S61) (w : World) (hr0 : Kd.C k52 w A0 l0.length l0) (hc0 : l0.length ≤ c0) (h : laws_toItemS.f k l0 = some r) :
  Calls Tryz.prog 17 #[.slice A0 l0.length c0] w fun e w' => ∃ v0_ : Value, e = .returned (v0_) ∧ Kd.S k61 61 w' w.heap.size (fun _ => True) v0_ r ∧ Below w.heap.size w w' := by
 refine (laws_toItemS.callsI k A0 c0 l0 r w hr0 hc0 h).mono ?_
 rintro e w' ⟨v, l, rfl, hI, rfl, hb⟩
 exact ⟨v, rfl, hI.apart, hb⟩

/-! ### laws_toUrl: function 39 -/
def laws_toUrl.f (a0_0 : ByteArray) (a0_1 : ByteArray) (a0_2 : Int) (a0_3 : ByteArray) (a0_4 : ByteArray) (a0_5 : Bool) : Option (ByteArray × ByteArray × Int × ByteArray × ByteArray × Bool) := some (a0_0, a0_1, a0_2, a0_3, a0_4, a0_5)
set_option maxHeartbeats 8000000 in
set_option maxRecDepth 100000 in
theorem laws_toUrl.calls (a0_0 : ByteArray) (a0_1 : ByteArray) (a0_2 : Int) (a0_3 : ByteArray) (a0_4 : ByteArray) (a0_5 : Bool) (r1 : ByteArray) (r2 : ByteArray) (r3 : Int) (r4 : ByteArray) (r5 : ByteArray) (r6 : Bool) (w : World) (h : laws_toUrl.f a0_0 a0_1 a0_2 a0_3 a0_4 a0_5 = some (r1, r2, r3, r4, r5, r6)) :
  Calls Tryz.prog 39 #[.agg #[.string a0_0, .string a0_1, .int .i64 a0_2, .string a0_3, .string a0_4, .bool a0_5]] w fun e w' => e = .returned (.agg #[.string r1, .string r2, .int .i64 r3, .string r4, .string r5, .bool r6]) ∧ Below w.heap.size w w' := by
 have hu23 := Tryz.underlying23
 have hu29 := Tryz.underlying29
 have HB := ak (Below.refl w.heap.size w)
 have H : (some (a0_0, a0_1, a0_2, a0_3, a0_4, a0_5)) = some (r1, r2, r3, r4, r5, r6) := h
 clear h
 simp only [Option.some.injEq, Prod.mk.injEq] at H
 obtain ⟨rfl, rfl, rfl, rfl, rfl, rfl⟩ := H
 go_enter Tryz.func39, Tryz.ntmps39
 go_wp2_with (first | ((with_reducible refine gd 1 ?_); refine bE 1 #[.string a0_0, .string a0_1, .int .i64 a0_2, .string a0_3, .string a0_4, .bool a0_5] 23 ?_; intro gb156 hg w2 hbox hb; have BK156 := ak hbox; have GW156 := gs hg (bl HB.out); have GE156 := gs hg (bl HB.out); replace HB := ak (below_step (bl HB.out) hb); clear hb hbox hg) | ((with_reducible refine gd 2 ?_); refine bE 2 #[.string (⟨#[]⟩ : ByteArray), .string (⟨#[]⟩ : ByteArray), .int .i64 0, .string (⟨#[]⟩ : ByteArray), .string (⟨#[]⟩ : ByteArray), .bool false] 29 ?_; intro gb157 hg w3 hbox hb; have BK157 := ak hbox; have GW157 := gs hg (bl1 HB.out GE156.out); have GE157 := gs hg (bl1 HB.out GE156.out); replace HB := ak (below_step (bl1 HB.out GE156.out) hb); have NB156_157 := nl hg BK156.out; have NB157_156 := ng hg BK156.out; replace BK156 := ak (blk_below (bk BK156.out) hb); clear hb hbox hg) | ((with_reducible refine gd 3 ?_); refine bE 3 #[.string (⟨#[]⟩ : ByteArray), .string (⟨#[]⟩ : ByteArray), .int .i64 0, .string (⟨#[]⟩ : ByteArray), .string (⟨#[]⟩ : ByteArray), .bool false] 29 ?_; intro gb158 hg w4 hbox hb; have BK158 := ak hbox; have GW158 := gs hg (bl2 HB.out GE156.out GE157.out); have GE158 := gs hg (bl2 HB.out GE156.out GE157.out); replace HB := ak (below_step (bl2 HB.out GE156.out GE157.out) hb); have NB156_158 := nl hg BK156.out; have NB158_156 := ng hg BK156.out; replace BK156 := ak (blk_below (bk BK156.out) hb); have NB157_158 := nl hg BK157.out; have NB158_157 := ng hg BK157.out; replace BK157 := ak (blk_below (bk BK157.out) hb); clear hb hbox hg; have hnb5 := NB156_157.out; have hnc5 := NB157_156.out; have hnb6 := NB156_158.out; have hnc6 := NB158_156.out; obtain ⟨_, _, _, _, _, _, _, _, _, _, _, _⟩ := b6 BK156.out; have hnb8 := NB158_157.out; have hnc8 := NB157_158.out; obtain ⟨_, _, _, _, _, _, _, _, _, _, _, _⟩ := b6 BK158.out; obtain ⟨_, _, _, _, _, _, _, _, _, _, _, _⟩ := b6 BK157.out))
 refine bodyPost_ret (results_cell_row rfl _ _ gb157 29 #[.string a0_0, .string a0_1, .int .i64 a0_2, .string a0_3, .string a0_4, .bool a0_5] (0, 0) _ rfl (bq BK157.out) Tryz.underlying29 rfl (by kernel_rfl)) rfl ?_
 exact rz (bl3 HB.out GE156.out GE157.out GE158.out)

/-! ### laws_toGateway: function 10 -/
def laws_toGateway.f (k : Nat) (a0_0 : ByteArray) (a0_1 : ByteArray) (a0_2 : Int) (a0_3 : ByteArray) (a0_4 : ByteArray) (a0_5 : Bool) (a0_6 : Int) (l0_7 : List (S52)) : Option (ByteArray × ByteArray × Int × ByteArray × ByteArray × Bool × Int × (List (S61))) := (laws_toUrl.f a0_0 a0_1 a0_2 a0_3 a0_4 a0_5).bind fun bt162 => ((laws_toItemS.f k l0_7).bind fun t168 => (some (bt162.1, bt162.2.1, bt162.2.2.1, bt162.2.2.2.1, bt162.2.2.2.2.1, bt162.2.2.2.2.2, a0_6, t168)))
theorem laws_toGateway.mono : ∀ a0 a1 a2 a3 a4 a5 a6 a7 k, LeO (laws_toGateway.f k a0 a1 a2 a3 a4 a5 a6 a7) (laws_toGateway.f (k + 1) a0 a1 a2 a3 a4 a5 a6 a7) := by
 intro a0 a1 a2 a3 a4 a5 a6 a7 k
 unfold laws_toGateway.f
 repeat' with_reducible first | exact laws_toItemS.mono _ _ | exact LeO.refl _ | exact LeO.none _ | refine LeO.ite ?_ ?_ | refine LeO.bind ?_ (fun _ => ?_)
set_option maxHeartbeats 8000000 in
set_option maxRecDepth 100000 in
theorem laws_toGateway.calls (k : Nat) (a0_0 : ByteArray) (a0_1 : ByteArray) (a0_2 : Int) (a0_3 : ByteArray) (a0_4 : ByteArray) (a0_5 : Bool) (a0_6 : Int) (A0_7 : Option Addr) (c0_7 : Nat) (l0_7 : List (S52)) (r1 : ByteArray) (r2 : ByteArray) (r3 : Int) (r4 : ByteArray) (r5 : ByteArray) (r6 : Bool) (r7 : Int) (r8 : List (S61)) (w : World) (hr0_7 : Kd.C k52 w A0_7 l0_7.length l0_7) (hc0_7 : l0_7.length ≤ c0_7) (h : laws_toGateway.f k a0_0 a0_1 a0_2 a0_3 a0_4 a0_5 a0_6 l0_7 = some (r1, r2, r3, r4, r5, r6, r7, r8)) :
  Calls Tryz.prog 10 #[.agg #[.string a0_0, .string a0_1, .int .i64 a0_2, .string a0_3, .string a0_4, .bool a0_5, .int .i64 a0_6, .slice A0_7 l0_7.length c0_7]] w fun e w' => ∃ v7_ : Value, e = .returned (.agg #[.string r1, .string r2, .int .i64 r3, .string r4, .string r5, .bool r6, .int .i64 r7, v7_]) ∧ Kd.S k61 61 w' w.heap.size (fun _ => True) v7_ r8 ∧ Below w.heap.size w w' := by
 have hu26 := Tryz.underlying26
 have hu32 := Tryz.underlying32
 have hu23 := Tryz.underlying23
 have hu29 := Tryz.underlying29
 have HR0_7 := ak hr0_7
 have HC0_7 := ak hc0_7
 clear hr0_7 hc0_7
 have HB := ak (Below.refl w.heap.size w)
 unfold laws_toGateway.f at h; have H := h
 clear h
 replace H := bs H
 obtain ⟨⟨t162, t163, t164, t165, t166, t167⟩, A2, H⟩ := H
 try dsimp only at H
 replace H := bs H
 obtain ⟨t168, A3, H⟩ := H
 try dsimp only at H
 simp only [Option.some.injEq, Prod.mk.injEq] at H
 obtain ⟨rfl, rfl, rfl, rfl, rfl, rfl, rfl, rfl⟩ := H
 go_enter Tryz.func10, Tryz.ntmps10
 go_wp2_with (first | ((with_reducible refine gd 1 ?_); refine bE 1 #[.string a0_0, .string a0_1, .int .i64 a0_2, .string a0_3, .string a0_4, .bool a0_5, .int .i64 a0_6, .slice A0_7 l0_7.length c0_7] 26 ?_; intro gb159 hg w4 hbox hb; have BK159 := ak hbox; have GW159 := gs hg (bl HB.out); have GE159 := gs hg (bl HB.out); replace HB := ak (below_step (bl HB.out) hb); clear hb hbox hg) | ((with_reducible refine gd 2 ?_); refine bE 2 #[.string (⟨#[]⟩ : ByteArray), .string (⟨#[]⟩ : ByteArray), .int .i64 0, .string (⟨#[]⟩ : ByteArray), .string (⟨#[]⟩ : ByteArray), .bool false, .int .i64 0, .slice none 0 0] 32 ?_; intro gb160 hg w5 hbox hb; have BK160 := ak hbox; have GW160 := gs hg (bl1 HB.out GE159.out); have GE160 := gs hg (bl1 HB.out GE159.out); replace HB := ak (below_step (bl1 HB.out GE159.out) hb); have NB159_160 := nl hg BK159.out; have NB160_159 := ng hg BK159.out; replace BK159 := ak (blk_below (bk BK159.out) hb); clear hb hbox hg) | ((with_reducible refine gd 3 ?_); refine bE 3 #[.string (⟨#[]⟩ : ByteArray), .string (⟨#[]⟩ : ByteArray), .int .i64 0, .string (⟨#[]⟩ : ByteArray), .string (⟨#[]⟩ : ByteArray), .bool false, .int .i64 0, .slice none 0 0] 32 ?_; intro gb161 hg w6 hbox hb; have BK161 := ak hbox; have GW161 := gs hg (bl2 HB.out GE159.out GE160.out); have GE161 := gs hg (bl2 HB.out GE159.out GE160.out); replace HB := ak (below_step (bl2 HB.out GE159.out GE160.out) hb); have NB159_161 := nl hg BK159.out; have NB161_159 := ng hg BK159.out; replace BK159 := ak (blk_below (bk BK159.out) hb); have NB160_161 := nl hg BK160.out; have NB161_160 := ng hg BK160.out; replace BK160 := ak (blk_below (bk BK160.out) hb); clear hb hbox hg; have hnb7 := NB159_160.out; have hnc7 := NB160_159.out; have hnb8 := NB159_161.out; have hnc8 := NB161_159.out; obtain ⟨_, _, _, _, _, _, _, _, _, _, _, _, _, _, _, _⟩ := b8 BK159.out) | ((with_reducible refine gc 39 ?_); refine gL 39 Tryz.func39 (some 6) #[.agg #[.string a0_0, .string a0_1, .int .i64 a0_2, .string a0_3, .string a0_4, .bool a0_5]] ?_; (with_reducible refine (laws_toUrl.calls a0_0 a0_1 a0_2 a0_3 a0_4 a0_5 t162 t163 t164 t165 t166 t167 _ A2.out).mono ?_); rintro e w10 ⟨rfl, hb⟩; refine ⟨_, rfl, ?_⟩; replace BK159 := ak (blk_below (bk BK159.out) hb); replace BK160 := ak (blk_below (bk BK160.out) hb); replace BK161 := ak (blk_below (bk BK161.out) hb); replace HB := ak (below_step (bl3 HB.out GE159.out GE160.out GE161.out) hb); clear hb; have hnb11 := NB161_160.out; have hnc11 := NB160_161.out; obtain ⟨_, _, _, _, _, _, _, _, _, _, _, _, _, _, _, _⟩ := b8 BK161.out; obtain ⟨_, _, _, _, _, _, _, _, _, _, _, _, _, _, _, _⟩ := b8 BK159.out) | ((with_reducible refine gc 17 ?_); refine gL 17 Tryz.func17 (some 13) #[.slice A0_7 l0_7.length c0_7] ?_; (with_reducible refine (laws_toItemS.calls k _ _ l0_7 t168 _ ?side1 ?side2 A3.out).mono ?_); (case side1 => exact Kd.C_below HR0_7.out (bl3 HB.out GE159.out GE160.out GE161.out)); (case side2 => exact HC0_7.out); rintro e w14 ⟨v169, rfl, ho0, hb⟩; refine ⟨_, rfl, ?_⟩; have HO170 := ak (Kd.S_lower ho0 (below_size (bl3 HB.out GE159.out GE160.out GE161.out))); replace BK159 := ak (blk_below (g := gb159) (o := .cells #[.string a0_0, .string a0_1, .int .i64 a0_2, .string a0_3, .string a0_4, .bool a0_5, .int .i64 a0_6, .slice A0_7 l0_7.length c0_7] 26 (0, 0)) (bq BK159.out) hb); replace BK160 := ak (blk_below (g := gb160) (o := .cells #[.string (⟨#[]⟩ : ByteArray), .string (⟨#[]⟩ : ByteArray), .int .i64 0, .string (⟨#[]⟩ : ByteArray), .string (⟨#[]⟩ : ByteArray), .bool false, .int .i64 0, .slice none 0 0] 32 (0, 0)) (bq BK160.out) hb); replace BK161 := ak (blk_below (g := gb161) (o := .cells #[.string t162, .string t163, .int .i64 t164, .string t165, .string t166, .bool t167, .int .i64 a0_6, .slice none 0 0] 32 (0, 0)) (bq BK161.out) hb); replace HB := ak (below_step (bl3 HB.out GE159.out GE160.out GE161.out) hb); clear hb ho0; obtain ⟨Ao15, co15, eo15⟩ := Kd.S_slice HO170.out; subst eo15; obtain ⟨_, _, _, _, _, _, _, _, _, _, _, _, _, _, _, _⟩ := b8 BK161.out; obtain ⟨_, _, _, _, _, _, _, _, _, _, _, _, _, _, _, _⟩ := b8 BK160.out))
 refine bodyPost_ret (results_cell_row rfl _ _ gb160 32 #[.string t162, .string t163, .int .i64 t164, .string t165, .string t166, .bool t167, .int .i64 a0_6, .slice Ao15 t168.length co15] (0, 0) _ rfl (bq BK160.out) Tryz.underlying32 rfl (by kernel_rfl)) rfl ?_
 exact ⟨_, by first | rfl | (simp [errW_none, errW_some] <;> rfl) | (simp [*, errW_none, errW_some] <;> rfl), by (with_reducible repeat (first | apply Kd.S_alloc | apply Kd.S_drewN | apply Kd.S_drew)); exact Kd.S_mono (Kd.S_far (p := ⟨gb160, 7, none⟩) (Kd.S_far (p := ⟨gb160, 6, none⟩) (Kd.S_far (p := ⟨gb160, 5, none⟩) (Kd.S_far (p := ⟨gb160, 4, none⟩) (Kd.S_far (p := ⟨gb160, 3, none⟩) (Kd.S_far (p := ⟨gb160, 2, none⟩) (Kd.S_far (p := ⟨gb160, 1, none⟩) (Kd.S_far (p := ⟨gb160, 0, none⟩) (Kd.S_far (p := ⟨gb161, 7, none⟩) (Kd.S_types (Kd.S_types HO170.out BK161.out (by decide)) BK160.out (by decide)) (fun _ hk => hk.1.2) (.slice Ao15 t168.length co15)) (fun _ hk => hk.2) (.string t162)) (fun _ hk => hk.2) (.string t163)) (fun _ hk => hk.2) (.int .i64 t164)) (fun _ hk => hk.2) (.string t165)) (fun _ hk => hk.2) (.string t166)) (fun _ hk => hk.2) (.bool t167)) (fun _ hk => hk.2) (.int .i64 a0_6)) (fun _ hk => hk.2) (.slice Ao15 t168.length co15)) (fun _ hk => trivial), bl3 HB.out GE159.out GE160.out GE161.out⟩

/-! ### laws_eqField: function 99 -/
def laws_eqField.f (a0_0 : ByteArray) (a0_1 : ByteArray) (a1_0 : ByteArray) (a1_1 : ByteArray) : Option (Bool) := if a0_0.toList = a1_0.toList then (if a0_1.toList = a1_1.toList then (some true) else (none)) else (none)
set_option maxHeartbeats 8000000 in
set_option maxRecDepth 100000 in
theorem laws_eqField.calls (a0_0 : ByteArray) (a0_1 : ByteArray) (a1_0 : ByteArray) (a1_1 : ByteArray) (r : Bool) (w : World) (h : laws_eqField.f a0_0 a0_1 a1_0 a1_1 = some r) :
  Calls Tryz.prog 99 #[.agg #[.string a0_0, .string a0_1], .agg #[.string a1_0, .string a1_1]] w fun e w' => e = .returned (.bool r) ∧ Below w.heap.size w w' := by
 have hu105 := Tryz.underlying105
 have HB := ak (Below.refl w.heap.size w)
 unfold laws_eqField.f at h; have H := h
 clear h
 by_cases c3 : a0_0.toList = a1_0.toList
 ·rw [if_pos c3] at H
  have c3b0 : (a0_0.toList == a1_0.toList) = true := beq_iff_eq.mpr c3
  have c3b1 : (a0_0.toList != a1_0.toList) = false := bne_eq_false_iff_eq.mpr c3
  clear c3
  by_cases c4 : a0_1.toList = a1_1.toList
  ·rw [if_pos c4] at H
   have c4b0 : (a0_1.toList == a1_1.toList) = true := beq_iff_eq.mpr c4
   have c4b1 : (a0_1.toList != a1_1.toList) = false := bne_eq_false_iff_eq.mpr c4
   clear c4
   obtain rfl := Option.some.inj H
   go_enter Tryz.func99, Tryz.ntmps99
   go_wp2_with (first | ((with_reducible refine gd 2 ?_); refine bE 2 #[.string a0_0, .string a0_1] 105 ?_; intro gb171 hg w5 hbox hb; have BK171 := ak hbox; have GW171 := gs hg (bl HB.out); have GE171 := gs hg (bl HB.out); replace HB := ak (below_step (bl HB.out) hb); clear hb hbox hg) | ((with_reducible refine gd 3 ?_); refine bE 3 #[.string a1_0, .string a1_1] 105 ?_; intro gb172 hg w6 hbox hb; have BK172 := ak hbox; have GW172 := gs hg (bl1 HB.out GE171.out); have GE172 := gs hg (bl1 HB.out GE171.out); replace HB := ak (below_step (bl1 HB.out GE171.out) hb); have NB171_172 := nl hg BK171.out; have NB172_171 := ng hg BK171.out; replace BK171 := ak (blk_below (bk BK171.out) hb); clear hb hbox hg; have hnb7 := NB171_172.out; have hnc7 := NB172_171.out; obtain ⟨_, _, _, _⟩ := b2 BK171.out; obtain ⟨_, _, _, _⟩ := b2 BK172.out))
   go_ret
   exact rz (bl2 HB.out GE171.out GE172.out)
  ·rw [if_neg c4] at H
   exact absurd H (by simp)
 ·rw [if_neg c3] at H
  exact absurd H (by simp)

/-! ### laws_eqFieldS: function 59 -/
def laws_eqFieldS.l0 : Nat → List (S105) → List (S105) → Int → Option (Bool)
 | 0, _, _, _ => none
 | k + 1, x0, x1, x5 => if x5 < (x0.length : Int) then (if 0 ≤ x5 then (if x5 < (x1.length : Int) then ((laws_eqField.f ((rd_T105 x0 x5).f0) ((rd_T105 x0 x5).f1) ((rd_T105 x1 x5).f0) ((rd_T105 x1 x5).f1)).bind fun t175 => (if t175 = true then (laws_eqFieldS.l0 k x0 x1 (wrap64 (x5 + 1))) else (none))) else (none)) else (none)) else (some true)
def laws_eqFieldS.f (k : Nat) (l0 : List (S105)) (l1 : List (S105)) : Option (Bool) := if (l0.length : Int) = (l1.length : Int) then (laws_eqFieldS.l0 k l0 l1 0) else (none)
theorem laws_eqFieldS.mono_l : ∀ k, (∀ y0 y1 y2, LeO (laws_eqFieldS.l0 k y0 y1 y2) (laws_eqFieldS.l0 (k + 1) y0 y1 y2))
 | 0 => fun _ _ _ r h => by simp [laws_eqFieldS.l0] at h
 | k + 1 => by
  have ih0 := laws_eqFieldS.mono_l k
  ·intro y0 y1 y2
   unfold laws_eqFieldS.l0
   repeat' with_reducible first | exact ih0 _ _ _ | exact LeO.refl _ | exact LeO.none _ | refine LeO.ite ?_ ?_ | refine LeO.bind ?_ (fun _ => ?_)
theorem laws_eqFieldS.mono : ∀ a0 a1 k, LeO (laws_eqFieldS.f k a0 a1) (laws_eqFieldS.f (k + 1) a0 a1) := by
 intro a0 a1 k
 have ih0 := laws_eqFieldS.mono_l k
 unfold laws_eqFieldS.f
 repeat' with_reducible first | exact ih0 _ _ _ | exact LeO.refl _ | exact LeO.none _ | refine LeO.ite ?_ ?_ | refine LeO.bind ?_ (fun _ => ?_)
def laws_eqFieldS.T6 : Bool × List (List Nat × List Nat) := (true, [([], []), ([], []), ([0, 1], [0, 1]), ([2], [2]), ([], []), ([], []), ([4, 5], [4, 5]), ([6], [6]), ([3, 7], [3, 7]), ([8], [8])])
def laws_eqFieldS.B6 : List Nat := [0, 0, 3, 7, 0, 0, 48, 112, 255, 511]
theorem laws_eqFieldS.tab6 : rtab .any (opsOf Tryz.f59 6) = laws_eqFieldS.T6 := by kernel_rfl
theorem laws_eqFieldS.bits6 : waitsOk laws_eqFieldS.T6.2 laws_eqFieldS.B6 = true := by kernel_rfl
set_option maxHeartbeats 8000000 in
set_option maxRecDepth 100000 in
theorem laws_eqFieldS.calls (k : Nat) (A0 : Option Addr) (c0 : Nat) (l0 : List (S105)) (A1 : Option Addr) (c1 : Nat) (l1 : List (S105)) (r : Bool) (w : World) (hr0 : Kd.C k105 w A0 l0.length l0) (hc0 : l0.length ≤ c0) (hr1 : Kd.C k105 w A1 l1.length l1) (hc1 : l1.length ≤ c1) (h : laws_eqFieldS.f k l0 l1 = some r) :
  Calls Tryz.prog 59 #[.slice A0 l0.length c0, .slice A1 l1.length c1] w fun e w' => e = .returned (.bool r) ∧ Below w.heap.size w w' := by
 have hu105 := Tryz.underlying105
 have HR0 := ak hr0
 have HC0 := ak hc0
 clear hr0 hc0
 have HR1 := ak hr1
 have HC1 := ak hc1
 clear hr1 hc1
 have HB := ak (Below.refl w.heap.size w)
 have H : (if (l0.length : Int) = (l1.length : Int) then (laws_eqFieldS.l0 k l0 l1 0) else (none)) = some r := h
 clear h
 by_cases c3 : (l0.length : Int) = (l1.length : Int)
 ·rw [if_pos c3] at H
  have c3b0 : ((l0.length : Int) == (l1.length : Int)) = true := beq_iff_eq.mpr c3
  have c3b1 : ((l0.length : Int) != (l1.length : Int)) = false := bne_eq_false_iff_eq.mpr c3
  have c3b2 : (l0.length == l1.length) = true := by first | simpa using c3 | (simp at c3 ⊢; omega)
  clear c3
  have H' := ak H
  clear H
  go_enter Tryz.func59, Tryz.ntmps59
  go_wp2
  go_loopg [5] k (fun kq v5 w' => ∃ (x5_1 : Int), v5 = .int .i64 x5_1 ∧ Aside0 (laws_eqFieldS.l0 kq l0 l1 x5_1 = some r) ∧ Aside0 (kq ≤ k) ∧ Aside0 (Below w.heap.size w w'))
  case atStart => exact ⟨(0), (by first | rfl | (simp; done) | (simp [*]; done)), H', ⟨Nat.le_refl _⟩, ⟨bl HB.out⟩⟩
  case round =>
   clear H'
   try clear c1
   try clear p2
   try clear c3
   try clear c3b0
   try clear c3b1
   try clear c3b2
   obtain ⟨x5_1, rfl, HA, HK1, HB⟩ := hrel
   cases gk with
   | zero => exact absurd HA.out (by simp [laws_eqFieldS.l0])
   | succ k1 =>
    have H := HA.out
    clear HA
    simp only [laws_eqFieldS.l0] at H
    by_cases c4 : x5_1 < (l0.length : Int)
    ·rw [if_pos c4] at H
     have c4b0 := decide_eq_true c4
     clear c4
     by_cases c5 : 0 ≤ x5_1
     ·rw [if_pos c5] at H
      have c5b0 := decide_eq_true c5
      clear c5
      by_cases c6 : x5_1 < (l1.length : Int)
      ·rw [if_pos c6] at H
       have c6b0 := decide_eq_true c6
       clear c6
       replace H := bs H
       obtain ⟨t175, A7, H⟩ := H
       try dsimp only at H
       by_cases c8 : t175 = true
       ·subst c8
        rw [if_pos rfl] at H
        have H' := ak H
        clear H
        try go_wp2
        replace HB := ak (below_drew1 HB.out)
        have p173 : 0 ≤ (x5_1 : Int) := od
        have q173 : x5_1 < (l0.length : Int) := od
        obtain ⟨ad173, e173, hx173_0, hx173_1⟩ := at_T105 HR0.out x5_1 p173 q173
        have hw173_1 := hx173_1
        have hw173_0 := hx173_0
        cases e173
        replace hx173_0 := (HB.out.cell (World.block_lt_of_cell? w _ hx173_0)).trans hx173_0
        replace hx173_1 := (HB.out.cell (World.block_lt_of_cell? w _ hx173_1)).trans hx173_1
        replace p173 := eq_true p173
        replace q173 := eq_true q173
        have p174 : 0 ≤ (x5_1 : Int) := od
        have q174 : x5_1 < (l1.length : Int) := od
        obtain ⟨ad174, e174, hx174_0, hx174_1⟩ := at_T105 HR1.out x5_1 p174 q174
        have hw174_1 := hx174_1
        have hw174_0 := hx174_0
        cases e174
        replace hx174_0 := (HB.out.cell (World.block_lt_of_cell? w _ hx174_0)).trans hx174_0
        replace hx174_1 := (HB.out.cell (World.block_lt_of_cell? w _ hx174_1)).trans hx174_1
        replace p174 := eq_true p174
        replace q174 := eq_true q174
        refine start_ (n := 10) (S := fun w' => w'.cell? (ad173.add ((x5_1).toNat * 2)) = some (.string ((rd_T105 l0 x5_1).f0)) ∧ w'.cell? ⟨(ad173.add ((x5_1).toNat * 2)).block, (ad173.add ((x5_1).toNat * 2)).off + 1, none⟩ = some (.string ((rd_T105 l0 x5_1).f1)) ∧ w'.cell? (ad174.add ((x5_1).toNat * 2)) = some (.string ((rd_T105 l1 x5_1).f0)) ∧ w'.cell? ⟨(ad174.add ((x5_1).toNat * 2)).block, (ad174.add ((x5_1).toNat * 2)).off + 1, none⟩ = some (.string ((rd_T105 l1 x5_1).f1))) (ds := []) #[false, false, false, false, false, false, false, false, false, false] (by kernel_rfl) rfl rfl ⟨((HB.out.cell (World.block_lt_of_cell? w _ hw173_0)).trans hw173_0), ((HB.out.cell (World.block_lt_of_cell? w _ hw173_1)).trans hw173_1), ((HB.out.cell (World.block_lt_of_cell? w _ hw174_0)).trans hw174_0), ((HB.out.cell (World.block_lt_of_cell? w _ hw174_1)).trans hw174_1)⟩ (fun hHeld => ?_); refine with_tabW laws_eqFieldS.tab6 laws_eqFieldS.bits6 (fun HT_ HW_ => ?_)
        generalize wr.drew = w9 at HB hx173_0 hx173_1 hx174_0 hx174_1 hHeld ⊢
        refine pu 0 (some 17) HT_ ?_
        refine pu 1 (some 18) HT_ ?_
        refine pu 2 (some 19) HT_ ?_
        refine pu 4 (some 21) HT_ ?_
        refine pu 5 (some 22) HT_ ?_
        refine pu 6 (some 23) HT_ ?_
        refine tk 3 (some 20) HT_ HW_ hHeld ?_
        refine tk 7 (some 24) HT_ HW_ hHeld ?_
        refine on 8 (some 25) HT_ (fun K hK => ?_)
        refine gO Tryz.func99 #[.agg #[.string ((rd_T105 l0 x5_1).f0), .string ((rd_T105 l0 x5_1).f1)], .agg #[.string ((rd_T105 l1 x5_1).f0), .string ((rd_T105 l1 x5_1).f1)]] ?_
        with_reducible refine (laws_eqField.calls ((rd_T105 l0 x5_1).f0) ((rd_T105 l0 x5_1).f1) ((rd_T105 l1 x5_1).f0) ((rd_T105 l1 x5_1).f1) true _ A7.out).mono ?_
        rintro e w10 ⟨rfl, hb⟩
        refine ⟨_, rfl, ?_⟩
        replace HB := ak (below_step (bl HB.out) hb)
        clear hb
        refine hK.out _ _ ⟨((HB.out.cell (World.block_lt_of_cell? w _ hw173_0)).trans hw173_0), ((HB.out.cell (World.block_lt_of_cell? w _ hw173_1)).trans hw173_1), ((HB.out.cell (World.block_lt_of_cell? w _ hw174_0)).trans hw174_0), ((HB.out.cell (World.block_lt_of_cell? w _ hw174_1)).trans hw174_1)⟩ (fun hHeld => ?_)
        clear hK K
        refine nr (some 25) ?_
        refine pu 9 (some 26) HT_ ?_
        refine done_ (done_of HT_.out (by kernel_rfl)) ?_
        try go_wp2
        go_roundg k1
        case measure => have := HK1.out; omega
        case rel => exact ⟨(wrap64 (x5_1 + 1)), (by first | rfl | (simp; done) | (simp [*]; done)), H', ⟨by have := HK1.out; omega⟩, ⟨bl HB.out⟩⟩
       ·replace c8 := Bool.eq_false_iff.mpr c8
        subst c8
        rw [if_neg ff] at H
        exact absurd H (by simp)
      ·rw [if_neg c6] at H
       exact absurd H (by simp)
     ·rw [if_neg c5] at H
      exact absurd H (by simp)
    ·rw [if_neg c4] at H
     have c4b0 := decide_eq_false c4
     clear c4
     obtain rfl := Option.some.inj H
     go_wp2
     go_ret
     exact rz (bl HB.out)
 ·rw [if_neg c3] at H
  exact absurd H (by simp)

/-! ### laws_eqResponse: function 100 -/
def laws_eqResponse.f (k : Nat) (a0_0 : Int) (a0_1 : ByteArray) (l0_2 : List (S105)) (a0_3 : ByteArray) (a1_0 : Int) (a1_1 : ByteArray) (l1_2 : List (S105)) (a1_3 : ByteArray) : Option (Bool) := if a0_0 = a1_0 then (if a0_1.toList = a1_1.toList then ((laws_eqFieldS.f k l0_2 l1_2).bind fun t178 => (if t178 = true then (if a0_3.toList = a1_3.toList then (some true) else (none)) else (none))) else (none)) else (none)
theorem laws_eqResponse.mono : ∀ a0 a1 a2 a3 a4 a5 a6 a7 k, LeO (laws_eqResponse.f k a0 a1 a2 a3 a4 a5 a6 a7) (laws_eqResponse.f (k + 1) a0 a1 a2 a3 a4 a5 a6 a7) := by
 intro a0 a1 a2 a3 a4 a5 a6 a7 k
 unfold laws_eqResponse.f
 repeat' with_reducible first | exact laws_eqFieldS.mono _ _ _ | exact LeO.refl _ | exact LeO.none _ | refine LeO.ite ?_ ?_ | refine LeO.bind ?_ (fun _ => ?_)
set_option maxHeartbeats 8000000 in
set_option maxRecDepth 100000 in
theorem laws_eqResponse.calls (k : Nat) (a0_0 : Int) (a0_1 : ByteArray) (A0_2 : Option Addr) (c0_2 : Nat) (l0_2 : List (S105)) (a0_3 : ByteArray) (a1_0 : Int) (a1_1 : ByteArray) (A1_2 : Option Addr) (c1_2 : Nat) (l1_2 : List (S105)) (a1_3 : ByteArray) (r : Bool) (w : World) (hr0_2 : Kd.C k105 w A0_2 l0_2.length l0_2) (hc0_2 : l0_2.length ≤ c0_2) (hr1_2 : Kd.C k105 w A1_2 l1_2.length l1_2) (hc1_2 : l1_2.length ≤ c1_2) (h : laws_eqResponse.f k a0_0 a0_1 l0_2 a0_3 a1_0 a1_1 l1_2 a1_3 = some r) :
  Calls Tryz.prog 100 #[.agg #[.int .i64 a0_0, .string a0_1, .slice A0_2 l0_2.length c0_2, .string a0_3], .agg #[.int .i64 a1_0, .string a1_1, .slice A1_2 l1_2.length c1_2, .string a1_3]] w fun e w' => e = .returned (.bool r) ∧ Below w.heap.size w w' := by
 have hu57 := Tryz.underlying57
 have HR0_2 := ak hr0_2
 have HC0_2 := ak hc0_2
 clear hr0_2 hc0_2
 have HR1_2 := ak hr1_2
 have HC1_2 := ak hc1_2
 clear hr1_2 hc1_2
 have HB := ak (Below.refl w.heap.size w)
 unfold laws_eqResponse.f at h; have H := h
 clear h
 by_cases c3 : a0_0 = a1_0
 ·rw [if_pos c3] at H
  have c3b0 : (a0_0 == a1_0) = true := beq_iff_eq.mpr c3
  have c3b1 : (a0_0 != a1_0) = false := bne_eq_false_iff_eq.mpr c3
  clear c3
  by_cases c4 : a0_1.toList = a1_1.toList
  ·rw [if_pos c4] at H
   have c4b0 : (a0_1.toList == a1_1.toList) = true := beq_iff_eq.mpr c4
   have c4b1 : (a0_1.toList != a1_1.toList) = false := bne_eq_false_iff_eq.mpr c4
   clear c4
   replace H := bs H
   obtain ⟨t178, A5, H⟩ := H
   try dsimp only at H
   by_cases c6 : t178 = true
   ·subst c6
    rw [if_pos rfl] at H
    by_cases c7 : a0_3.toList = a1_3.toList
    ·rw [if_pos c7] at H
     have c7b0 : (a0_3.toList == a1_3.toList) = true := beq_iff_eq.mpr c7
     have c7b1 : (a0_3.toList != a1_3.toList) = false := bne_eq_false_iff_eq.mpr c7
     clear c7
     obtain rfl := Option.some.inj H
     go_enter Tryz.func100, Tryz.ntmps100
     go_wp2_with (first | ((with_reducible refine gd 2 ?_); refine bE 2 #[.int .i64 a0_0, .string a0_1, .slice A0_2 l0_2.length c0_2, .string a0_3] 57 ?_; intro gb176 hg w8 hbox hb; have BK176 := ak hbox; have GW176 := gs hg (bl HB.out); have GE176 := gs hg (bl HB.out); replace HB := ak (below_step (bl HB.out) hb); clear hb hbox hg) | ((with_reducible refine gd 3 ?_); refine bE 3 #[.int .i64 a1_0, .string a1_1, .slice A1_2 l1_2.length c1_2, .string a1_3] 57 ?_; intro gb177 hg w9 hbox hb; have BK177 := ak hbox; have GW177 := gs hg (bl1 HB.out GE176.out); have GE177 := gs hg (bl1 HB.out GE176.out); replace HB := ak (below_step (bl1 HB.out GE176.out) hb); have NB176_177 := nl hg BK176.out; have NB177_176 := ng hg BK176.out; replace BK176 := ak (blk_below (bk BK176.out) hb); clear hb hbox hg; have hnb10 := NB176_177.out; have hnc10 := NB177_176.out; obtain ⟨_, _, _, _, _, _, _, _⟩ := b4 BK176.out; obtain ⟨_, _, _, _, _, _, _, _⟩ := b4 BK177.out) | ((with_reducible refine gc 59 ?_); refine gL 59 Tryz.func59 (some 19) #[.slice A0_2 l0_2.length c0_2, .slice A1_2 l1_2.length c1_2] ?_; (with_reducible refine (laws_eqFieldS.calls k _ _ l0_2 _ _ l1_2 true _ ?side1 ?side2 ?side3 ?side4 A5.out).mono ?_); (case side1 => exact kc (Kd.C_below HR0_2.out HB.out)); (case side2 => exact HC0_2.out); (case side3 => exact kc (Kd.C_below HR1_2.out HB.out)); (case side4 => exact HC1_2.out); rintro e w13 ⟨rfl, hb⟩; refine ⟨_, rfl, ?_⟩; replace BK176 := ak (blk_below (bk BK176.out) hb); replace BK177 := ak (blk_below (bk BK177.out) hb); replace HB := ak (below_step (bl2 HB.out GE176.out GE177.out) hb); clear hb; obtain ⟨_, _, _, _, _, _, _, _⟩ := b4 BK176.out; obtain ⟨_, _, _, _, _, _, _, _⟩ := b4 BK177.out))
     go_ret
     exact rz (bl2 HB.out GE176.out GE177.out)
    ·rw [if_neg c7] at H
     exact absurd H (by simp)
   ·replace c6 := Bool.eq_false_iff.mpr c6
    subst c6
    rw [if_neg ff] at H
    exact absurd H (by simp)
  ·rw [if_neg c4] at H
   exact absurd H (by simp)
 ·rw [if_neg c3] at H
  exact absurd H (by simp)

/-! ### laws_eqKept: function 60 -/
def laws_eqKept.f (k : Nat) (a0_0 : Int) (a0_1 : ByteArray) (l0_2 : List (S105)) (a0_3 : ByteArray) (a0_4 : Int) (a0_5 : Int) (a1_0 : Int) (a1_1 : ByteArray) (l1_2 : List (S105)) (a1_3 : ByteArray) (a1_4 : Int) (a1_5 : Int) : Option (Bool) := (laws_eqResponse.f k a0_0 a0_1 l0_2 a0_3 a1_0 a1_1 l1_2 a1_3).bind fun t181 => (if t181 = true then (if a0_4 = a1_4 then (if a0_5 = a1_5 then (some true) else (none)) else (none)) else (none))
theorem laws_eqKept.mono : ∀ a0 a1 a2 a3 a4 a5 a6 a7 a8 a9 a10 a11 k, LeO (laws_eqKept.f k a0 a1 a2 a3 a4 a5 a6 a7 a8 a9 a10 a11) (laws_eqKept.f (k + 1) a0 a1 a2 a3 a4 a5 a6 a7 a8 a9 a10 a11) := by
 intro a0 a1 a2 a3 a4 a5 a6 a7 a8 a9 a10 a11 k
 unfold laws_eqKept.f
 repeat' with_reducible first | exact laws_eqResponse.mono _ _ _ _ _ _ _ _ _ | exact LeO.refl _ | exact LeO.none _ | refine LeO.ite ?_ ?_ | refine LeO.bind ?_ (fun _ => ?_)
set_option maxHeartbeats 8000000 in
set_option maxRecDepth 100000 in
theorem laws_eqKept.calls (k : Nat) (a0_0 : Int) (a0_1 : ByteArray) (A0_2 : Option Addr) (c0_2 : Nat) (l0_2 : List (S105)) (a0_3 : ByteArray) (a0_4 : Int) (a0_5 : Int) (a1_0 : Int) (a1_1 : ByteArray) (A1_2 : Option Addr) (c1_2 : Nat) (l1_2 : List (S105)) (a1_3 : ByteArray) (a1_4 : Int) (a1_5 : Int) (r : Bool) (w : World) (hr0_2 : Kd.C k105 w A0_2 l0_2.length l0_2) (hc0_2 : l0_2.length ≤ c0_2) (hr1_2 : Kd.C k105 w A1_2 l1_2.length l1_2) (hc1_2 : l1_2.length ≤ c1_2) (h : laws_eqKept.f k a0_0 a0_1 l0_2 a0_3 a0_4 a0_5 a1_0 a1_1 l1_2 a1_3 a1_4 a1_5 = some r) :
  Calls Tryz.prog 60 #[.agg #[.int .i64 a0_0, .string a0_1, .slice A0_2 l0_2.length c0_2, .string a0_3, .int .i64 a0_4, .int .i64 a0_5], .agg #[.int .i64 a1_0, .string a1_1, .slice A1_2 l1_2.length c1_2, .string a1_3, .int .i64 a1_4, .int .i64 a1_5]] w fun e w' => e = .returned (.bool r) ∧ Below w.heap.size w w' := by
 have hu59 := Tryz.underlying59
 have hu57 := Tryz.underlying57
 have HR0_2 := ak hr0_2
 have HC0_2 := ak hc0_2
 clear hr0_2 hc0_2
 have HR1_2 := ak hr1_2
 have HC1_2 := ak hc1_2
 clear hr1_2 hc1_2
 have HB := ak (Below.refl w.heap.size w)
 unfold laws_eqKept.f at h; have H := h
 clear h
 replace H := bs H
 obtain ⟨t181, A3, H⟩ := H
 try dsimp only at H
 by_cases c4 : t181 = true
 ·subst c4
  rw [if_pos rfl] at H
  by_cases c5 : a0_4 = a1_4
  ·rw [if_pos c5] at H
   have c5b0 : (a0_4 == a1_4) = true := beq_iff_eq.mpr c5
   have c5b1 : (a0_4 != a1_4) = false := bne_eq_false_iff_eq.mpr c5
   clear c5
   by_cases c6 : a0_5 = a1_5
   ·rw [if_pos c6] at H
    have c6b0 : (a0_5 == a1_5) = true := beq_iff_eq.mpr c6
    have c6b1 : (a0_5 != a1_5) = false := bne_eq_false_iff_eq.mpr c6
    clear c6
    obtain rfl := Option.some.inj H
    go_enter Tryz.func60, Tryz.ntmps60
    go_wp2_with (first | ((with_reducible refine gd 2 ?_); refine bE 2 #[.int .i64 a0_0, .string a0_1, .slice A0_2 l0_2.length c0_2, .string a0_3, .int .i64 a0_4, .int .i64 a0_5] 59 ?_; intro gb179 hg w7 hbox hb; have BK179 := ak hbox; have GW179 := gs hg (bl HB.out); have GE179 := gs hg (bl HB.out); replace HB := ak (below_step (bl HB.out) hb); clear hb hbox hg) | ((with_reducible refine gd 3 ?_); refine bE 3 #[.int .i64 a1_0, .string a1_1, .slice A1_2 l1_2.length c1_2, .string a1_3, .int .i64 a1_4, .int .i64 a1_5] 59 ?_; intro gb180 hg w8 hbox hb; have BK180 := ak hbox; have GW180 := gs hg (bl1 HB.out GE179.out); have GE180 := gs hg (bl1 HB.out GE179.out); replace HB := ak (below_step (bl1 HB.out GE179.out) hb); have NB179_180 := nl hg BK179.out; have NB180_179 := ng hg BK179.out; replace BK179 := ak (blk_below (bk BK179.out) hb); clear hb hbox hg; have hnb9 := NB179_180.out; have hnc9 := NB180_179.out; obtain ⟨_, _, _, _, _, _, _, _, _, _, _, _⟩ := b6 BK179.out; obtain ⟨_, _, _, _, _, _, _, _, _, _, _, _⟩ := b6 BK180.out) | ((with_reducible refine gc 100 ?_); refine gL 100 Tryz.func100 (some 9) #[.agg #[.int .i64 a0_0, .string a0_1, .slice A0_2 l0_2.length c0_2, .string a0_3], .agg #[.int .i64 a1_0, .string a1_1, .slice A1_2 l1_2.length c1_2, .string a1_3]] ?_; (with_reducible refine (laws_eqResponse.calls k a0_0 a0_1 _ _ l0_2 a0_3 a1_0 a1_1 _ _ l1_2 a1_3 true _ ?side1 ?side2 ?side3 ?side4 A3.out).mono ?_); (case side1 => exact kc (Kd.C_below HR0_2.out HB.out)); (case side2 => exact HC0_2.out); (case side3 => exact kc (Kd.C_below HR1_2.out HB.out)); (case side4 => exact HC1_2.out); rintro e w12 ⟨rfl, hb⟩; refine ⟨_, rfl, ?_⟩; replace BK179 := ak (blk_below (bk BK179.out) hb); replace BK180 := ak (blk_below (bk BK180.out) hb); replace HB := ak (below_step (bl2 HB.out GE179.out GE180.out) hb); clear hb; obtain ⟨_, _, _, _, _, _, _, _, _, _, _, _⟩ := b6 BK179.out; obtain ⟨_, _, _, _, _, _, _, _, _, _, _, _⟩ := b6 BK180.out))
    go_ret
    exact rz (bl2 HB.out GE179.out GE180.out)
   ·rw [if_neg c6] at H
    exact absurd H (by simp)
  ·rw [if_neg c5] at H
   exact absurd H (by simp)
 ·replace c4 := Bool.eq_false_iff.mpr c4
  subst c4
  rw [if_neg ff] at H
  exact absurd H (by simp)

end Go.Proofs.YtlmnmakkojgfnaaGreatDoor.PFnExactKeptFor
