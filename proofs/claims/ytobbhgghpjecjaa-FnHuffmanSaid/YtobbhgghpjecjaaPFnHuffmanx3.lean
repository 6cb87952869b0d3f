-- written by a program of this session (wip/tool)
import Derived.Test.YtobbhgghpjecjaaPFnHuffmanx0
import Derived.Test.YtobbhgghpjecjaaPFnHuffmanx2
import Derived.Test.YtobbhgghpjecjaaOwn0
import Derived.Test.YtobbhgghpjecjaaOwnOpen
import Derived.WalkKit
import Derived.BigCall
import Derived.Lib.SliceRun
import Derived.Deep.RegionLaw
import Derived.Maps.OwnSet
import Derived.Maps.OwnOps
import Derived.Maps.Views
import Derived.Test.YtobbhgghpjecjaaWZeros
import Derived.Test.YtobbhgghpjecjaaWArr
namespace Go.Proofs.Ytobbhgghpjecjaa.PFnHuffman
open Go.RowKit Go.Proofs.YtobbhgghpjecjaaW.PrintWords Go.Proofs.YtobbhgghpjecjaaW.PrintLast Go.Proofs.YtobbhgghpjecjaaW.PrintMore Go.Shelf Go.Proofs.YtobbhgghpjecjaaOwn
attribute [local go_sem] max2_int min2_int max_two min_two max_three min_three max_four min_four   -- for this text's walks alone
set_option linter.unusedVariables false
set_option linter.unusedSimpArgs false

/-! #### struct type 91 -/
structure S91 where
  f0 : Int
  f1 : (List Int)
def z91 : S91 := ⟨(0 : Int), ([] : List Int)⟩
def k91 : Kd S91 := Kd.iso (Kd.pair (Kd.int .i64) (Kd.slice 3 (Kd.int .i64))) (fun x : S91 => (x.f0, x.f1))
theorem k91_open {w : World} {x : S91} {cs : List Value} (h : k91.K w x cs) : ∃ A1 c1, cs = [.int .i64 x.f0, .slice A1 x.f1.length c1] ∧ x.f1.length ≤ c1 ∧ (Kd.int .i64).C w A1 x.f1.length x.f1 := by
  obtain ⟨_, _, rfl, rfl, ⟨A1, c1, rfl, l1, g1⟩⟩ := h
  exact ⟨A1, c1, rfl, l1, g1⟩
theorem k91_openM {w : World} {base : Nat} {ok : Nat → Prop} {x : S91} {cs : List Value} (h : k91.M w base ok x cs) : ∃ v1, cs = [.int .i64 x.f0, v1] ∧ (Kd.int .i64).R 3 w base ok v1 x.f1 := by
  obtain ⟨_, _, rfl, rfl, ⟨v1, rfl, g1⟩⟩ := h
  exact ⟨v1, rfl, g1⟩
theorem k91_mk (w : World) (x : S91) {A1 : Option Addr} {c1 : Nat} (l1 : x.f1.length ≤ c1) (g1 : (Kd.int .i64).C w A1 x.f1.length x.f1) : k91.K w x [.int .i64 x.f0, .slice A1 x.f1.length c1] := ⟨[.int .i64 x.f0], [.slice A1 x.f1.length c1], rfl, rfl, ⟨A1, c1, rfl, l1, g1⟩⟩
theorem k91_mkM (w : World) (base : Nat) (ok : Nat → Prop) (x : S91) {v1 : Value} (g1 : (Kd.int .i64).R 3 w base ok v1 x.f1) : k91.M w base ok x [.int .i64 x.f0, v1] := ⟨[.int .i64 x.f0], [v1], rfl, rfl, ⟨v1, rfl, g1⟩⟩
theorem k91_openF {W : World} {ok : Nat → Prop} {x : S91} {cs : List Value} (h : Kd.FK k91 W ok x cs) : ∃ A1 c1, cs = [.int .i64 x.f0, .slice A1 x.f1.length c1] ∧ x.f1.length ≤ c1 ∧ Kd.F (Kd.int .i64) W ok A1 x.f1.length x.f1 := by
  obtain ⟨A1, c1, rfl, l1, _⟩ := k91_open (Kd.FK_now h)
  exact ⟨A1, c1, rfl, l1, (fun W' hW => by obtain ⟨A1_, c1_, he, l1_, g1_⟩ := k91_open (h W' hW); injection (Option.some.inj (show some (Value.slice A1 x.f1.length c1) = some (Value.slice A1_ x.f1.length c1_) from congrArg (fun l => l[1]?) he)) with ha_ _ _; rw [ha_]; exact g1_)⟩
theorem k91_mkF (W : World) (ok : Nat → Prop) (x : S91) {A1 : Option Addr} {c1 : Nat} (l1 : x.f1.length ≤ c1) (g1 : Kd.F (Kd.int .i64) W ok A1 x.f1.length x.f1) : Kd.FK k91 W ok x [.int .i64 x.f0, .slice A1 x.f1.length c1] := fun W2 hW => k91_mk W2 x l1 (g1 W2 hW)
def rd_T91 (xs : List S91) (i : Int) : S91 := xs.getD i.toNat z91
theorem at_T91 {w : World} {A : Option Addr} {n : Nat} {xs : List S91} (h : Kd.C k91 w A n xs) (i : Int) (h0 : 0 ≤ i) (h1 : i < n) : ∃ ad A1 c1, A = some ad ∧ w.cell? (ad.add (i.toNat * 2)) = some (.int .i64 (rd_T91 xs i).f0) ∧ w.cell? ⟨(ad.add (i.toNat * 2)).block, (ad.add (i.toNat * 2)).off + 1, none⟩ = some (.slice A1 (rd_T91 xs i).f1.length c1) ∧ (rd_T91 xs i).f1.length ≤ c1 ∧ (Kd.int .i64).C w A1 (rd_T91 xs i).f1.length (rd_T91 xs i).f1 := by
  obtain ⟨ad, c, e, _, hK, hc0⟩ := Kd.C_get h z91 i h0 h1
  have hc : ∀ j u, c[j]? = some u → w.cell? (ad.add (i.toNat * 2 + j)) = some u := hc0
  obtain ⟨A1, c1, rfl, l1, g1⟩ := k91_open hK
  exact ⟨ad, A1, c1, e, hc 0 _ rfl, by rw [← add_field _ _ 1 (by omega)]; exact hc 1 _ rfl, l1, g1⟩

theorem info91 : (Try.prog.info? 91).map (fun i => (i.zero, i.size, i.bytes)) = some (some (.agg #[(.int .i64 0), (.slice none 0 0)]), 2, 32) := by kernel_rfl

/-! ### slices.Delete over trees, one at a time: function 74 -/
theorem run_clear_tree (w : World) (ty : TypeId) (g o c : Nat) (hc : ∀ j, j < 2 → (w.cell? ⟨g, o + j, none⟩).isSome = true) (hf : ∀ j, j < 2 → w.frozen? ⟨g, o + j, none⟩ = false) :
    (Builtin.clear_ #[89] ty #[.slice (some ⟨g, o, none⟩) 1 c]).run Try.prog w = .ok (.tuple #[]) (w.setCells g o [.int .i64 0, .slice none 0 0]) := by
  have hst := run_storeCells_cells (P := Try.prog) g o [Value.int .i64 0, Value.slice none 0 0] 0 w (by simpa using hc) (by simpa using hf) (by intro v hv; simp at hv; rcases hv with rfl | rfl <;> rfl)
  simp only [Nat.add_zero] at hst
  have hv : ∀ w, (zeroValue 91).run Try.prog w = .ok (.agg #[.int .i64 0, .slice none 0 0]) w := fun w => by kernel_rfl
  have hz : (Builtin.zeroCells (Value.agg #[.int .i64 0, .slice none 0 0]).cells 1).toList = [Value.int .i64 0, Value.slice none 0 0] := by kernel_rfl
  simp [Builtin.clear_, run_underlying Try.underlying89, hv, hz, hst]
/-- What a row looks like where entry i is taken out of it. -/
theorem erase_raw {w w' : World} {base g cap i : Nat} {ok : Nat → Prop} {xs : List (List Value)} {cur cur' : Array Value} (h : (Kd.raw 2).R 91 w base ok (.slice (some ⟨g, 0, none⟩) xs.length cap) xs)
    (hg : w.heap[g]? = some (.cells cur 91 (0, 0))) (hg' : w'.heap[g]? = some (.cells cur' 91 (0, 0))) (hs : cur'.size = cur.size) (hi : i < xs.length)
    (hc : cur'.toList.take ((xs.length - 1) * 2) = (cur.toList.take (xs.length * 2)).take (i * 2) ++ (cur.toList.take (xs.length * 2)).drop ((i + 1) * 2)) :
    (Kd.raw 2).R 91 w' base ok (.slice (some ⟨g, 0, none⟩) (xs.length - 1) cap) (xs.eraseIdx i) := by
  obtain ⟨h0, inner, ⟨h1, h2⟩, h3⟩ := h
  have he : xs.eraseIdx i = xs.take i ++ xs.drop (i + 1) := List.eraseIdx_eq_take_drop_succ xs i
  have hl : (xs.eraseIdx i).length = xs.length - 1 := by rw [List.length_eraseIdx]; simp [hi]
  rcases h2 with ⟨h2, _⟩ | ⟨g1, cap1, cur1, e1, hb, hh, hn, hm, hsz, ht⟩
  · cases h2
  · obtain ⟨rfl, rfl⟩ : g1 = g ∧ cap1 = cap := by
      simp only [Value.slice.injEq, Option.some.injEq, Addr.mk.injEq] at e1
      exact ⟨e1.1.1.symm, e1.2.2.symm⟩
    rw [hg] at hh
    obtain rfl : cur = cur1 := by injection hh with hh; injection hh
    refine ⟨h0, (cur.toList.take (xs.length * 2)).take (i * 2) ++ (cur.toList.take (xs.length * 2)).drop ((i + 1) * 2), ?_, ?_⟩
    · rw [hl]
      rw [show (Kd.raw 2).sz = 2 from rfl] at hsz ⊢
      refine ⟨?_, .inr ⟨g1, cap1, cur', rfl, hb, hg', by omega, hm, by rw [hs, hsz], hc⟩⟩
      have : xs.length * 2 ≤ cap1 * 2 := Nat.mul_le_mul_right _ hn
      simp only [List.length_append, List.length_take, List.length_drop, Array.length_toList, hsz]
      omega
    · have hk : (Kd.raw 2).sz = 2 := rfl
      rw [hk] at ht h3
      rw [ht, he]
      have hrr : ∀ (p : List Value) c, (Kd.raw 2).M w base (fun k => ok k ∧ some k ≠ (Value.slice (some ⟨g1, 0, none⟩) xs.length cap1).ownBlock) p c → (Kd.raw 2).M w' base (fun k => ok k ∧ some k ≠ (Value.slice (some ⟨g1, 0, none⟩) (xs.length - 1) cap1).ownBlock) p c :=
        fun p c hp => hp
      exact Kd.reps_append ((Kd.reps_take h3 (by omega)).imp_ hrr) ((Kd.reps_drop h3).imp_ hrr)
theorem erase_row91 {w w' : World} {base g cap i : Nat} {ok : Nat → Prop} {xs : List S91} {cur cur' : Array Value} (h : k91.N 91 w base ok (.slice (some ⟨g, 0, none⟩) xs.length cap) xs)
    (hg : w.heap[g]? = some (.cells cur 91 (0, 0))) (hg' : w'.heap[g]? = some (.cells cur' 91 (0, 0))) (hs : cur'.size = cur.size) (hi : i < xs.length) (hk : ∀ k, k < w.heap.size → k ≠ g → w'.heap[k]? = w.heap[k]?)
    (hc : cur'.toList.take ((xs.length - 1) * 2) = (cur.toList.take (xs.length * 2)).take (i * 2) ++ (cur.toList.take (xs.length * 2)).drop ((i + 1) * 2)) :
    k91.N 91 w' base ok (.slice (some ⟨g, 0, none⟩) (xs.length - 1) cap) (xs.eraseIdx i) := by
  obtain ⟨h0, rows, hl, hR, hf⟩ := h
  refine ⟨h0, rows.eraseIdx i, by rw [List.length_eraseIdx, List.length_eraseIdx, hl], ?_, fun j x c hx hc' => ?_⟩
  · have := erase_raw (i := i) (xs := rows) (by rw [hl]; exact hR) hg hg' hs (by omega) (by rw [hl]; exact hc)
    rw [hl] at this; exact this
  · obtain ⟨j', hx', hc''⟩ : ∃ j', xs[j']? = some x ∧ rows[j']? = some c := by
      rw [List.getElem?_eraseIdx] at hx hc'
      by_cases c1 : j < i
      · rw [if_pos c1] at hx hc'; exact ⟨j, hx, hc'⟩
      · rw [if_neg c1] at hx hc'; exact ⟨j + 1, hx, hc'⟩
    refine Kd.FK_mono (Kd.FK_step (hf j' x c hx' hc'') (fun k hk' hlt => hk k hlt (fun e => hk'.2 (by rw [e]; rfl)))) (fun k hk' => hk')
set_option maxHeartbeats 4000000 in
set_option maxRecDepth 1000000 in
theorem slices_DeleteT.calls (base g cap i : Nat) (ok : Nat → Prop) (xs : List S91) (w : World) (h : k91.N 91 w base ok (.slice (some ⟨g, 0, none⟩) xs.length cap) xs) (hi : i < xs.length) :
    Calls Try.prog 74 #[.slice (some ⟨g, 0, none⟩) xs.length cap, .int .i64 i, .int .i64 ((i : Int) + 1)] w fun e w' => e = .returned (.slice (some ⟨g, 0, none⟩) (xs.length - 1) cap) ∧ k91.N 91 w' base ok (.slice (some ⟨g, 0, none⟩) (xs.length - 1) cap) (xs.eraseIdx i) ∧ w.grownBy w' (some g) := by
  obtain ⟨cur, hcur⟩ : ∃ cur, w.heap[g]? = some (.cells cur 91 (0, 0)) := Kd.N_typed h g rfl
  obtain ⟨hcap, hmax, hsz, hone⟩ : xs.length ≤ cap ∧ cap ≤ 9223372036854775807 ∧ cur.size = cap * 2 ∧ ∀ u ∈ cur.toList.take (xs.length * 2), u.oneCell' = true := by
    obtain ⟨_, rows, hl, ⟨_, inner, ⟨_, h2⟩, h3⟩, hf⟩ := h
    rcases h2 with ⟨h2, _⟩ | ⟨g1, cap1, cur1, e1, hb, hh, hn, hm, hsz, ht⟩
    · cases h2
    · simp only [Value.slice.injEq, Option.some.injEq, Addr.mk.injEq] at e1
      obtain ⟨⟨rfl, _⟩, _, rfl⟩ := e1
      rw [hcur] at hh
      obtain rfl : cur = cur1 := by injection hh with hh; injection hh
      rw [hl] at hn
      refine ⟨hn, hm, hsz, fun u hu => ?_⟩
      refine Kd.reps_one h3 (by decide) (fun p c hp => hp.2.2) u ?_
      rw [← ht, hl]; exact hu
  obtain ⟨i0, hi0, hii⟩ := Option.map_eq_some_iff.1 info91
  simp only [Prod.mk.injEq] at hii
  obtain ⟨_, hz1, _⟩ := hii
  obtain ⟨n, hn⟩ : ∃ n, n = xs.length := ⟨_, rfl⟩
  obtain ⟨news, hnews⟩ : ∃ news, news = (cur.toList.take (n * 2)).drop ((i + 1) * 2) := ⟨_, rfl⟩
  have hlen : news.length = (n - (i + 1)) * 2 := by
    rw [hnews]; simp only [List.length_drop, List.length_take, Array.length_toList, hsz]; omega
  have hcell : ∀ j, j < cap * 2 → ∀ q, (w.drewN q).cell? ⟨g, j, none⟩ = some (cur[j]!) := by
    intro j hj q
    show w.cell? _ = _
    rw [blk_cell hcur j, getElem!_pos cur j (by omega), Array.getElem?_eq_getElem (by omega)]
  have hfz : ∀ j, w.frozen? ⟨g, j, none⟩ = false := fun j => blk_frozen hcur j
  obtain ⟨A, hA, hsrc⟩ : ∃ A : Addr, (if cap = i + 1 then some (⟨g, 0, none⟩ : Addr) else some ⟨g, (i + 1) * 2, none⟩) = some A ∧ Hid (∀ t u, news[t]? = some u → w.drew.cell? (A.add t) = some u) := by
    by_cases hc : cap = i + 1
    · refine ⟨⟨g, 0, none⟩, by simp [hc], fun t u hu => ?_⟩
      have h0 : news.length = 0 := by rw [hlen]; omega
      rw [List.length_eq_zero_iff.1 h0] at hu
      simp at hu
    · refine ⟨⟨g, (i + 1) * 2, none⟩, by simp [hc], fun t u hu => ?_⟩
      rw [add_at]
      show w.cell? _ = _
      rw [blk_cell hcur]
      rw [hnews, List.getElem?_drop, List.getElem?_take] at hu
      split at hu
      · rw [← Array.getElem?_toList]; exact hu
      · cases hu
  have s1 : Hid (news.length = (n - (i + 1)) * 2) := hlen
  have s2 : Hid (∀ u ∈ news, u.oneCell' = true) := by
    intro u hu
    rw [hnews, hn] at hu
    exact hone u (List.mem_of_mem_drop hu)
  have s3 : Hid (∀ t, t < news.length → (w.drew.cell? ⟨g, 0 + i * 2 + t, none⟩).isSome = true ∧ w.drew.frozen? ⟨g, 0 + i * 2 + t, none⟩ = false) := by
    intro t ht
    rw [hlen] at ht
    refine ⟨?_, hfz _⟩
    rw [show w.drew = w.drewN 1 from rfl, hcell _ (by omega)]; rfl
  obtain ⟨W1, hW1⟩ : ∃ W1, W1 = w.drew.setCells g (0 + i * 2) news := ⟨_, rfl⟩
  obtain ⟨cur1, hc1, hs1, ht1⟩ := setCells_row news (0 + i * 2) w.drew cur hcur (by omega)
  rw [← hW1] at hc1
  have hcl : ∀ ty, (Builtin.clear_ #[89] ty #[.slice (some ⟨g, (i + (n - (i + 1))) * 2, none⟩) (n - (i + (n - (i + 1)))) (cap - (i + (n - (i + 1))))]).run Try.prog W1 = .ok (.tuple #[]) (W1.setCells g ((i + (n - (i + 1))) * 2) [.int .i64 0, .slice none 0 0]) := by
    intro ty
    rw [show n - (i + (n - (i + 1))) = 1 by omega]
    refine run_clear_tree W1 ty g _ _ (fun j hj => ?_) (fun j hj => blk_frozen hc1 _)
    rw [blk_cell hc1, Array.getElem?_eq_getElem (by omega)]; rfl
  obtain ⟨cur2, hc2, hs2, ht2⟩ := setCells_row [.int .i64 0, .slice none 0 0] ((i + (n - (i + 1))) * 2) W1 cur1 hc1 (by simp; omega)
  have hgrow : w.grownBy (W1.setCells g ((i + (n - (i + 1))) * 2) [.int .i64 0, .slice none 0 0]) (some g) := by
    obtain ⟨a1, a2, a3, a4⟩ := setCells_same g news (0 + i * 2) w.drew
    obtain ⟨b1, b2, b3, b4⟩ := setCells_same g [.int .i64 0, .slice none 0 0] ((i + (n - (i + 1))) * 2) W1
    rw [← hW1] at a1 a2 a3 a4
    refine ⟨b1.trans a1, b2.trans a2, b3.trans a3, by rw [b4, a4]; exact Nat.le_refl _, fun k _ hk => ?_⟩
    have hk' : k ≠ g := fun e => hk (by rw [e])
    rw [setCells_far _ _ k hk', hW1, setCells_far _ _ k hk']; rfl
  have hres := erase_row91 (i := i) h hcur hc2 (by rw [hs2, hs1]) hi (fun k hk hg => hgrow.block k hk (fun e => hg (Option.some.inj e))) (by
    rw [ht2, ht1, ← hn, hnews]
    have e1 : (n - 1) * 2 = (i + (n - (i + 1))) * 2 := by omega
    rw [e1, List.append_assoc, List.take_left' (by simp only [List.length_take, List.length_append, List.length_drop, Array.length_toList, hsz]; omega)]
    rw [List.take_append_of_le_length (by simp only [List.length_take, List.length_append, List.length_drop, Array.length_toList, hsz]; omega)]
    rw [List.take_of_length_le (by simp only [List.length_take, List.length_append, List.length_drop, Array.length_toList, hsz]; omega), List.take_take, Nat.min_eq_left (by omega), Nat.zero_add])
  have HRES := Aside0.mk hres
  have HGROW := Aside0.mk hgrow
  have hW : Hid (W1 = w.drew.setCells g (0 + i * 2) news) := hW1
  have HN := Aside0.mk hn
  have hic : i ≤ cap := by omega
  have hjc : i + 1 ≤ cap := by omega
  have hin : i + 1 ≤ n := by omega
  have hnc : n ≤ cap := by omega
  have u89 : ∀ w, Sem.run Try.prog (underlying 89) w = .ok (TypeDesc.slice 91) w := run_underlying Try.underlying89
  rw [← hn] at hi ⊢
  clear hW1 hcell hfz hlen hnews hres hgrow hc1 hs1 ht1 hc2 hs2 ht2 hcur hsz h hn hcap hone
  have hk1 : (0 ≤ (i : Int) + 1) = True := eq_true (by omega)
  have hk2 : ((i : Int) + 1 ≤ (n : Int)) = True := eq_true (by omega)
  go_enter Try.func74, Try.ntmps74
  go_wp2_with fail
  go_region_law (refine step_append_room rfl (.tmp 22) (.tmp 25) 89 rfl 91 i0 2 Try.underlying89 hi0 hz1 g 0 i cap (by simp [Act.eval, Act.put]) A (n - (i + 1)) (cap - (i + 1)) news (by simp [Act.eval, Act.put]) s1.out hsrc.out s2.out (by omega) s3.out ?_; rw [← hW.out])
  go_wp2
  go_ret
  have HR2 := HRES.out
  rw [← HN.out] at HR2
  exact ⟨by rw [show i + (n - (i + 1)) = n - 1 by omega]; rfl, HR2, HGROW.out⟩

/-! ### slices.Grow of nil, slices.Concat over rows of entries: functions 92, 75 -/
set_option maxHeartbeats 2000000 in
set_option maxRecDepth 100000 in
theorem slices_GrowI.calls (m : Nat) (w : World) (hm : m < 4398046511104) :
    Calls Try.prog 92 #[.slice none 0 0, .int .i64 m] w fun e w' => ∃ v0_ : Value, e = .returned v0_ ∧ Kd.R (Kd.int .i64) 3 w' w.heap.size (fun _ => True) v0_ [] ∧ Below w.heap.size w w' := by
  by_cases h0 : m = 0
  · subst h0
    go_enter Try.func92, Try.ntmps92
    go_wp2
    go_ret
    exact ⟨_, rfl, Kd.R_nil _ _ _ _ _, Below.refl _ _⟩
  · have hp : (0 : Int) < m := by omega
    have hnn : ¬ ((m : Int) < 0) := by omega
    have LM := Aside0.mk hm
    have hb1 : decide ((0 : Int) < m) = true := decide_eq_true hp
    have hb2 : decide ((m : Int) < 0) = false := decide_eq_false hnn
    go_enter Try.func92, Try.ntmps92
    go_wp2_with (first
      | ((with_reducible refine gate_builtin (b := .append) (xs := #[.tmp 20, .tmp 21]) rfl ?_); at_builtin; refine Kd.R_append_zeros (Kd.int .i64) (w0 := w) w.heap.size rfl (.tmp 20) (.tmp 21) 23 3 3 (.int .i64 0) 8 rfl Try.underlying23 Try.underlying3 info3 rfl (by decide) (by omega) (.slice none 0 0) [] 0 (kx := .i64) (m : Int) (fun _ => True) rfl ?aX ?aZ ?aF ?aO ?a0 ?aB ?aS ?aL ?_; (case aX => first | rfl | (show Value.int .i64 _ = _; congr 1; unfold wrap64; omega)); (case aZ => exact (show Kd.M (Kd.int .i64) _ _ _ (0 : Int) [.int .i64 0] from rfl)); (case aF => exact (fun _ _ => trivial)); (case aO => exact Kd.R_nil _ _ _ _ _); (case a0 => omega); (case aB => exact Below.refl _ _); (case aS => exact Nat.le_refl _); (case aL => have := LM.out; simp only [List.length_nil, Int.toNat_natCast]; omega); intro v2 w2 ho hb hg hat; have HO2 := Aside0.mk ho; have HB2 := Aside0.mk hb; clear ho hb hg hat; obtain ⟨g, cap, ev, hg1, hg2, hg3⟩ := Kd.R_form HO2.out (by simp; omega); subst ev; clear hg1 hg2 hg3))
    go_ret
    refine ⟨_, rfl, ?_, HB2.out⟩
    have := Kd.R_take (m := 0) HO2.out (Nat.zero_le _)
    simpa using this
def slices_ConcatI.f (xss : List (List Int)) : Option (List Int) := if xss.flatten.length < 4398046511104 then some xss.flatten else none
def rd_LL (xs : List (List Int)) (i : Int) : (List Int) := xs.getD i.toNat ([] : List Int)
theorem at_LL {w : World} {A : Option Addr} {n : Nat} {xs : List (List Int)} (h : Kd.C (Kd.slice 3 (Kd.int .i64)) w A n xs) (i : Int) (h0 : 0 ≤ i) (h1 : i < n) : ∃ ad A0 c0, A = some ad ∧ w.cell? (ad.add i.toNat) = some (.slice A0 (rd_LL xs i).length c0) ∧ (rd_LL xs i).length ≤ c0 ∧ (Kd.int .i64).C w A0 (rd_LL xs i).length (rd_LL xs i) := by
  obtain ⟨ad, c, e, _, hK, hc0⟩ := Kd.C_get h ([] : List Int) i h0 h1
  have hc : ∀ j u, c[j]? = some u → w.cell? (ad.add (i.toNat * 1 + j)) = some u := hc0
  obtain ⟨A0, c0, rfl, l0, g0⟩ := hK
  exact ⟨ad, A0, c0, e, by have hq := hc 0 _ rfl; rwa [Nat.mul_one, Nat.add_zero] at hq, l0, g0⟩
theorem flat_take (xss : List (List Int)) (j : Nat) (hj : j < xss.length) : (xss.take (j + 1)).flatten = (xss.take j).flatten ++ rd_LL xss (j : Int) := by
  have e : rd_LL xss (j : Int) = xss[j] := by
    show xss.getD j _ = _
    rw [List.getD_eq_getElem?_getD, List.getElem?_eq_getElem hj]; rfl
  rw [e, List.take_succ_eq_append_getElem hj, List.flatten_append]; simp
theorem flat_le (xss : List (List Int)) (j : Nat) : (xss.take j).flatten.length ≤ xss.flatten.length := by
  conv => rhs; rw [← List.take_append_drop j xss, List.flatten_append, List.length_append]
  omega
set_option maxHeartbeats 4000000 in
set_option maxRecDepth 100000 in
theorem slices_ConcatI.calls (A0 : Option Addr) (c0 : Nat) (xss : List (List Int)) (r : List Int) (w : World) (hr0 : Kd.C (Kd.slice 3 (Kd.int .i64)) w A0 xss.length xss) (h : slices_ConcatI.f xss = some r) :
    Calls Try.prog 75 #[.slice A0 xss.length c0] w fun e w' => ∃ v0_ : Value, e = .returned v0_ ∧ Kd.R (Kd.int .i64) 3 w' w.heap.size (fun _ => True) v0_ r ∧ Below w.heap.size w w' := by
  unfold slices_ConcatI.f at h
  by_cases c : xss.flatten.length < 4398046511104
  · rw [if_pos c, Option.some.injEq] at h
    subst h
    have LM := Aside0.mk c
    have hm := Kd.C_max hr0
    have HR := Aside0.mk hr0
    clear hr0 c
    go_enter Try.func75, Try.ntmps75
    go_wp2
    go_loopg [3, 5, 11] xss.length (fun gg s3 _ s11 wr => ∃ j p : Nat, j ≤ xss.length ∧ xss.length - j ≤ gg ∧ s11 = .int .i64 j ∧ s3 = .int .i64 (p : Int) ∧ Aside0 (p = (xss.take j).flatten.length) ∧ w = wr)
    case atStart => exact ⟨0, 0, Nat.zero_le _, by omega, rfl, rfl, ⟨by simp⟩, rfl⟩
    case round =>
      obtain ⟨j, p, hj, hg, rfl, rfl, HP, rfl⟩ := hrel
      by_cases hlt : j < xss.length
      · have hlt' : (j : Int) < (xss.length : Int) := by omega
        have h0 : (0 : Int) ≤ (j : Int) := by omega
        obtain ⟨ad, A1, c1, ea, hx, _, _⟩ := at_LL HR.out (j : Int) h0 hlt'
        cases ea
        simp only [Int.toNat_natCast] at hx
        have ef := flat_take xss j hlt
        have el := flat_le xss (j + 1)
        have hsum : (p : Int) + (((rd_LL xss (j : Int)).length : Nat) : Int) = ((xss.take (j + 1)).flatten.length : Nat) := by rw [ef, List.length_append, HP.out]; push_cast; rfl
        have hlim : (xss.take (j + 1)).flatten.length < 4398046511104 := Nat.lt_of_le_of_lt el LM.out
        obtain ⟨q, hq⟩ : ∃ q, q = (xss.take (j + 1)).flatten.length := ⟨_, rfl⟩
        rw [← hq] at hsum hlim
        have HQ := Aside0.mk hq
        clear hq
        generalize rd_LL xss (j : Int) = y at hx hsum
        have hq0 : decide ((q : Int) < 0) = false := decide_eq_false (by omega)
        have hw3 : wrap64 (q : Int) = (q : Int) := by unfold wrap64; omega
        have hlt2 := decide_eq_true hlt'
        clear ef el hlim
        go_wp2
        go_roundg (xss.length - (j + 1))
        case measure => omega
        case rel => exact ⟨j + 1, q, by omega, by omega, by go_num, (by rw [hw3]), HQ, rfl⟩
      · have hlt' : ¬ (j : Int) < (xss.length : Int) := by omega
        obtain rfl : j = xss.length := by omega
        have hp : p < 4398046511104 := by rw [HP.out, List.take_length]; exact LM.out
        go_wp2_with (go_at_call 92; refine (slices_GrowI.calls p _ hp).mono ?_; rintro e w1 ⟨v1, rfl, ho, hb⟩; have HO := Aside0.mk ho; have HB := Aside0.mk hb; clear ho hb)
        go_loopg [6, 8, 27] xss.length (fun gg s6 _ s27 w' => ∃ j : Nat, j ≤ xss.length ∧ xss.length - j ≤ gg ∧ s27 = .int .i64 j ∧ Aside0 (Kd.R (Kd.int .i64) 3 w' w.heap.size (fun _ => True) s6 (xss.take j).flatten) ∧ Aside0 (Below w.heap.size w w'))
        case atStart => exact ⟨0, Nat.zero_le _, by omega, rfl, HO, HB⟩
        case round =>
          obtain ⟨j, hj, hg, rfl, HO6, HB6⟩ := hrel
          by_cases hlt : j < xss.length
          · have hlt' : (j : Int) < (xss.length : Int) := by omega
            have h0 : (0 : Int) ≤ (j : Int) := by omega
            obtain ⟨ad, A1, c1, ea, hx, _, hC⟩ := at_LL (Kd.C_below HR.out HB6.out) (j : Int) h0 hlt'
            cases ea
            simp only [Int.toNat_natCast] at hx
            have ef := flat_take xss j hlt
            have hlim : (xss.take (j + 1)).flatten.length < 4398046511104 := Nat.lt_of_le_of_lt (flat_le xss (j + 1)) LM.out
            rw [ef, List.length_append] at hlim
            have EF := Aside0.mk ef
            have HL := Aside0.mk hlim
            generalize rd_LL xss (j : Int) = y at hx EF HL hC
            have HC := Aside0.mk hC
            clear ef hlim hC
            go_wp2_with (first
              | ((with_reducible refine gate_builtin (b := .append) (xs := #[.tmp 31, .tmp 32]) rfl ?_); at_builtin; refine Kd.R_append_rows (Kd.int .i64) (w0 := w) w.heap.size rfl (.tmp 31) (.tmp 32) 23 3 (.int .i64 0) 8 rfl Try.underlying23 info3 rfl (by decide) (by omega) u6 (xss.take j).flatten y _ _ _ (fun _ => True) (fun _ => False) rfl rfl ?aO ?aR (fun _ _ h => h) (fun _ h => h.elim) ?aF ?aB ?aS ?aL ?_; (case aR => exact HC.out); (case aB => exact HB6.out); (case aF => exact (fun _ _ => trivial)); (case aO => exact HO6.out); (case aS => exact HB6.out.size); (case aL => have := HL.out; omega); intro v2 w2 ho hb hg hat; have HO2 := Aside0.mk ho; have HB2 := Aside0.mk hb; clear ho hb hg hat))
            go_roundg (xss.length - (j + 1))
            case measure => omega
            case rel => exact ⟨j + 1, by omega, by omega, by go_num, ⟨by rw [EF.out]; exact HO2.out⟩, HB2⟩
          · have hlt' : ¬ (j : Int) < (xss.length : Int) := by omega
            obtain rfl : j = xss.length := by omega
            have HO7 := HO6.out
            rw [List.take_length] at HO7
            have HO8 := Aside0.mk HO7
            clear HO7
            go_wp2
            go_ret
            exact ⟨_, rfl, HO8.out, HB6.out⟩
  · rw [if_neg c] at h; exact absurd h (by simp)

/-! ### the lightest tree: function 73, a closure over the heap's variable -/
def bstT : List Int → Nat → Nat → Int → Nat
  | [], _, b, _ => b
  | y :: ys, i, b, wb => if y < wb then bstT ys (i + 1) i y else bstT ys (i + 1) b wb
def lgT (xs : List S91) : Nat := bstT (xs.map (·.f0)) 0 0 (rd_T91 xs 0).f0
theorem bstT_lt : ∀ (ys : List Int) (i b : Nat) (wb : Int) (n : Nat), b < n → i + ys.length ≤ n → bstT ys i b wb < n
  | [], _, _, _, _, h, _ => h
  | y :: ys, i, b, wb, n, h, h2 => by
    simp only [List.length_cons] at h2
    simp only [bstT]
    split
    · exact bstT_lt ys _ _ _ n (by omega) (by omega)
    · exact bstT_lt ys _ _ _ n h (by omega)
theorem lgT_lt {xs : List S91} (h : 0 < xs.length) : lgT xs < xs.length := bstT_lt _ _ _ _ _ h (by simp)
theorem drop_w (xs : List S91) (j : Nat) (hj : j < xs.length) : (xs.map (·.f0)).drop j = (rd_T91 xs (j : Int)).f0 :: (xs.map (·.f0)).drop (j + 1) := by
  rw [List.drop_eq_getElem_cons (by simpa using hj)]
  have e : rd_T91 xs (j : Int) = xs[j] := by
    show xs.getD j _ = _
    rw [List.getD_eq_getElem?_getD, List.getElem?_eq_getElem hj]; rfl
  rw [e]; simp
set_option maxHeartbeats 2000000 in
set_option maxRecDepth 100000 in
theorem lightest.calls (B gv : Nat) (ok : Nat → Prop) (xs : List S91) (v : Value) (w0 w : World) (hv : w.heap[gv]? = some (.cells #[v] 89 (0, 0))) (hN : k91.N 91 w B ok v xs) (hok : ∀ k, ok k → k ≠ gv) (hgB : B ≤ gv) (hx : 0 < xs.length) (hB : Below B w0 w) (hsz : B ≤ w.heap.size) :
    Calls Try.prog 73 #[.pointer (some ⟨gv, 0, none⟩)] w fun e w' => ∃ A c v', e = .returned (.agg #[.int .i64 (rd_T91 xs (lgT xs)).f0, .slice A (rd_T91 xs (lgT xs)).f1.length c]) ∧ (rd_T91 xs (lgT xs)).f1.length ≤ c ∧ (Kd.int .i64).F w' (fun k => ok k ∧ some k ≠ v.ownBlock) A (rd_T91 xs (lgT xs)).f1.length (rd_T91 xs (lgT xs)).f1 ∧
      v'.ownBlock = v.ownBlock ∧ w'.heap[gv]? = some (.cells #[v'] 89 (0, 0)) ∧ k91.N 91 w' B ok v' (xs.eraseIdx (lgT xs)) ∧ Below B w0 w' ∧ w.heap.size ≤ w'.heap.size ∧ ∀ k, k < w.heap.size → k ≠ gv → some k ≠ v.ownBlock → w'.heap[k]? = w.heap[k]? := by
  obtain ⟨g, cap, ev, hgg, hgl, hty⟩ := Kd.N_form hN hx
  subst ev
  have HV := Aside0.mk hv
  have HN := Aside0.mk (Kd.N_bound hN)
  have HB := Aside0.mk hB
  have HSZ := Aside0.mk hsz
  have HOK := Aside0.mk hok
  have hvl := blk_lt hv
  have hne : g ≠ gv := fun e => hok gv (hN.1 gv (by rw [← e]; rfl)) rfl
  have VL := Aside0.mk hvl
  have GL := Aside0.mk hgl
  have hmx := Kd.C_max (Kd.N_reads' hN).2.2
  have hc3 : w.cell? ⟨gv, 0, none⟩ = some (.slice (some ⟨g, 0, none⟩) xs.length cap) := (blk_cell hv 0).trans rfl
  clear hv hN hB hsz hok hty
  go_enter Try.func73, Try.ntmps73
  go_wp2_with (first
    | ((with_reducible refine gate_dst (N := 1) rfl ?_); refine box_event ?hg (N := 1) ?hd (cs := #[.int .i64 0, .slice none 0 0]) (t := 91) ?hr ?_; (case hd => rfl); (case hg => rfl); (case hr => first | (go_simp; done) | (go_simp; rfl)); intro g1 hg1 w1 hb1 hb; have HG1 := Aside0.mk hg1; have B1 := Aside0.mk hb; have K1 := Aside0.mk hb1; have KV := Aside0.mk (blk_below HV.out hb); clear hg1 hb1 hb hc3; have hc3 : w1.cell? ⟨gv, 0, none⟩ = some (.slice (some ⟨g, 0, none⟩) xs.length cap) := (blk_cell KV.out 0).trans rfl))
  go_loopg [2, 8] xs.length (fun gg s2 s8 wr => ∃ j b : Nat, j ≤ xs.length ∧ xs.length - j ≤ gg ∧ b < xs.length ∧ s2 = .int .i64 b ∧ s8 = .int .i64 j ∧ Aside0 (bstT ((xs.map (·.f0)).drop j) j b (rd_T91 xs (b : Int)).f0 = lgT xs) ∧ Aside0 (Below w1.heap.size w1 wr))
  case atStart => exact ⟨0, 0, Nat.zero_le _, by omega, hx, rfl, rfl, ⟨rfl⟩, ⟨Below.refl _ _⟩⟩
  case round =>
    obtain ⟨j, b, hj, hg, hb, rfl, rfl, HA, HBr⟩ := hrel
    clear hc3
    have hvr := blk_below KV.out HBr.out
    have h1r := blk_below K1.out HBr.out
    have hcr : wr.cell? ⟨gv, 0, none⟩ = some (.slice (some ⟨g, 0, none⟩) xs.length cap) := (blk_cell hvr 0).trans rfl
    have hNr := Kd.N_below (Kd.N_below HN.out B1.out) HBr.out
    have hgr : g < wr.heap.size := by have := B1.out.size; have := HBr.out.size; omega
    have hvrl : gv < wr.heap.size := blk_lt hvr
    have HNr := Aside0.mk hNr
    have HVr := Aside0.mk hvr
    have H1r := Aside0.mk h1r
    obtain ⟨ad, A1, c1, ea, hx0, hx1, _, _⟩ := at_T91 (Kd.N_reads' hNr).2.2 (b : Int) (by omega) (by omega)
    cases ea
    simp only [Int.toNat_natCast, add_plain] at hx0 hx1
    clear hNr hvr h1r
    by_cases hlt : j < xs.length
    · have hlt' : (j : Int) < (xs.length : Int) := by omega
      have h0 : (0 : Int) ≤ (j : Int) := by omega
      have h0b : (0 : Int) ≤ (b : Int) := by omega
      have hbt : (b : Int) < (xs.length : Int) := by omega
      obtain ⟨ad, A2, c2, ea, hy0, hy1, _, _⟩ := at_T91 (Kd.N_reads' HNr.out).2.2 (j : Int) (by omega) (by omega)
      cases ea
      simp only [Int.toNat_natCast, add_plain] at hy0 hy1
      have ha := HA.out
      rw [drop_w xs j hlt] at ha
      simp only [bstT] at ha
      have HA2 := Aside0.mk ha
      clear ha HA
      have hnn := Nat.ne_of_lt hvrl
      have hnm := Nat.ne_of_lt hgr
      by_cases hc : (rd_T91 xs (j : Int)).f0 < (rd_T91 xs (b : Int)).f0
      · have hcb := decide_eq_true hc
        have HC := Aside0.mk hc
        clear hc
        go_wp2
        go_region
        all_goals
          go_wp2
          go_roundg (xs.length - (j + 1))
          case measure => omega
          case rel => exact ⟨j + 1, j, by omega, by omega, hlt, rfl, by go_num, ⟨by have := HA2.out; rw [if_pos HC.out] at this; exact this⟩, ⟨by first | exact below_alloc HBr.out _ | exact below_drew (below_alloc HBr.out _) | exact pw_below_drewN (below_alloc HBr.out _) _⟩⟩
      · have hcb := decide_eq_false hc
        have HC := Aside0.mk hc
        clear hc
        go_wp2
        go_region
        all_goals
          go_wp2
          go_roundg (xs.length - (j + 1))
          case measure => omega
          case rel => exact ⟨j + 1, b, by omega, by omega, hb, rfl, by go_num, ⟨by have := HA2.out; rw [if_neg (by have := HC.out; omega)] at this; exact this⟩, ⟨by first | exact below_alloc HBr.out _ | exact below_drew (below_alloc HBr.out _) | exact pw_below_drewN (below_alloc HBr.out _) _⟩⟩
    · have hlt' : ¬ (j : Int) < (xs.length : Int) := by omega
      obtain rfl : j = xs.length := by omega
      have ha : b = lgT xs := by
        have h2 := HA.out
        rw [List.drop_of_length_le (by simp)] at h2; exact h2
      have HBL := Aside0.mk ha
      clear ha HA hx0 hx1
      have h0b : (0 : Int) ≤ (b : Int) := by omega
      have hbt : (b : Int) < (xs.length : Int) := by omega
      have hwb : wrap64 ((b : Int) + 1) = (b : Int) + 1 := by unfold wrap64; omega
      obtain ⟨cE, hcl, hFK, hcc, _⟩ := Kd.N_elem HNr.out z91 (b : Int) h0b hbt
      obtain ⟨A1, c1, rfl, l1, hF⟩ := k91_openF hFK
      have hx0 : wr.cell? ⟨g, b * 2, none⟩ = some (.int .i64 (rd_T91 xs (b : Int)).f0) := hcc 0 _ rfl
      have hx1 : wr.cell? ⟨g, b * 2 + 1, none⟩ = some (.slice A1 (rd_T91 xs (b : Int)).f1.length c1) := hcc 1 _ rfl
      change (rd_T91 xs (b : Int)).f1.length ≤ c1 at l1
      have hF' : Kd.F (Kd.int .i64) wr (fun k => (ok k ∧ k < w.heap.size) ∧ k ≠ g) A1 (rd_T91 xs (b : Int)).f1.length (rd_T91 xs (b : Int)).f1 := hF
      have HF := Aside0.mk hF'
      clear hF hF' hFK hcc hcl
      have hn0 : wr.heap.size ≠ gv := by omega
      have h1l : g1 < wr.heap.size := blk_lt H1r.out
      have hn1 : wr.heap.size ≠ g1 := by omega
      have hn2 : g1 ≠ gv := by have := HG1.out; have := VL.out; omega
      have hn3 : gv ≠ g1 := hn2.symm
      have hn4 : g1 ≠ g := by have := HG1.out; have := GL.out; omega
      have hn5 : wr.heap.size ≠ g := by omega
      go_wp2_with (first
        | (go_at_call 74; refine (slices_DeleteT.calls B g cap b (fun k => ok k ∧ k < w.heap.size) xs _ (Kd.N_alloc HNr.out _) hb).mono ?_; rintro e w3 ⟨rfl, ho, hgr'⟩; have HO3 := Aside0.mk ho; have HGR := Aside0.mk hgr'; have KG3 := Aside0.mk (blk_grown (blk_alloc HVr.out _) hgr' (by simpa using hne.symm)); have K13 := Aside0.mk (blk_grown (blk_alloc H1r.out _) hgr' (by simpa using hn4)); have K53 := Aside0.mk (blk_grown (blk_new wr _) hgr' (by simpa using hn5)); clear ho hgr' hx0 hx1 hcr; have hk0 := (blk_cell K53.out 0).trans rfl; have hk1 := (blk_cell K53.out 1).trans rfl; have hq0 := (blk_cell KG3.out 0).trans rfl; have hq1 := blk_frozen KG3.out 0; have hr0 := (blk_cell K13.out 0).trans rfl; have hr1 := (blk_cell K13.out 1).trans rfl; have hr2 := blk_frozen K13.out 0; have hr3 := blk_frozen K13.out 1))
      have hs3 := HGR.out.size
      simp only [World.size_alloc] at hs3
      have hs1 := B1.out.size
      have hsr := HBr.out.size
      have hg1 := HG1.out
      have hfin : ∀ k, k ≠ gv → k ≠ g1 → (((w3.setCell ⟨gv, 0, none⟩ (.slice (some ⟨g, 0, none⟩) (xs.length - 1) cap)).setCell ⟨g1, 0, none⟩ (.int .i64 (rd_T91 xs (b : Int)).f0)).setCell ⟨g1, 1, none⟩ (.slice A1 (rd_T91 xs (b : Int)).f1.length c1)).heap[k]? = w3.heap[k]? := by
        intro k h1 h2
        rw [Below.heap_setCell _ _ _ k (by show k ≠ g1; exact h2), Below.heap_setCell _ _ _ k (by show k ≠ g1; exact h2), Below.heap_setCell _ _ _ k (by show k ≠ gv; exact h1)]
      have hfin2 : ∀ k, k < wr.heap.size → k ≠ g → w3.heap[k]? = wr.heap[k]? := by
        intro k hk h3
        rw [HGR.out.block k (by simp only [World.size_alloc]; omega) (by simpa using h3), Below.heap_alloc _ _ k hk]
      refine bodyPost_ret (results_cell_row rfl _ _ g1 91 #[.int .i64 (rd_T91 xs (b : Int)).f0, .slice A1 (rd_T91 xs (b : Int)).f1.length c1] (0, 0) _ rfl (by refine blk_put (cs := #[.int .i64 (rd_T91 xs (b : Int)).f0, .slice none 0 0]) ?_ 1 _ rfl; refine blk_put (cs := #[.int .i64 0, .slice none 0 0]) ?_ 0 _ rfl; exact blk_far K13.out hn2 _) Try.underlying91 rfl (by kernel_rfl)) rfl ?_
      rw [← HBL.out]
      refine ⟨A1, c1, .slice (some ⟨g, 0, none⟩) (xs.length - 1) cap, rfl, l1, ?_, rfl, ?_, ?_, ?_, ?_, ?_⟩
      · refine Kd.F_mono (Kd.F_step HF.out (fun k hk _ => ?_)) (fun k hk => ⟨hk.1.1, fun e => hk.2 (Option.some.inj e)⟩)
        have hkv := HOK.out k hk.1.1
        have hkl := hk.1.2
        rw [hfin k hkv (by omega), hfin2 k (by omega) hk.2]
      · refine blk_far ?_ hn3 _
        refine blk_far ?_ hn3 _
        exact blk_put (cs := #[.slice (some ⟨g, 0, none⟩) xs.length cap]) KG3.out 0 _ rfl
      · refine Kd.N_mono (Kd.N_step HO3.out (fun k hk hlt => ?_)) (fun k hk => hk.1)
        have hkv := HOK.out k hk.1
        have hkl := hk.2
        rw [hfin k hkv (by omega)]
      · exact ((((((HB.out.trans (B1.out.mono HSZ.out)).trans (HBr.out.mono (by have := HSZ.out; omega))).alloc (by have := HSZ.out; omega) _).grown HGR.out (by simp only [World.size_alloc]; have := HSZ.out; omega) (fun k hk => by cases hk; exact hgg)).setCell hgB _).setCell (by show B ≤ g1; have := HSZ.out; omega) _).setCell (by show B ≤ g1; have := HSZ.out; omega) _
      · simp only [World.setCell, Array.size_modify]; omega
      · intro k hk h1 h2
        have hkg1 : k ≠ g1 := by omega
        rw [hfin k h1 hkg1, hfin2 k (by omega) (fun e => h2 (by rw [e]; rfl)), HBr.out.block k (by omega), B1.out.block k hk]

/-! ### two rows of numbers side by side -/
theorem C_twoI {w : World} {n : Nat} (hn0 : n = w.heap.size) {A1 A2 : Option Addr} {c1 c2 : Nat} {l1 l2 : List Int} (g1 : l1.length ≤ c1) (h1 : (Kd.int .i64).C w A1 l1.length l1) (g2 : l2.length ≤ c2) (h2 : (Kd.int .i64).C w A2 l2.length l2) :
    Kd.C (Kd.slice 3 (Kd.int .i64)) (w.alloc (.cells #[.slice A1 l1.length c1, .slice A2 l2.length c2] 23 (0, 0))) (some ⟨n, 0, none⟩) 2 [l1, l2] := by
  subst hn0
  have hn := blk_new w (.cells #[.slice A1 l1.length c1, .slice A2 l2.length c2] 23 (0, 0))
  refine ⟨rfl, by simp, fun _ => ⟨_, rfl, fun j p hj => ?_⟩⟩
  match j, hj with
  | 0, hj =>
    simp only [List.getElem?_cons_zero, Option.some.injEq] at hj
    subst hj
    exact ⟨[.slice A1 l1.length c1], rfl, ⟨A1, c1, rfl, g1, Kd.C_alloc h1 _⟩, fun i u hu => by
      match i, hu with
      | 0, hu => simp at hu; subst hu; exact (blk_cell hn 0).trans rfl⟩
  | 1, hj =>
    simp only [List.getElem?_cons_succ, List.getElem?_cons_zero, Option.some.injEq] at hj
    subst hj
    exact ⟨[.slice A2 l2.length c2], rfl, ⟨A2, c2, rfl, g2, Kd.C_alloc h2 _⟩, fun i u hu => by
      match i, hu with
      | 0, hu => simp at hu; subst hu; exact (blk_cell hn 1).trans rfl⟩
theorem catI_two {l1 l2 : List Int} (h : (l1 ++ l2).length < 1099511627776) : slices_ConcatI.f [l1, l2] = some (l1 ++ l2) := by
  unfold slices_ConcatI.f
  rw [if_pos (by simp only [List.flatten_cons, List.flatten_nil, List.append_nil]; omega)]
  simp
theorem blk_new' (w : World) (n : Nat) (h : n = w.heap.size) (o : Obj) : (w.alloc o).heap[n]? = some o := by subst h; exact blk_new w o
theorem slices_ConcatI.two (A0 : Option Addr) (c0 : Nat) (l1 l2 : List Int) (w : World) (hr0 : Kd.C (Kd.slice 3 (Kd.int .i64)) w A0 2 [l1, l2]) (h : (l1 ++ l2).length < 1099511627776) :
    Calls Try.prog 75 #[.slice A0 2 c0] w fun e w' => ∃ v0_ : Value, e = .returned v0_ ∧ Kd.R (Kd.int .i64) 3 w' w.heap.size (fun _ => True) v0_ (l1 ++ l2) ∧ Below w.heap.size w w' := slices_ConcatI.calls A0 c0 [l1, l2] _ w hr0 (catI_two h)
theorem meas_ {n j g : Nat} (h : j < n) (hg : n - j ≤ g) : n - (j + 1) < g := by omega

/-! ### LengthsOf: function 31 -/
def mkT (l : List Int) : List S91 := l.zipIdx.map (fun p => (⟨p.1, [(p.2 : Int)]⟩ : S91))
theorem mkT_length (l : List Int) : (mkT l).length = l.length := by simp [mkT]
theorem mkT_step (l : List Int) (j : Nat) (hj : j < l.length) : (mkT l).take (j + 1) = (mkT l).take j ++ [⟨rd l (j : Int), [(j : Int)]⟩] := by
  have hl : j < (mkT l).length := by rw [mkT_length]; exact hj
  have e : rd l (j : Int) = l[j] := by
    show l.getD j _ = _
    rw [List.getD_eq_getElem?_getD, List.getElem?_eq_getElem hj]; rfl
  rw [List.take_succ_eq_append_getElem hl, e]
  simp [mkT]
def bumpO : List Int → List Int → Option (List Int)
  | [], out => some out
  | i :: is, out => if 0 ≤ i then (if i < (out.length : Int) then bumpO is (out.set i.toNat (wrap64 (rd out i + 1))) else none) else none
theorem bumpO_length : ∀ (l out r : List Int), bumpO l out = some r → r.length = out.length
  | [], out, r, h => by simp [bumpO] at h; rw [h]
  | i :: is, out, r, h => by
    simp only [bumpO] at h
    split at h
    · split at h
      · rw [bumpO_length is _ r h]; simp
      · cases h
    · cases h
def bothT (xs : List S91) : List Int := (rd_T91 xs (lgT xs)).f1 ++ (rd_T91 (xs.eraseIdx (lgT xs)) (lgT (xs.eraseIdx (lgT xs)))).f1
def sumT (xs : List S91) : Int := wrap64 ((rd_T91 xs (lgT xs)).f0 + (rd_T91 (xs.eraseIdx (lgT xs)) (lgT (xs.eraseIdx (lgT xs)))).f0)
def restT (xs : List S91) : List S91 := (xs.eraseIdx (lgT xs)).eraseIdx (lgT (xs.eraseIdx (lgT xs)))
def procT : Nat → List S91 → List Int → Option (List Int)
  | 0, _, _ => none
  | n + 1, xs, out => if 1 < xs.length then (if (bothT xs).length < 1099511627776 then (bumpO (bothT xs) out).bind fun o2 => procT n (restT xs ++ [⟨sumT xs, bothT xs⟩]) o2 else none) else some out
def impl_LengthsOf.f (k : Nat) (l0 : List Int) : Option (List Int × Bool) := (impl_areWeights.f l0).bind fun t => if t = true then (if 0 < l0.length ∧ l0.length < 1000 then (procT (l0.length + 1) (mkT l0) (List.replicate l0.length 0)).bind fun out => (slices_Max_int_int.f k out).bind fun m => some (out, decide (m ≤ 23)) else none) else some ([], false)
theorem impl_LengthsOf.mono : ∀ a0 k, LeO (impl_LengthsOf.f k a0) (impl_LengthsOf.f (k + 1) a0) := by
  intro a0 k
  unfold impl_LengthsOf.f
  repeat' first
      | (with_reducible exact slices_Max_int_int.mono _ _)
      | (with_reducible exact LeO.refl _)
      | (with_reducible exact LeO.none _)
      | (with_reducible refine LeO.ite ?_ ?_)
      | (with_reducible refine LeO.bind ?_ (fun _ => ?_))
set_option maxHeartbeats 4000000 in
set_option maxRecDepth 100000 in
theorem impl_LengthsOf.calls (k : Nat) (A0 : Option Addr) (c0 : Nat) (l0 : List Int) (r1 : List Int) (r2 : Bool) (w : World) (hr0 : Kd.C (Kd.int .i64) w A0 l0.length l0) (hc0 : l0.length ≤ c0) (h : impl_LengthsOf.f k l0 = some (r1, r2)) :
    Calls Try.prog 31 #[.slice A0 l0.length c0] w fun e w' => ∃ v0_ : Value, e = .returned (.tuple #[v0_, .bool r2]) ∧ Kd.R (Kd.int .i64) 3 w' w.heap.size (fun _ => True) v0_ r1 ∧ Below w.heap.size w w' := by
  have HR0 := Aside0.mk hr0
  have HC0 := Aside0.mk hc0
  clear hr0 hc0
  unfold impl_LengthsOf.f at h
  obtain ⟨t, A4, h⟩ := Option.bind_eq_some_iff.mp h
  have A4 := Aside0.mk A4
  cases t with
  | false =>
    simp only [Bool.false_eq_true, if_false, Option.some.injEq, Prod.mk.injEq] at h
    obtain ⟨rfl, rfl⟩ := h
    go_enter Try.func31, Try.ntmps31
    go_wp2_with (go_at_call 72; refine (impl_areWeights.calls A0 c0 l0 false w HR0.out HC0.out A4.out).mono ?_; rintro e w1 ⟨rfl, hb⟩; have HB := Aside0.mk hb; clear hb)
    go_ret2
    exact ⟨_, rfl, Kd.R_nil _ _ _ _ _, HB.out⟩
  | true =>
    rw [if_pos rfl] at h
    by_cases hl : 0 < l0.length ∧ l0.length < 1000
    · rw [if_pos hl] at h
      obtain ⟨out, A5, h⟩ := Option.bind_eq_some_iff.mp h
      obtain ⟨m, A6, h⟩ := Option.bind_eq_some_iff.mp h
      simp only [Option.some.injEq, Prod.mk.injEq] at h
      obtain ⟨rfl, rfl⟩ := h
      have A5 := Aside0.mk A5
      have A6 := Aside0.mk A6
      have LM := Aside0.mk hl.2
      have LP := Aside0.mk hl.1
      clear hl
      have h0n : (0 : Int) ≤ (l0.length : Int) := by omega
      go_enter Try.func31, Try.ntmps31
      go_wp2_with (first
        | (go_at_call 72; refine (impl_areWeights.calls A0 c0 l0 true w HR0.out HC0.out A4.out).mono ?_; rintro e w1 ⟨rfl, hb⟩; have HB := Aside0.mk hb; clear hb)
        | ((with_reducible refine gate_dst (N := 4) rfl ?_); refine box_event ?hg (N := 4) ?hd (cs := #[.slice none 0 0]) (t := 89) ?hr ?_; (case hd => rfl); (case hg => rfl); (case hr => first | (go_simp; done) | (go_simp; rfl)); intro gv hgv w2 hbv hb; have GV : Aside0 (w.heap.size ≤ gv) := ⟨by rw [hgv]; exact HB.out.size⟩; have n0_ := Aside0.mk (below_then HB.out HB.out.size hb); clear HB; have HB := n0_; have KV := Aside0.mk hbv; clear hb hbv hgv n0_))
      go_loopg [19] l0.length (fun gg s19 wr => ∃ (j : Nat) (v : Value), j ≤ l0.length ∧ l0.length - j ≤ gg ∧ s19 = .int .i64 j ∧ Aside0 (wr.heap[gv]? = some (.cells #[v] 89 (0, 0))) ∧ Aside0 (k91.N 91 wr w.heap.size (fun k_ => k_ ≠ gv) v ((mkT l0).take j)) ∧ Aside0 (Below w.heap.size w wr))
      case atStart => exact ⟨0, _, Nat.zero_le _, by omega, rfl, KV, ⟨Kd.N_nil _ _ _ _ _⟩, HB⟩
      case round =>
        clear KV HB
        obtain ⟨j, v, hj, hg, rfl, KV, HN, HB⟩ := hrel
        obtain ⟨xs, hxs⟩ : ∃ xs, xs = (mkT l0).take j := ⟨_, rfl⟩
        rw [← hxs] at HN
        have XL : Aside0 (xs.length ≤ l0.length) := ⟨by rw [hxs, List.length_take, mkT_length]; omega⟩
        have XS := Aside0.mk hxs
        clear hxs
        obtain ⟨Av, cv, ev⟩ := Kd.N_slice HN.out
        subst ev
        have hcv : wr.cell? ⟨gv, 0, none⟩ = some (.slice Av xs.length cv) := (blk_cell KV.out 0).trans rfl
        have hvl : gv < wr.heap.size := blk_lt KV.out
        by_cases hlt : j < l0.length
        · have hlt' : (j : Int) < (l0.length : Int) := by omega
          have hj0 : (0 : Int) ≤ (j : Int) := by omega
          obtain ⟨ad, ea, hx0⟩ := Kd.at_int (Kd.C_below HR0.out HB.out) (j : Int) hj0 hlt'
          cases ea
          simp only [Int.toNat_natCast] at hx0
          have hne : wr.heap.size ≠ gv := by omega
          go_wp2_with (first
            | ((with_reducible refine gate_dst (N := 27) rfl ?_); refine Kd.R_lit (Kd.int .i64) _ 3 ?hg (N := 27) ?hd (xs := ([(j : Int)] : List Int)) (inner := [.int .i64 j]) (ok := fun k_ => wr.heap.size ≤ k_) (okp := fun _ => False) ?hr ?hp (fun _ hk => hk.elim) (Nat.le_refl _) (Below.refl wr.heap.size wr) (Nat.le_refl _) (by simp) ?_; (case hd => rfl); (case hg => rfl); (case hr => first | (go_simp; done) | (go_simp; rfl)); (case hp => exact (Reps.one (show Kd.M (Kd.int .i64) _ _ _ (j : Int) [.int .i64 j] from rfl) (Reps.none _ _))); intro v27 w27 ho hb hg_ hnew_; obtain ⟨A27, c27, e27⟩ := Kd.R_slice ho; subst e27; have HO := Aside0.mk ho; have HB7 := Aside0.mk hb; have KV7 := Aside0.mk (blk_below KV.out hb); clear ho hb hg_ hnew_ hcv; have hcv : w27.cell? ⟨gv, 0, none⟩ = some (.slice Av xs.length cv) := (blk_cell KV7.out 0).trans rfl)
            | ((with_reducible refine gate_builtin (b := .append) (xs := #[.tmp 24, .tmp 29]) rfl ?_); at_builtin; refine Kd.N_append k91 (w0 := w) w.heap.size rfl (.tmp 24) (.tmp 29) 89 91 (.agg #[(.int .i64 0), (.slice none 0 0)]) 32 rfl Try.underlying89 info91 rfl (by decide) (by omega) (.slice Av xs.length cv) xs (⟨rd l0 (j : Int), [(j : Int)]⟩ : S91) [.int .i64 (rd l0 (j : Int)), .slice A27 ([(j : Int)] : List Int).length c27] (fun k_ => k_ ≠ gv) (fun k_ => k_ ≠ gv ∧ some k_ ≠ (Value.slice Av xs.length cv).ownBlock) rfl rfl ?aP (fun _ hk => hk) ?aF ?aO ?aB ?aS ?aL ?_; (case aP => exact k91_mkF _ _ (⟨rd l0 (j : Int), [(j : Int)]⟩ : S91) (Kd.R_reads' HO.out).2.1 (Kd.F_mono (Kd.R_F HO.out) (fun k_ hk => ⟨by have := blk_lt KV.out; omega, fun e => by have := Kd.N_lt HN.out k_ e.symm; omega⟩))); (case aB => exact below_then HB.out HB.out.size HB7.out); (case aF => exact (fun k_ hk => by have := blk_lt KV7.out; omega)); (case aO => exact Kd.N_below HN.out HB7.out); (case aS => have := HB.out.size; have := HB7.out.size; omega); (case aL => have := LM.out; have := XL.out; omega); intro v2 w3 ho hb hg_ hat; obtain ⟨A2, c2, e2⟩ := Kd.N_slice ho; subst e2; have HN3 := Aside0.mk ho; have HB3 := Aside0.mk hb; have KV3 := Aside0.mk (blk_grown KV7.out hg_ (Kd.N_away HN.out (fun _ hk => hk))); clear ho hb hg_ hat hcv; have hcv := (blk_cell KV3.out 0).trans rfl; have hfv := blk_frozen KV3.out 0))
          have hlm := LM.out
          go_roundg (l0.length - (j + 1))
          case measure => omega
          case rel =>
            exact ⟨j + 1, _, by omega, by omega, by first | (congr 1; unfold wrap64; omega) | go_num, ⟨blk_put (cs := #[.slice Av xs.length cv]) KV3.out 0 _ rfl⟩, ⟨by rw [mkT_step l0 j hlt]; rw [← XS.out]; have h5 := Kd.N_far (p := ⟨gv, 0, none⟩) HN3.out (fun _ hk => hk) (.slice A2 (xs.length + 1) c2); rw [List.length_append] at h5; exact h5⟩, ⟨below_set HB3.out GV.out⟩⟩
        · have hlt' : ¬ (j : Int) < (l0.length : Int) := by omega
          obtain rfl : j = l0.length := by omega
          have hxx : xs = mkT l0 := by rw [XS.out]; exact List.take_of_length_le (by rw [mkT_length]; omega)
          have HA : Aside0 (procT (l0.length + 1) xs (List.replicate l0.length 0) = some out) := ⟨by rw [hxx]; exact A5.out⟩
          clear hxx
          have hmk : l0.length * 8 ≤ 281474976710656 := by have := LM.out; omega
          have eg73 : ∀ args w, (callFunc 73 args).run Try.prog w = .ok (.enter 73 args) w := enters_of Try.func73 (by kernel_rfl) rfl
          go_wp2_with (first
            | ((with_reducible refine gate_dst (N := 35) rfl ?_); refine Kd.R_make (Kd.int .i64) w.heap.size 3 rfl (N := 35) rfl 23 _ _ rfl (l0.length : Int) rfl rfl Try.underlying23 (.int .i64 0) 8 info3 rfl (by decide) (by omega) 0 (ok := fun _ => True) (okp := fun _ => True) rfl (fun _ hk => hk) trivial (by omega) (by simpa using hmk) HB.out HB.out.size ?_; intro vo wo ho hb hg_ hnew_; simp only [Int.toNat_natCast] at ho; obtain ⟨go, co, eo, hgo1, hgo2, _⟩ := Kd.R_form ho (by simp only [List.length_replicate]; exact LP.out); subst eo; have HO : Aside0 (Kd.R (Kd.int .i64) 3 wo w.heap.size (fun k_ => k_ = go) (.slice (some ⟨go, 0, none⟩) l0.length co) (List.replicate l0.length 0)) := ⟨by have h2 := Kd.R_mono (Kd.R_tight rfl ho) (ok' := fun k_ => k_ = go) (fun k hk => Option.some.inj hk); rw [List.length_replicate] at h2; exact h2⟩; have GN : Aside0 (wr.heap.size ≤ go) := ⟨by obtain ⟨b, e, h2⟩ := hnew_; cases e; exact h2⟩; have KVo := Aside0.mk (blk_grown KV.out hg_ (by simp)); have HNo : Aside0 (k91.N 91 wo w.heap.size (fun k_ => k_ ≠ gv ∧ k_ ≠ go) (.slice Av xs.length cv) xs) := ⟨Kd.N_mono (Kd.N_grown (Kd.N_bound HN.out) hg_ (fun _ _ => by simp)) (fun k hk => ⟨hk.1, by have := hk.2; have := GN.out; omega⟩)⟩; have HBo := Aside0.mk hb; clear ho hb hg_ hnew_ hcv; have hcv : wo.cell? ⟨gv, 0, none⟩ = some (.slice Av xs.length cv) := (blk_cell KVo.out 0).trans rfl))
          go_loopg [38] (l0.length + 1) (fun gg _ wr => ∃ (xs : List S91) (o : List Int) (v : Value), Aside0 (procT gg xs o = some out) ∧ Aside0 (xs.length ≤ l0.length) ∧ Aside0 (o.length = l0.length) ∧ Aside0 (wr.heap[gv]? = some (.cells #[v] 89 (0, 0))) ∧ Aside0 (k91.N 91 wr w.heap.size (fun k_ => k_ ≠ gv ∧ k_ ≠ go) v xs) ∧ Aside0 (Kd.R (Kd.int .i64) 3 wr w.heap.size (fun k_ => k_ = go) (.slice (some ⟨go, 0, none⟩) l0.length co) o) ∧ Aside0 (Below w.heap.size w wr))
          case atStart => exact ⟨xs, _, _, HA, XL, ⟨by simp⟩, KVo, HNo, HO, HBo⟩
          case round =>
            have GO := Aside0.mk hgo1
            clear KV HN HB HO HNo KVo HBo HA XL XS A5 hcv hgo1 hgo2 hvl GN
            obtain ⟨xs, o, v, HA, XL, OL, KV, HN, HO, HB⟩ := hrel
            obtain ⟨Av, cv, ev⟩ := Kd.N_slice HN.out
            subst ev
            have hcv : wr.cell? ⟨gv, 0, none⟩ = some (.slice Av xs.length cv) := (blk_cell KV.out 0).trans rfl
            have hvl : gv < wr.heap.size := blk_lt KV.out
            have H := HA.out
            clear HA
            cases gk with
            | zero => simp [procT] at H
            | succ k1 =>
              simp only [procT] at H
              by_cases c : 1 < xs.length
              · rw [if_pos c] at H
                have c1 : decide ((1 : Int) < (xs.length : Int)) = true := decide_eq_true (by omega)
                by_cases c2 : (bothT xs).length < 1099511627776
                · rw [if_pos c2] at H
                  obtain ⟨o2, H2, H⟩ := Option.bind_eq_some_iff.mp H
                  have H2 := Aside0.mk H2
                  have H := Aside0.mk H
                  have LM2 := Aside0.mk c2
                  have hgne : go ≠ gv := fun e => Kd.R_ne HO.out KV.out (by decide) (by rw [← e]; rfl)
                  have hgown : some go ≠ (Value.slice Av xs.length cv).ownBlock := Kd.N_away HN.out (fun _ h => h.2)
                  have hyl : 0 < (xs.eraseIdx (lgT xs)).length := by rw [List.length_eraseIdx]; have := lgT_lt (show 0 < xs.length by omega); rw [if_pos this]; omega
                  have GN := Aside0.mk hgne
                  have GW := Aside0.mk hgown
                  have YL := Aside0.mk hyl
                  have hxl := Aside0.mk (show 0 < xs.length by omega)
                  clear c c2 hgne hgown hyl
                  go_wp2_with (first
                    | (go_at_fn 73; (with_reducible refine (lightest.calls w.heap.size gv (fun k_ => k_ ≠ gv ∧ k_ ≠ go) xs (.slice Av xs.length cv) w wr KV.out HN.out (fun _ h => h.1) GV.out hxl.out HB.out HB.out.size).mono ?_); rintro e wa ⟨Aa, ca, va, rfl, hla, hFa, hoa, hva, hNa, hBa, hsa, hka⟩; have OA := Aside0.mk hoa; have KA := Aside0.mk hva; have FA := Aside0.mk hFa; have LA := Aside0.mk hla; have NA := Aside0.mk hNa; have BA := Aside0.mk hBa; have SA := Aside0.mk hsa; have RA : Aside0 (Kd.R (Kd.int .i64) 3 wa w.heap.size (fun k_ => k_ = go) (.slice (some ⟨go, 0, none⟩) l0.length co) o) := ⟨Kd.R_step HO.out (fun k hk hlt => hka k hlt (by rw [hk]; exact GN.out) (by rw [hk]; exact GW.out))⟩; clear hla hFa hoa hva hNa hBa hsa hka hcv)
                    | (go_at_fn 73; (with_reducible refine (lightest.calls w.heap.size gv (fun k_ => k_ ≠ gv ∧ k_ ≠ go) (xs.eraseIdx (lgT xs)) va w _ (blk_alloc KA.out _) (Kd.N_alloc NA.out _) (fun _ h => h.1) GV.out YL.out (BA.out.alloc BA.out.size _) (by simp only [World.size_alloc]; have := BA.out.size; omega)).mono ?_); rintro e wb ⟨Ab, cb, vb, rfl, hlb, hFb, hob, hvb, hNb, hBb, hsb, hkb⟩; have OB := Aside0.mk hob; have KB := Aside0.mk hvb; have FB := Aside0.mk hFb; have LB := Aside0.mk hlb; have NB := Aside0.mk hNb; have BB := Aside0.mk hBb; have SB := Aside0.mk hsb; have RB : Aside0 (Kd.R (Kd.int .i64) 3 wb w.heap.size (fun k_ => k_ = go) (.slice (some ⟨go, 0, none⟩) l0.length co) o) := ⟨Kd.R_step (Kd.R_alloc RA.out _) (fun k hk hlt => hkb k hlt (by rw [hk]; exact GN.out) (by rw [hk, OA.out]; exact GW.out))⟩; have FAB := Aside0.mk (Kd.F_step (Kd.F_alloc FA.out _) (fun k hk hlt => hkb k hlt hk.1.1 (by rw [OA.out]; exact hk.2))); have K9 := Aside0.mk ((hkb wa.heap.size (by simp only [World.size_alloc]; omega) (by have := blk_lt KA.out; omega) (by rw [OA.out]; intro e9; have := Kd.N_lt HN.out _ e9.symm; have := SA.out; omega)).trans (blk_new wa _)); clear hlb hFb hob hvb hNb hBb hsb hkb))
                  have hsa := SA.out
                  have hsb := SB.out
                  simp only [World.size_alloc] at hsb
                  have hbs := HB.out.size
                  have LM3 : Aside0 (((rd_T91 xs (lgT xs)).f1 ++ (rd_T91 (xs.eraseIdx (lgT xs)) (lgT (xs.eraseIdx (lgT xs)))).f1).length < 1099511627776) := LM2
                  have SUM : sumT xs = wrap64 ((rd_T91 xs (lgT xs)).f0 + (rd_T91 (xs.eraseIdx (lgT xs)) (lgT (xs.eraseIdx (lgT xs)))).f0) := rfl
                  have BOTH : bothT xs = (rd_T91 xs (lgT xs)).f1 ++ (rd_T91 (xs.eraseIdx (lgT xs)) (lgT (xs.eraseIdx (lgT xs)))).f1 := rfl
                  have SUM := Aside0.mk SUM
                  have BOTH := Aside0.mk BOTH
                  generalize (rd_T91 xs (lgT xs)) = pa at *
                  generalize (rd_T91 (xs.eraseIdx (lgT xs)) (lgT (xs.eraseIdx (lgT xs)))) = pb at *
                  have K9c := Aside0.mk (blk_alloc K9.out (.cells #[.int .i64 pb.f0, .slice Ab pb.f1.length cb] 91 (0, 0)))
                  have K10c := Aside0.mk (blk_new wb (.cells #[.int .i64 pb.f0, .slice Ab pb.f1.length cb] 91 (0, 0)))
                  have KVc := Aside0.mk (blk_alloc KB.out (.cells #[.int .i64 pb.f0, .slice Ab pb.f1.length cb] 91 (0, 0)))
                  have NC := Aside0.mk (Kd.N_alloc NB.out (.cells #[.int .i64 pb.f0, .slice Ab pb.f1.length cb] 91 (0, 0)))
                  have RC := Aside0.mk (Kd.R_alloc RB.out (.cells #[.int .i64 pb.f0, .slice Ab pb.f1.length cb] 91 (0, 0)))
                  have FAc := Aside0.mk (Kd.F_alloc FAB.out (.cells #[.int .i64 pb.f0, .slice Ab pb.f1.length cb] 91 (0, 0)))
                  have FBc := Aside0.mk (Kd.F_alloc FB.out (.cells #[.int .i64 pb.f0, .slice Ab pb.f1.length cb] 91 (0, 0)))
                  have BC := Aside0.mk (BB.out.alloc (by omega) (.cells #[.int .i64 pb.f0, .slice Ab pb.f1.length cb] 91 (0, 0)))
                  have g9l : w.heap.size ≤ wa.heap.size := by omega
                  have g10l : w.heap.size ≤ wb.heap.size := by omega
                  clear KA KB NA NB RA FA FB FAB BA BB SA SB K9 hsa hsb OA OB
                  generalize wb.alloc (.cells #[.int .i64 pb.f0, .slice Ab pb.f1.length cb] 91 (0, 0)) = wc at *
                  generalize wa.heap.size = g9 at *
                  generalize wb.heap.size = g10 at *
                  have hz0 : wc.cell? ⟨g9, 0, none⟩ = some (.int .i64 pa.f0) := (blk_cell K9c.out 0).trans rfl
                  have hz1 : wc.cell? ⟨g9, 1, none⟩ = some (.slice Aa pa.f1.length ca) := (blk_cell K9c.out 1).trans rfl
                  have hz2 : wc.cell? ⟨g10, 0, none⟩ = some (.int .i64 pb.f0) := (blk_cell K10c.out 0).trans rfl
                  have hz3 : wc.cell? ⟨g10, 1, none⟩ = some (.slice Ab pb.f1.length cb) := (blk_cell K10c.out 1).trans rfl
                  have hy9 : g9 < wc.heap.size := blk_lt K9c.out
                  have hy10 : g10 < wc.heap.size := blk_lt K10c.out
                  obtain ⟨syms, hsy⟩ : ∃ syms, syms = pa.f1 ++ pb.f1 := ⟨_, rfl⟩
                  have SY := Aside0.mk hsy
                  clear hsy
                  have hS : ∀ W, Below wc.heap.size wc W → W.cell? ⟨g9, 0, none⟩ = some (.int .i64 pa.f0) ∧ W.cell? ⟨g9, 1, none⟩ = some (.slice Aa pa.f1.length ca) ∧ W.cell? ⟨g10, 0, none⟩ = some (.int .i64 pb.f0) ∧ W.cell? ⟨g10, 1, none⟩ = some (.slice Ab pb.f1.length cb) := fun W hb => ⟨(hb.cell (p := ⟨g9, 0, none⟩) hy9).trans hz0, (hb.cell (p := ⟨g9, 1, none⟩) hy9).trans hz1, (hb.cell (p := ⟨g10, 0, none⟩) hy10).trans hz2, (hb.cell (p := ⟨g10, 1, none⟩) hy10).trans hz3⟩
                  refine start_ (n := 14) (S := fun w' => w'.cell? ⟨g9, 0, none⟩ = some (.int .i64 pa.f0) ∧ w'.cell? ⟨g9, 1, none⟩ = some (.slice Aa pa.f1.length ca) ∧ w'.cell? ⟨g10, 0, none⟩ = some (.int .i64 pb.f0) ∧ w'.cell? ⟨g10, 1, none⟩ = some (.slice Ab pb.f1.length cb)) (ds := []) #[false, false, false, false, false, false, false, false, false, false, false, false, false, false] (by kernel_rfl) rfl rfl (hS _ (below_drew (Below.refl _ _))) (fun hHeld => ?_)
                  refine pure_ (i := 0) (N := some 43) (v := ?_) (a' := ?_) #[true, false, false, false, false, false, false, false, false, false, false, false, false, false] rfl rfl (by kernel_rfl) (fun _ _ _ h => h) (Or.inl ⟨by rfl, ?_⟩) ?_ ?_
                  rotate_left
                  · intro w'
                    go_simp
                    with_reducible rfl
                  rotate_left
                  · simp only [Act.put, List.setIfInBounds_toArray, List.set_cons_zero, List.set_cons_succ, i64_w, i32_w]
                    rfl
                  refine pure_ (i := 2) (N := some 45) (v := ?_) (a' := ?_) #[true, false, true, false, false, false, false, false, false, false, false, false, false, false] rfl rfl (by kernel_rfl) (fun _ _ _ h => h) (Or.inl ⟨by rfl, ?_⟩) ?_ ?_
                  rotate_left
                  · intro w'
                    go_simp
                    with_reducible rfl
                  rotate_left
                  · simp only [Act.put, List.setIfInBounds_toArray, List.set_cons_zero, List.set_cons_succ, i64_w, i32_w]
                    rfl
                  refine pure_ (i := 5) (N := some 48) (v := ?_) (a' := ?_) #[true, false, true, false, false, true, false, false, false, false, false, false, false, false] rfl rfl (by kernel_rfl) (fun _ _ _ h => h) (Or.inl ⟨by rfl, ?_⟩) ?_ ?_
                  rotate_left
                  · intro w'
                    go_simp
                    with_reducible rfl
                  rotate_left
                  · simp only [Act.put, List.setIfInBounds_toArray, List.set_cons_zero, List.set_cons_succ, i64_w, i32_w]
                    rfl
                  refine pure_ (i := 7) (N := some 50) (v := ?_) (a' := ?_) #[true, false, true, false, false, true, false, true, false, false, false, false, false, false] rfl rfl (by kernel_rfl) (fun _ _ _ h => h) (Or.inl ⟨by rfl, ?_⟩) ?_ ?_
                  rotate_left
                  · intro w'
                    go_simp
                    with_reducible rfl
                  rotate_left
                  · simp only [Act.put, List.setIfInBounds_toArray, List.set_cons_zero, List.set_cons_succ, i64_w, i32_w]
                    rfl
                  refine take_ (i := 1) (N := some 44) (v := ?_) (a' := ?_) #[true, true, true, false, false, true, false, true, false, false, false, false, false, false] rfl rfl (by kernel_rfl) (fun _ _ _ h => h) (Or.inl ⟨by rfl, ?_⟩) hHeld ?_ ?_
                  rotate_left
                  · rintro w' ⟨s0, s1, s2, s3⟩
                    go_simp
                    with_reducible rfl
                  rotate_left
                  · simp only [Act.put, List.setIfInBounds_toArray, List.set_cons_zero, List.set_cons_succ, i64_w, i32_w]
                    rfl
                  refine take_ (i := 3) (N := some 46) (v := ?_) (a' := ?_) #[true, true, true, true, false, true, false, true, false, false, false, false, false, false] rfl rfl (by kernel_rfl) (fun _ _ _ h => h) (Or.inl ⟨by rfl, ?_⟩) hHeld ?_ ?_
                  rotate_left
                  · rintro w' ⟨s0, s1, s2, s3⟩
                    go_simp
                    with_reducible rfl
                  rotate_left
                  · simp only [Act.put, List.setIfInBounds_toArray, List.set_cons_zero, List.set_cons_succ, i64_w, i32_w]
                    rfl
                  refine take_ (i := 6) (N := some 49) (v := ?_) (a' := ?_) #[true, true, true, true, false, true, true, true, false, false, false, false, false, false] rfl rfl (by kernel_rfl) (fun _ _ _ h => h) (Or.inl ⟨by rfl, ?_⟩) hHeld ?_ ?_
                  rotate_left
                  · rintro w' ⟨s0, s1, s2, s3⟩
                    go_simp
                    with_reducible rfl
                  rotate_left
                  · simp only [Act.put, List.setIfInBounds_toArray, List.set_cons_zero, List.set_cons_succ, i64_w, i32_w]
                    rfl
                  refine take_ (i := 8) (N := some 51) (v := ?_) (a' := ?_) #[true, true, true, true, false, true, true, true, true, false, false, false, false, false] rfl rfl (by kernel_rfl) (fun _ _ _ h => h) (Or.inl ⟨by rfl, ?_⟩) hHeld ?_ ?_
                  rotate_left
                  · rintro w' ⟨s0, s1, s2, s3⟩
                    go_simp
                    with_reducible rfl
                  rotate_left
                  · simp only [Act.put, List.setIfInBounds_toArray, List.set_cons_zero, List.set_cons_succ, i64_w, i32_w]
                    rfl
                  refine pure_ (i := 4) (N := some 47) (v := ?_) (a' := ?_) #[true, true, true, true, true, true, true, true, true, false, false, false, false, false] rfl rfl (by kernel_rfl) (fun _ _ _ h => h) (Or.inl ⟨by rfl, ?_⟩) ?_ ?_
                  rotate_left
                  · intro w'
                    go_simp
                    with_reducible rfl
                  rotate_left
                  · simp only [Act.put, List.setIfInBounds_toArray, List.set_cons_zero, List.set_cons_succ, i64_w, i32_w]
                    rfl
                  refine join_ (σ := Nat × Nat × Option Addr × Nat) 1 #[true, true, true, true, true, true, true, true, true, true, true, true, true, false] (fun s => [(52, .slice (some ⟨s.1, 0, none⟩) 2 2), (53, .slice s.2.2.1 syms.length s.2.2.2), (54, .agg #[.int .i64 (wrap64 (pa.f0 + pb.f0)), .slice s.2.2.1 syms.length s.2.2.2]), (11, .pointer (some ⟨s.2.1, 0, none⟩))]) (fun s w' => Below wc.heap.size wc w' ∧ wc.heap.size ≤ s.2.1 ∧ w'.heap[s.2.1]? = some (.cells #[.int .i64 0, .slice none 0 0] 91 (0, 0)) ∧ Kd.R (Kd.int .i64) 3 w' wc.heap.size (fun _ => True) (.slice s.2.2.1 syms.length s.2.2.2) syms) ?_ ?_
                  rotate_left
                  · intro hCont
                    skip
                    refine two_ (i := 9) (j := 12) (Ni := some 52) (Nj := some 11) #[true, true, true, true, true, true, true, true, true, true, false, false, false, false] #[true, true, true, true, true, true, true, true, true, false, false, false, true, false] rfl rfl rfl rfl (by kernel_rfl) (by decide) (by decide) (fun K hK => ?_) (fun K hK => ?_)
                    · skip
                      go_simp
                      refine hK.out _ _ (hS _ (by repeat (first | exact Below.refl _ _ | refine below_drew ?_ | refine below_alloc ?_ _))) (fun hHeld => ?_)
                      clear hK K
                      refine norm_ (a' := ?_) ?_ ?_
                      rotate_left
                      · rfl
                      refine two_ (i := 10) (j := 12) (Ni := some 53) (Nj := some 11) #[true, true, true, true, true, true, true, true, true, true, true, false, false, false] #[true, true, true, true, true, true, true, true, true, true, false, false, true, false] rfl rfl rfl rfl (by kernel_rfl) (by decide) (by decide) (fun K hK => ?_) (fun K hK => ?_)
                      · skip
                        refine goes_ Try.func75 (by kernel_rfl) rfl #[.slice (some ⟨wc.heap.size, 0, none⟩) 2 2] (by rfl) rfl rfl (by (try simp only [List.map_toArray, List.map_cons, List.map_nil]); first | done | rfl) ?_
                        refine (slices_ConcatI.two (some ⟨wc.heap.size, 0, none⟩) 2 pa.f1 pb.f1 _ ?cc LM3.out).mono ?_
                        (case cc => first | exact Kd.C_drew (C_twoI rfl LA.out (Kd.F_now FAc.out) LB.out (Kd.F_now FBc.out)) | exact Kd.C_drew (Kd.C_alloc (C_twoI rfl LA.out (Kd.F_now FAc.out) LB.out (Kd.F_now FBc.out)) _) | exact Kd.C_drew (C_twoI (by simp only [World.size_alloc]) LA.out (Kd.C_alloc (Kd.F_now FAc.out) _) LB.out (Kd.C_alloc (Kd.F_now FBc.out) _)))
                        rintro e wd ⟨vd, rfl, ho, hb⟩
                        rw [← SY.out] at ho
                        obtain ⟨Ad, cd, ed⟩ := Kd.R_slice ho
                        subst ed
                        have BD : Aside0 (Below wc.heap.size wc wd) := ⟨below_then (by repeat (first | exact Below.refl _ _ | refine below_drew ?_ | refine below_alloc ?_ _)) (by simp only [World.size_drew, World.size_alloc]; omega) hb⟩
                        have OD : Aside0 (Kd.R (Kd.int .i64) 3 wd wc.heap.size (fun _ => True) (.slice Ad syms.length cd) syms) := ⟨Kd.R_lower ho (by simp only [World.size_drew, World.size_alloc]; omega)⟩
                        clear ho hb
                        refine ⟨_, rfl, ?_⟩
                        refine hK.out _ _ (hS _ BD.out) (fun hHeld => ?_)
                        clear hK K
                        refine norm_ (a' := ?_) ?_ ?_
                        rotate_left
                        · show Act.put _ (some 53) _ = _
                          simp only [Act.put, List.setIfInBounds_toArray, List.set_cons_zero, List.set_cons_succ, i64_w, i32_w]
                          rfl
                        refine pure_ (i := 11) (N := some 54) (v := ?_) (a' := ?_) #[true, true, true, true, true, true, true, true, true, true, true, true, false, false] rfl rfl (by kernel_rfl) (fun _ _ _ h => h) (Or.inl ⟨by rfl, ?_⟩) ?_ ?_
                        rotate_left
                        · intro w'
                          go_simp
                          with_reducible rfl
                        rotate_left
                        · simp only [Act.put, List.setIfInBounds_toArray, List.set_cons_zero, List.set_cons_succ, i64_w, i32_w]
                          rfl
                        refine one_ (i := 12) (N := some 11) #[true, true, true, true, true, true, true, true, true, true, true, true, true, false] rfl rfl (by kernel_rfl) (by decide) (fun K hK => ?_)
                        go_simp
                        refine hK.out _ _ (hS _ (by refine (BD.out).alloc BD.out.size _)) (fun hHeld => ?_)
                        clear hK K
                        refine norm_ (a' := ?_) ?_ ?_
                        rotate_left
                        · rfl
                        exact norm_ (by first | (simp only [putAll, Act.put, List.setIfInBounds_toArray, List.set_cons_zero, List.set_cons_succ]; done) | (simp only [putAll, Act.put, List.setIfInBounds_toArray, List.set_cons_zero, List.set_cons_succ]; rfl)) (hCont ⟨wc.heap.size, wd.heap.size, Ad, cd⟩ _ ⟨BD.out.alloc BD.out.size _, BD.out.size, blk_new wd _, Kd.R_alloc OD.out _⟩)
                      · skip
                        go_simp
                        refine hK.out _ _ (hS _ (by repeat (first | exact Below.refl _ _ | refine below_drew ?_ | refine below_alloc ?_ _))) (fun hHeld => ?_)
                        clear hK K
                        refine norm_ (a' := ?_) ?_ ?_
                        rotate_left
                        · rfl
                        refine one_ (i := 10) (N := some 53) #[true, true, true, true, true, true, true, true, true, true, true, false, true, false] rfl rfl (by kernel_rfl) (by decide) (fun K hK => ?_)
                        refine goes_ Try.func75 (by kernel_rfl) rfl #[.slice (some ⟨wc.heap.size, 0, none⟩) 2 2] (by rfl) rfl rfl (by (try simp only [List.map_toArray, List.map_cons, List.map_nil]); first | done | rfl) ?_
                        refine (slices_ConcatI.two (some ⟨wc.heap.size, 0, none⟩) 2 pa.f1 pb.f1 _ ?cc LM3.out).mono ?_
                        (case cc => first | exact Kd.C_drew (C_twoI rfl LA.out (Kd.F_now FAc.out) LB.out (Kd.F_now FBc.out)) | exact Kd.C_drew (Kd.C_alloc (C_twoI rfl LA.out (Kd.F_now FAc.out) LB.out (Kd.F_now FBc.out)) _) | exact Kd.C_drew (C_twoI (by simp only [World.size_alloc]) LA.out (Kd.C_alloc (Kd.F_now FAc.out) _) LB.out (Kd.C_alloc (Kd.F_now FBc.out) _)))
                        rintro e wd ⟨vd, rfl, ho, hb⟩
                        rw [← SY.out] at ho
                        obtain ⟨Ad, cd, ed⟩ := Kd.R_slice ho
                        subst ed
                        have BD : Aside0 (Below wc.heap.size wc wd) := ⟨below_then (by repeat (first | exact Below.refl _ _ | refine below_drew ?_ | refine below_alloc ?_ _)) (by simp only [World.size_drew, World.size_alloc]; omega) hb⟩
                        have OD : Aside0 (Kd.R (Kd.int .i64) 3 wd wc.heap.size (fun _ => True) (.slice Ad syms.length cd) syms) := ⟨Kd.R_lower ho (by simp only [World.size_drew, World.size_alloc]; omega)⟩
                        have K11 := Aside0.mk (blk_below (by first | exact blk_drew (blk_new' _ (wc.heap.size + 1) (by simp) _) | exact blk_new' _ (wc.heap.size + 1) (by simp) _) hb)
                        clear ho hb
                        refine ⟨_, rfl, ?_⟩
                        refine hK.out _ _ (hS _ BD.out) (fun hHeld => ?_)
                        clear hK K
                        refine norm_ (a' := ?_) ?_ ?_
                        rotate_left
                        · show Act.put _ (some 53) _ = _
                          simp only [Act.put, List.setIfInBounds_toArray, List.set_cons_zero, List.set_cons_succ, i64_w, i32_w]
                          rfl
                        refine pure_ (i := 11) (N := some 54) (v := ?_) (a' := ?_) #[true, true, true, true, true, true, true, true, true, true, true, true, true, false] rfl rfl (by kernel_rfl) (fun _ _ _ h => h) (Or.inl ⟨by rfl, ?_⟩) ?_ ?_
                        rotate_left
                        · intro w'
                          go_simp
                          with_reducible rfl
                        rotate_left
                        · simp only [Act.put, List.setIfInBounds_toArray, List.set_cons_zero, List.set_cons_succ, i64_w, i32_w]
                          rfl
                        exact norm_ (by first | (simp only [putAll, Act.put, List.setIfInBounds_toArray, List.set_cons_zero, List.set_cons_succ]; done) | (simp only [putAll, Act.put, List.setIfInBounds_toArray, List.set_cons_zero, List.set_cons_succ]; rfl)) (hCont ⟨wc.heap.size, wc.heap.size + 1, Ad, cd⟩ _ ⟨BD.out, by show wc.heap.size ≤ wc.heap.size + 1; omega, K11.out, OD.out⟩)
                    · skip
                      go_simp
                      refine hK.out _ _ (hS _ (by repeat (first | exact Below.refl _ _ | refine below_drew ?_ | refine below_alloc ?_ _))) (fun hHeld => ?_)
                      clear hK K
                      refine norm_ (a' := ?_) ?_ ?_
                      rotate_left
                      · rfl
                      refine one_ (i := 9) (N := some 52) #[true, true, true, true, true, true, true, true, true, true, false, false, true, false] rfl rfl (by kernel_rfl) (by decide) (fun K hK => ?_)
                      go_simp
                      refine hK.out _ _ (hS _ (by repeat (first | exact Below.refl _ _ | refine below_drew ?_ | refine below_alloc ?_ _))) (fun hHeld => ?_)
                      clear hK K
                      refine norm_ (a' := ?_) ?_ ?_
                      rotate_left
                      · rfl
                      refine one_ (i := 10) (N := some 53) #[true, true, true, true, true, true, true, true, true, true, true, false, true, false] rfl rfl (by kernel_rfl) (by decide) (fun K hK => ?_)
                      refine goes_ Try.func75 (by kernel_rfl) rfl #[.slice (some ⟨wc.heap.size + 1, 0, none⟩) 2 2] (by rfl) rfl rfl (by (try simp only [List.map_toArray, List.map_cons, List.map_nil]); first | done | rfl) ?_
                      refine (slices_ConcatI.two (some ⟨wc.heap.size + 1, 0, none⟩) 2 pa.f1 pb.f1 _ ?cc LM3.out).mono ?_
                      (case cc => first | exact Kd.C_drew (C_twoI rfl LA.out (Kd.F_now FAc.out) LB.out (Kd.F_now FBc.out)) | exact Kd.C_drew (Kd.C_alloc (C_twoI rfl LA.out (Kd.F_now FAc.out) LB.out (Kd.F_now FBc.out)) _) | exact Kd.C_drew (C_twoI (by simp only [World.size_alloc]) LA.out (Kd.C_alloc (Kd.F_now FAc.out) _) LB.out (Kd.C_alloc (Kd.F_now FBc.out) _)))
                      rintro e wd ⟨vd, rfl, ho, hb⟩
                      rw [← SY.out] at ho
                      obtain ⟨Ad, cd, ed⟩ := Kd.R_slice ho
                      subst ed
                      have BD : Aside0 (Below wc.heap.size wc wd) := ⟨below_then (by repeat (first | exact Below.refl _ _ | refine below_drew ?_ | refine below_alloc ?_ _)) (by simp only [World.size_drew, World.size_alloc]; omega) hb⟩
                      have OD : Aside0 (Kd.R (Kd.int .i64) 3 wd wc.heap.size (fun _ => True) (.slice Ad syms.length cd) syms) := ⟨Kd.R_lower ho (by simp only [World.size_drew, World.size_alloc]; omega)⟩
                      have K11 := Aside0.mk (blk_below (by first | exact blk_drew (blk_alloc (blk_new _ _) _) | exact blk_alloc (blk_new _ _) _) hb)
                      clear ho hb
                      refine ⟨_, rfl, ?_⟩
                      refine hK.out _ _ (hS _ BD.out) (fun hHeld => ?_)
                      clear hK K
                      refine norm_ (a' := ?_) ?_ ?_
                      rotate_left
                      · show Act.put _ (some 53) _ = _
                        simp only [Act.put, List.setIfInBounds_toArray, List.set_cons_zero, List.set_cons_succ, i64_w, i32_w]
                        rfl
                      refine pure_ (i := 11) (N := some 54) (v := ?_) (a' := ?_) #[true, true, true, true, true, true, true, true, true, true, true, true, true, false] rfl rfl (by kernel_rfl) (fun _ _ _ h => h) (Or.inl ⟨by rfl, ?_⟩) ?_ ?_
                      rotate_left
                      · intro w'
                        go_simp
                        with_reducible rfl
                      rotate_left
                      · simp only [Act.put, List.setIfInBounds_toArray, List.set_cons_zero, List.set_cons_succ, i64_w, i32_w]
                        rfl
                      exact norm_ (by first | (simp only [putAll, Act.put, List.setIfInBounds_toArray, List.set_cons_zero, List.set_cons_succ]; done) | (simp only [putAll, Act.put, List.setIfInBounds_toArray, List.set_cons_zero, List.set_cons_succ]; rfl)) (hCont ⟨wc.heap.size + 1, wc.heap.size, Ad, cd⟩ _ ⟨BD.out, Nat.le_refl _, K11.out, OD.out⟩)
                  rintro ⟨b52, g11, Ad, cd⟩ wd ⟨hBD, hG11, hK11, hOD⟩
                  dsimp only at hG11 hK11 hOD
                  refine norm_ (a' := ?_) ?_ ?_
                  rotate_left
                  · simp only [putAll, Act.put, List.setIfInBounds_toArray, List.set_cons_zero, List.set_cons_succ]
                    rfl
                  have BD := Aside0.mk hBD
                  have G11 := Aside0.mk hG11
                  have K11 := Aside0.mk hK11
                  have OD := Aside0.mk hOD
                  clear hBD hG11 hK11 hOD
                  have hs0 := (blk_cell K11.out 0).trans rfl
                  have hs1 := (blk_cell K11.out 1).trans rfl
                  have hs2 := blk_frozen K11.out 0
                  have hs3 := blk_frozen K11.out 1
                  refine one_ (i := 13) (N := none) #[true, true, true, true, true, true, true, true, true, true, true, true, true, true] rfl rfl (by kernel_rfl) (by decide) (fun K hK => ?_)
                  go_simp
                  refine hK.out _ _ (hS _ ((BD.out.setCell G11.out _).setCell G11.out _)) (fun hHeld => ?_)
                  clear hK K
                  refine norm_ (a' := ?_) ?_ ?_
                  rotate_left
                  · rfl
                  refine done_ (by kernel_rfl) ?_
                  obtain ⟨we, hwe⟩ : ∃ we, (wd.setCell ⟨g11, 0, none⟩ (.int .i64 (wrap64 (pa.f0 + pb.f0)))).setCell ⟨g11, 1, none⟩ (.slice Ad syms.length cd) = we := ⟨_, rfl⟩
                  have KE : Aside0 (we.heap[g11]? = some (.cells #[.int .i64 (wrap64 (pa.f0 + pb.f0)), .slice Ad syms.length cd] 91 (0, 0))) := ⟨by rw [← hwe]; refine blk_put (cs := #[.int .i64 (wrap64 (pa.f0 + pb.f0)), .slice none 0 0]) ?_ 1 _ rfl; exact blk_put (cs := #[.int .i64 0, .slice none 0 0]) K11.out 0 _ rfl⟩
                  have BE : Aside0 (Below wc.heap.size wc we) := ⟨by rw [← hwe]; exact (BD.out.setCell G11.out _).setCell G11.out _⟩
                  have OE : Aside0 (Kd.R (Kd.int .i64) 3 we wc.heap.size (fun _ => True) (.slice Ad syms.length cd) syms) := ⟨by rw [← hwe]; exact Kd.R_set (Kd.R_set OD.out K11.out (by decide) 0 _) (blk_put (cs := #[.int .i64 0, .slice none 0 0]) K11.out 0 _ rfl) (by decide) 1 _⟩
                  have KVe := Aside0.mk (blk_below KVc.out BE.out)
                  have NE := Aside0.mk (Kd.N_below NC.out BE.out)
                  have RE := Aside0.mk (Kd.R_below RC.out BE.out)
                  have hcs := BC.out.size
                  have BWe := Aside0.mk (below_then BC.out hcs BE.out)
                  have GOC : Aside0 (go < wc.heap.size) := ⟨Kd.R_lt RC.out go rfl⟩
                  have GVC : Aside0 (gv < wc.heap.size) := ⟨blk_lt KVc.out⟩
                  have GVB : Aside0 (∀ k, vb.ownBlock = some k → k < wc.heap.size) := ⟨Kd.N_lt NC.out⟩
                  rw [hwe]
                  have he1 : we.cell? ⟨g11, 1, none⟩ = some (.slice Ad syms.length cd) := (blk_cell KE.out 1).trans rfl
                  clear hs0 hs1 hs2 hs3 hz0 hz1 hz2 hz3 hS hHeld hwe BD OD K11 K9c K10c KVc NC RC FAc FBc hy9 hy10 g9l g10l
                  have OL2 := OL.out
                  have H2' : bumpO syms o = some o2 := by rw [SY.out, ← BOTH.out]; exact H2.out
                  have hol : o.length = l0.length := OL.out
                  have HBU := Aside0.mk H2'
                  have hsm := Kd.C_max (Kd.R_reads' OE.out).2.2
                  clear H2' OL2
                  go_wp2
                  go_loopg [58] syms.length (fun gg s58 wr => ∃ (j : Nat) (o' : List Int), j ≤ syms.length ∧ syms.length - j ≤ gg ∧ s58 = .int .i64 j ∧ Aside0 (o'.length = l0.length) ∧ Aside0 (bumpO (syms.drop j) o' = some o2) ∧ Aside0 (Kd.R (Kd.int .i64) 3 wr w.heap.size (fun k_ => k_ = go) (.slice (some ⟨go, 0, none⟩) l0.length co) o') ∧ Aside0 (we.heap.size ≤ wr.heap.size ∧ ∀ k, k ≠ go → wr.heap[k]? = we.heap[k]?) ∧ Aside0 (Below w.heap.size w wr))
                  case atStart => exact ⟨0, o, Nat.zero_le _, by omega, rfl, ⟨hol⟩, HBU, RE, ⟨Nat.le_refl _, fun _ _ => rfl⟩, BWe⟩
                  case round =>
                    clear HBU RE BWe hol he1
                    obtain ⟨j, o', hj, hg, rfl, OL', HBU, RR, HK, BWr⟩ := hrel
                    have OR : Aside0 (Kd.R (Kd.int .i64) 3 wr wc.heap.size (fun k => True ∧ wc.heap.size ≤ k ∧ k < we.heap.size ∧ ∃ q, q ∈ 3 :: (Kd.int .i64).E ∧ ∃ cells, we.heap[k]? = some (.cells cells q (0, 0))) (.slice Ad syms.length cd) syms) := ⟨Kd.R_step (Kd.R_bound OE.out) (fun k hk _ => HK.out.2 k (by have := hk.2.1; have := GOC.out; omega))⟩
                    by_cases hlt : j < syms.length
                    · have hlt' : (j : Int) < (syms.length : Int) := by omega
                      have hj0 : (0 : Int) ≤ (j : Int) := by omega
                      obtain ⟨ad, ea, hx0⟩ := Kd.at_int (Kd.R_reads' OR.out).2.2 (j : Int) hj0 hlt'
                      cases ea
                      simp only [Int.toNat_natCast] at hx0
                      have hb := HBU.out
                      have ey : syms.drop j = rd syms (j : Int) :: syms.drop (j + 1) := by
                        rw [List.drop_eq_getElem_cons hlt]
                        congr 1
                        show _ = syms.getD j _
                        rw [List.getD_eq_getElem?_getD, List.getElem?_eq_getElem hlt]; rfl
                      rw [ey] at hb
                      simp only [bumpO] at hb
                      generalize rd syms (j : Int) = y at hx0 hb
                      clear ey
                      by_cases y0 : 0 ≤ y
                      · rw [if_pos y0] at hb
                        by_cases y1 : y < (o'.length : Int)
                        · rw [if_pos y1] at hb
                          have HB2 := Aside0.mk hb
                          have y2 : y < (l0.length : Int) := by rw [← OL'.out]; exact y1
                          have y3 := eq_true y0
                          have y4 := eq_true y2
                          obtain ⟨ad2, ea2, hx2⟩ := Kd.at_int (Kd.R_reads' RR.out).2.2 y y0 y1
                          cases ea2
                          have hx3 : wr.cell? ⟨go, y.toNat, none⟩ = some (.int .i64 (rd o' y)) := by
                            have h5 := hx2; rw [add_at, Nat.zero_add] at h5; exact h5
                          obtain ⟨cur, hcur⟩ := Kd.R_typed RR.out go rfl
                          have hx4 := blk_frozen hcur y.toNat
                          have hww : wrap64 ((j : Int) + 1) = ((j + 1 : Nat) : Int) := by unfold wrap64; omega
                          clear hb hx2 y1
                          go_wp2
                          go_roundg (syms.length - (j + 1))
                          case measure => exact meas_ hlt hg
                          case rel => exact ⟨j + 1, o'.set y.toNat (wrap64 (rd o' y + 1)), hlt, Nat.le_refl _, by rw [← hww], ⟨by rw [List.length_set]; exact OL'.out⟩, HB2, ⟨Kd.R_putn RR.out y (wrap64 (rd o' y + 1))⟩, ⟨by simp only [World.setCell, Array.size_modify]; exact HK.out.1, fun k hk => (Below.heap_setCell _ _ _ k (by show k ≠ go; exact hk)).trans (HK.out.2 k hk)⟩, ⟨BWr.out.setCell (by show w.heap.size ≤ go; exact GO.out) _⟩⟩
                        · rw [if_neg y1] at hb; exact absurd hb (by simp)
                      · rw [if_neg y0] at hb; exact absurd hb (by simp)
                    · have hlt' : ¬ (j : Int) < (syms.length : Int) := by omega
                      obtain rfl : j = syms.length := by omega
                      have ho' : o' = o2 := by
                        have h5 := HBU.out
                        rw [List.drop_of_length_le (Nat.le_refl _)] at h5
                        simpa [bumpO] using h5
                      subst ho'
                      have KVr := Aside0.mk ((HK.out.2 gv GN.out.symm).trans KVe.out)
                      have hg11 : g11 ≠ go := by have := G11.out; have := GOC.out; omega
                      have KEr := Aside0.mk ((HK.out.2 g11 hg11).trans KE.out)
                      have NR := Aside0.mk (Kd.N_step NE.out (fun k hk _ => HK.out.2 k hk.2))
                      obtain ⟨zs, hzs⟩ : ∃ zs, zs = restT xs := ⟨_, rfl⟩
                      have hzl : zs.length + 1 ≤ l0.length := by
                        have h1 := lgT_lt hxl.out
                        have h2 := lgT_lt YL.out
                        have h3 := XL.out
                        have h4 : (xs.eraseIdx (lgT xs)).length = xs.length - 1 := by rw [List.length_eraseIdx, if_pos h1]
                        rw [hzs]
                        show ((xs.eraseIdx (lgT xs)).eraseIdx (lgT (xs.eraseIdx (lgT xs)))).length + 1 ≤ _
                        rw [List.length_eraseIdx, if_pos h2]
                        omega
                      have NR : Aside0 (k91.N 91 wr w.heap.size (fun k_ => k_ ≠ gv ∧ k_ ≠ go) vb zs) := ⟨by rw [hzs]; exact NR.out⟩
                      have ZL := Aside0.mk hzl
                      have ZS := Aside0.mk hzs
                      clear hzl hzs hlt hlt' hj hg
                      obtain ⟨Avb, cvb, evb⟩ := Kd.N_slice NR.out
                      subst evb
                      have hv0 : wr.cell? ⟨gv, 0, none⟩ = some (.slice Avb zs.length cvb) := (blk_cell KVr.out 0).trans rfl
                      have hv1 : wr.cell? ⟨g11, 0, none⟩ = some (.int .i64 (wrap64 (pa.f0 + pb.f0))) := (blk_cell KEr.out 0).trans rfl
                      have hv2 : wr.cell? ⟨g11, 1, none⟩ = some (.slice Ad syms.length cd) := (blk_cell KEr.out 1).trans rfl
                      go_wp2_with (first
                        | ((with_reducible refine gate_builtin (b := .append) (xs := #[.tmp 69, .tmp 71]) rfl ?_); at_builtin; refine Kd.N_append k91 (w0 := w) w.heap.size rfl (.tmp 69) (.tmp 71) 89 91 (.agg #[(.int .i64 0), (.slice none 0 0)]) 32 rfl Try.underlying89 info91 rfl (by decide) (by omega) (.slice Avb zs.length cvb) zs (⟨wrap64 (pa.f0 + pb.f0), syms⟩ : S91) [.int .i64 (wrap64 (pa.f0 + pb.f0)), .slice Ad syms.length cd] (fun k_ => k_ ≠ gv ∧ k_ ≠ go) (fun k_ => (k_ ≠ gv ∧ k_ ≠ go) ∧ some k_ ≠ (Value.slice Avb zs.length cvb).ownBlock) rfl rfl ?aP (fun _ hk => hk) ?aF ?aO ?aB ?aS ?aL ?_; (case aP => exact k91_mkF _ _ (⟨wrap64 (pa.f0 + pb.f0), syms⟩ : S91) (Kd.R_reads' OR.out).2.1 (Kd.F_mono (Kd.R_F OR.out) (fun k_ hk => ⟨⟨by have := GVC.out; have := hk.2.1; omega, by have := GOC.out; have := hk.2.1; omega⟩, fun e => by have := GVB.out k_ e.symm; have := hk.2.1; omega⟩))); (case aB => exact BWr.out); (case aF => exact (fun k_ hk => ⟨by have := blk_lt KVr.out; omega, by have := Kd.R_lt RR.out go rfl; omega⟩)); (case aO => exact NR.out); (case aS => exact BWr.out.size); (case aL => have := LM.out; have := ZL.out; omega); intro v2 w3 ho hb hg_ hat; obtain ⟨A2, c2, e2⟩ := Kd.N_slice ho; subst e2; have HN3 := Aside0.mk ho; have HB3 := Aside0.mk hb; have KV3 := Aside0.mk (blk_grown KVr.out hg_ (Kd.N_away NR.out (fun _ hk => hk.1))); have RR3 := Aside0.mk (Kd.R_step RR.out (fun k hk hlt => hg_.block k hlt (by rw [hk]; exact Kd.N_away NR.out (fun _ h => h.2)))); clear ho hb hg_ hat hv0 hv1 hv2; have hv0 := (blk_cell KV3.out 0).trans rfl; have hv3 := blk_frozen KV3.out 0))
                      go_roundg k1
                      case measure => exact Nat.lt_succ_self _
                      case rel =>
                        refine ⟨zs ++ [⟨wrap64 (pa.f0 + pb.f0), syms⟩], _, _, ⟨?_⟩, ⟨?_⟩, OL', ⟨blk_put (cs := #[.slice Avb zs.length cvb]) KV3.out 0 _ rfl⟩, ⟨?_⟩, ⟨Kd.R_far (p := ⟨gv, 0, none⟩) RR3.out (fun k hk => by rw [hk]; exact GN.out) _⟩, ⟨below_set HB3.out GV.out⟩⟩
                        · rw [ZS.out, SY.out, ← SUM.out, ← BOTH.out]; exact H.out
                        · rw [List.length_append]; exact ZL.out
                        · have h5 := Kd.N_far (p := ⟨gv, 0, none⟩) HN3.out (fun _ hk => hk.1) (.slice A2 (zs.length + 1) c2)
                          rw [List.length_append] at h5; exact h5
                · rw [if_neg c2] at H; exact absurd H (by simp)
              · rw [if_neg c] at H
                have c1 : decide ((1 : Int) < (xs.length : Int)) = false := decide_eq_false (by omega)
                simp only [Option.some.injEq] at H
                subst H
                have hmax := slices_Max_int_int.calls k (some ⟨go, 0, none⟩) co o m wr (Kd.R_reads' HO.out).2.2 (by rw [OL.out]; exact (Kd.R_reads' HO.out).2.1) A6.out
                rw [OL.out] at hmax
                have HM := Aside0.mk hmax
                clear hmax
                go_wp2_with (go_at_call 76; refine HM.out.mono ?_; rintro e w9 ⟨rfl, hb⟩; have HB9 := Aside0.mk hb; clear hb)
                go_ret2
                exact ⟨_, rfl, Kd.R_mono (Kd.R_below HO.out HB9.out) (fun _ _ => trivial), below_then HB.out HB.out.size HB9.out⟩
    · rw [if_neg hl] at h; exact absurd h (by simp)

end Go.Proofs.Ytobbhgghpjecjaa.PFnHuffman
