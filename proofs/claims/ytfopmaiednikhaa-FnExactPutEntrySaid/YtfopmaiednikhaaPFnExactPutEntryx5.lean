-- written by a program of this session (wip/tool)
import Derived.Test.YtfopmaiednikhaaPFnExactPutEntryx0
import Derived.Test.YtfopmaiednikhaaPFnExactPutEntryx3
import Derived.Test.YtfopmaiednikhaaPFnExactPutEntryx4
import Derived.Test.YtfopmaiednikhaaVOwn0
import Derived.Test.YtfopmaiednikhaaVOwnOpen
import Derived.WalkKit
import Derived.BigCall
import Derived.Lib.SliceRun
import Derived.Deep.RegionLaw
import Derived.Maps.OwnSet
import Derived.Maps.OwnOps
import Derived.Maps.Views
import Derived.Test.YtfopmaiednikhaaVWZeros
import Derived.Test.YtfopmaiednikhaaVWArr
import Derived.Test.YtfopmaiednikhaaVOwnShort
namespace Go.Proofs.Ytfopmaiednikhaa.PFnExactPutEntry
open Go.RowKit Go.Proofs.YtfopmaiednikhaaW.PrintWords Go.Proofs.YtfopmaiednikhaaW.PrintLast Go.Proofs.YtfopmaiednikhaaW.PrintMore Go.Shelf Go.Proofs.YtfopmaiednikhaaOwn
attribute [local go_sem] max2_int min2_int max_two min_two max_three min_three max_four min_four   -- for this text's walks alone
set_option linter.unusedVariables false
set_option linter.unusedSimpArgs false

/-! ### slices.Delete over entries, one at a time: function 71 -/
theorem run_clear_entry (w : World) (ty : TypeId) (g o c : Nat) (hc : ∀ j, j < 2 → (w.cell? ⟨g, o + j, none⟩).isSome = true) (hf : ∀ j, j < 2 → w.frozen? ⟨g, o + j, none⟩ = false) :
  (Builtin.clear_ #[26] ty #[.slice (some ⟨g, o, none⟩) 1 c]).run Try.prog w = .ok (.tuple #[]) (w.setCells g o [.string ⟨#[]⟩, .string ⟨#[]⟩]) := by
 have hst := run_storeCells_cells (P := Try.prog) g o [Value.string ⟨#[]⟩, Value.string ⟨#[]⟩] 0 w (by simpa using hc) (by simpa using hf) (by intro v hv; simp at hv; subst hv; rfl)
 simp only [Nat.add_zero] at hst
 have hv : ∀ w, (zeroValue 45).run Try.prog w = .ok (.agg #[.string ⟨#[]⟩, .string ⟨#[]⟩]) w := fun w => by kernel_rfl
 have hz : (Builtin.zeroCells (Value.agg #[.string ⟨#[]⟩, .string ⟨#[]⟩]).cells 1).toList = [Value.string ⟨#[]⟩, Value.string ⟨#[]⟩] := by kernel_rfl
 simp [Builtin.clear_, run_underlying Try.underlying26, hv, hz, hst]
/-- What a row looks like where entry i is taken out of it and the last place is made zero. -/
theorem erase_row {w w' : World} {base g cap i : Nat} {ok : Nat → Prop} {xs : List S45} {cur cur' : Array Value} (h : k45.R 45 w base ok (.slice (some ⟨g, 0, none⟩) xs.length cap) xs)
  (hg : w.heap[g]? = some (.cells cur 45 (0, 0))) (hg' : w'.heap[g]? = some (.cells cur' 45 (0, 0))) (hs : cur'.size = cur.size) (hi : i < xs.length)
  (hc : cur'.toList.take ((xs.length - 1) * 2) = (cur.toList.take (xs.length * 2)).take (i * 2) ++ (cur.toList.take (xs.length * 2)).drop ((i + 1) * 2)) :
  k45.R 45 w' base ok (.slice (some ⟨g, 0, none⟩) (xs.length - 1) cap) (xs.eraseIdx i) := by
 obtain ⟨h0, inner, ⟨h1, h2⟩, h3⟩ := h
 have he : xs.eraseIdx i = xs.take i ++ xs.drop (i + 1) := List.eraseIdx_eq_take_drop_succ xs i
 have hl : (xs.eraseIdx i).length = xs.length - 1 := by rw [List.length_eraseIdx]; simp [hi]
 rcases h2 with ⟨h2, _⟩ | ⟨g1, cap1, cur1, e1, hb, hh, hn, hm, hsz, ht⟩
 ·cases h2
 ·obtain ⟨rfl, rfl⟩ : g1 = g ∧ cap1 = cap := by
   simp only [Value.slice.injEq, Option.some.injEq, Addr.mk.injEq] at e1
   exact ⟨e1.1.1.symm, e1.2.2.symm⟩
  rw [hg] at hh
  obtain rfl : cur = cur1 := by injection hh with hh; injection hh
  refine ⟨h0, (cur.toList.take (xs.length * 2)).take (i * 2) ++ (cur.toList.take (xs.length * 2)).drop ((i + 1) * 2), ?_, ?_⟩
  ·rw [hl]
   rw [show k45.sz = 2 from rfl] at hsz ⊢
   refine ⟨?_, .inr ⟨g1, cap1, cur', rfl, hb, hg', by omega, hm, by rw [hs, hsz], hc⟩⟩
   have : xs.length * 2 ≤ cap1 * 2 := Nat.mul_le_mul_right _ hn
   simp only [List.length_append, List.length_take, List.length_drop, Array.length_toList, hsz]
   omega
  ·have hk : k45.sz = 2 := rfl
   rw [hk] at ht h3
   rw [ht, he]
   have hrr : ∀ (p : S45) c, k45.M w base (fun k => ok k ∧ some k ≠ (Value.slice (some ⟨g1, 0, none⟩) xs.length cap1).ownBlock) p c → k45.M w' base (fun k => ok k ∧ some k ≠ (Value.slice (some ⟨g1, 0, none⟩) (xs.length - 1) cap1).ownBlock) p c :=
    fun p c hp => by rw [k45_openM hp]; exact k45_mkM _ _ _ _
   exact Kd.reps_append ((Kd.reps_take h3 (by omega)).imp_ hrr) ((Kd.reps_drop h3).imp_ hrr)
set_option maxHeartbeats 4000000 in
set_option maxRecDepth 1000000 in
theorem slices_DeleteE.calls (base g cap i : Nat) (ok : Nat → Prop) (xs : List S45) (w : World) (h : k45.R 45 w base ok (.slice (some ⟨g, 0, none⟩) xs.length cap) xs) (hi : i < xs.length) :
  Calls Try.prog 71 #[.slice (some ⟨g, 0, none⟩) xs.length cap, .int .i64 i, .int .i64 ((i : Int) + 1)] w fun e w' => e = .returned (.slice (some ⟨g, 0, none⟩) (xs.length - 1) cap) ∧ k45.R 45 w' base ok (.slice (some ⟨g, 0, none⟩) (xs.length - 1) cap) (xs.eraseIdx i) ∧ w.grownBy w' (some g) := by
 obtain ⟨cur, hcur⟩ : ∃ cur, w.heap[g]? = some (.cells cur 45 (0, 0)) := Kd.R_typed h g rfl
 obtain ⟨hcap, hmax, hsz⟩ : xs.length ≤ cap ∧ cap ≤ 9223372036854775807 ∧ cur.size = cap * 2 := by
  obtain ⟨_, inner, ⟨_, h2⟩, _⟩ := h
  rcases h2 with ⟨h2, _⟩ | ⟨g1, cap1, cur1, e1, hb, hh, hn, hm, hsz, ht⟩
  ·cases h2
  ·simp only [Value.slice.injEq, Option.some.injEq, Addr.mk.injEq] at e1
   obtain ⟨⟨rfl, _⟩, _, rfl⟩ := e1
   rw [hcur] at hh
   obtain rfl : cur = cur1 := by injection hh with hh; injection hh
   exact ⟨hn, hm, hsz⟩
 obtain ⟨i0, hi0, hii⟩ := Option.map_eq_some_iff.1 info45
 simp only [Prod.mk.injEq] at hii
 obtain ⟨_, hz1, _⟩ := hii
 obtain ⟨n, hn⟩ : ∃ n, n = xs.length := ⟨_, rfl⟩
 obtain ⟨news, hnews⟩ : ∃ news, news = (cur.toList.take (n * 2)).drop ((i + 1) * 2) := ⟨_, rfl⟩
 have hlen : news.length = (n - (i + 1)) * 2 := by
  rw [hnews]; simp only [List.length_drop, List.length_take, Array.length_toList, hsz]; omega
 have hcell : ∀ j, j < cap * 2 → ∀ q, (w.drewN q).cell? ⟨g, j, none⟩ = some (cur[j]!) := by
  intro j hj q
  show w.cell? _ = _
  rw [blk_cell hcur j, getElem!_pos cur j (by omega), Array.getElem?_eq_getElem (by omega)]
 have hfz : ∀ j, w.frozen? ⟨g, j, none⟩ = false := fun j => blk_frozen hcur j
 obtain ⟨A, hA, hsrc⟩ : ∃ A : Addr, (if cap = i + 1 then some (⟨g, 0, none⟩ : Addr) else some ⟨g, (i + 1) * 2, none⟩) = some A ∧ Hid (∀ t u, news[t]? = some u → w.drew.cell? (A.add t) = some u) := by
  by_cases hc : cap = i + 1
  ·refine ⟨⟨g, 0, none⟩, by simp [hc], fun t u hu => ?_⟩
   have h0 : news.length = 0 := by rw [hlen]; omega
   rw [List.length_eq_zero_iff.1 h0] at hu
   simp at hu
  ·refine ⟨⟨g, (i + 1) * 2, none⟩, by simp [hc], fun t u hu => ?_⟩
   rw [add_at]
   show w.cell? _ = _
   rw [blk_cell hcur]
   rw [hnews, List.getElem?_drop, List.getElem?_take] at hu
   split at hu
   ·rw [← Array.getElem?_toList]; exact hu
   ·cases hu
 have s1 : Hid (news.length = (n - (i + 1)) * 2) := hlen
 have s2 : Hid (∀ u ∈ news, u.oneCell' = true) := by
  intro u hu
  obtain ⟨_, inner, ⟨_, h2⟩, h3⟩ := h
  rcases h2 with ⟨h2, _⟩ | ⟨g1, cap1, cur1, e1, hb, hh, hn1, hm, hsz, ht⟩
  ·cases h2
  ·simp only [Value.slice.injEq, Option.some.injEq, Addr.mk.injEq] at e1
   obtain ⟨⟨rfl, _⟩, _, rfl⟩ := e1
   rw [hcur] at hh
   obtain rfl : cur = cur1 := by injection hh with hh; injection hh
   refine Kd.reps_one h3 (by decide) (fun p c hp => ?_) u ?_
   ·rw [k45_openM hp]; intro v hv; simp at hv; rcases hv with rfl | rfl <;> rfl
   ·rw [← ht]
    rw [hnews, hn] at hu
    exact List.mem_of_mem_drop hu
 have s3 : Hid (∀ t, t < news.length → (w.drew.cell? ⟨g, 0 + i * 2 + t, none⟩).isSome = true ∧ w.drew.frozen? ⟨g, 0 + i * 2 + t, none⟩ = false) := by
  intro t ht
  rw [hlen] at ht
  refine ⟨?_, hfz _⟩
  rw [show w.drew = w.drewN 1 from rfl, hcell _ (by omega)]; rfl
 obtain ⟨W1, hW1⟩ : ∃ W1, W1 = w.drew.setCells g (0 + i * 2) news := ⟨_, rfl⟩
 obtain ⟨cur1, hc1, hs1, ht1⟩ := setCells_row news (0 + i * 2) w.drew cur hcur (by omega)
 rw [← hW1] at hc1
 have hcl : ∀ ty, (Builtin.clear_ #[26] ty #[.slice (some ⟨g, (i + (n - (i + 1))) * 2, none⟩) (n - (i + (n - (i + 1)))) (cap - (i + (n - (i + 1))))]).run Try.prog W1 = .ok (.tuple #[]) (W1.setCells g ((i + (n - (i + 1))) * 2) [.string ⟨#[]⟩, .string ⟨#[]⟩]) := by
  intro ty
  rw [show n - (i + (n - (i + 1))) = 1 by omega]
  refine run_clear_entry W1 ty g _ _ (fun j hj => ?_) (fun j hj => blk_frozen hc1 _)
  rw [blk_cell hc1, Array.getElem?_eq_getElem (by omega)]; rfl
 obtain ⟨cur2, hc2, hs2, ht2⟩ := setCells_row [.string ⟨#[]⟩, .string ⟨#[]⟩] ((i + (n - (i + 1))) * 2) W1 cur1 hc1 (by simp; omega)
 have hres := erase_row (i := i) h hcur hc2 (by rw [hs2, hs1]) hi (by
  rw [ht2, ht1, ← hn, hnews]
  have e1 : (n - 1) * 2 = (i + (n - (i + 1))) * 2 := by omega
  rw [e1, List.append_assoc, List.take_left' (by simp only [List.length_take, List.length_append, List.length_drop, Array.length_toList, hsz]; omega)]
  rw [List.take_append_of_le_length (by simp only [List.length_take, List.length_append, List.length_drop, Array.length_toList, hsz]; omega)]
  rw [List.take_of_length_le (by simp only [List.length_take, List.length_append, List.length_drop, Array.length_toList, hsz]; omega), List.take_take, Nat.min_eq_left (by omega), Nat.zero_add])
 have hgrow : w.grownBy (W1.setCells g ((i + (n - (i + 1))) * 2) [.string ⟨#[]⟩, .string ⟨#[]⟩]) (some g) := by
  obtain ⟨a1, a2, a3, a4⟩ := setCells_same g news (0 + i * 2) w.drew
  obtain ⟨b1, b2, b3, b4⟩ := setCells_same g [.string ⟨#[]⟩, .string ⟨#[]⟩] ((i + (n - (i + 1))) * 2) W1
  rw [← hW1] at a1 a2 a3 a4
  refine ⟨b1.trans a1, b2.trans a2, b3.trans a3, by rw [b4, a4]; exact Nat.le_refl _, fun k _ hk => ?_⟩
  have hk' : k ≠ g := fun e => hk (by rw [e])
  rw [setCells_far _ _ k hk', hW1, setCells_far _ _ k hk']; rfl
 have HRES := Aside0.mk hres
 have HGROW := Aside0.mk hgrow
 have hW : Hid (W1 = w.drew.setCells g (0 + i * 2) news) := hW1
 have HN := Aside0.mk hn
 have hic : i ≤ cap := by omega
 have hjc : i + 1 ≤ cap := by omega
 have hin : i + 1 ≤ n := by omega
 have hnc : n ≤ cap := by omega
 have u26 : ∀ w, Sem.run Try.prog (underlying 26) w = .ok (TypeDesc.slice 45) w := run_underlying Try.underlying26
 rw [← hn] at hi ⊢
 clear hW1 hcell hfz hlen hnews hres hgrow hc1 hs1 ht1 hc2 hs2 ht2 hcur hsz h hn hcap
 have hk1 : (0 ≤ (i : Int) + 1) = True := eq_true (by omega)
 have hk2 : ((i : Int) + 1 ≤ (n : Int)) = True := eq_true (by omega)
 go_enter Try.func71, Try.ntmps71
 go_wp2_with fail
 go_region_law (refine step_append_room rfl (.tmp 22) (.tmp 25) 26 rfl 45 i0 2 Try.underlying26 hi0 hz1 g 0 i cap (by simp [Act.eval, Act.put]) A (n - (i + 1)) (cap - (i + 1)) news (by simp [Act.eval, Act.put]) s1.out hsrc.out s2.out (by omega) s3.out ?_; rw [← hW.out])
 go_wp2
 go_ret
 have HR2 := HRES.out
 rw [← HN.out] at HR2
 exact ⟨by rw [show i + (n - (i + 1)) = n - 1 by omega]; rfl, HR2, HGROW.out⟩

/-! ### find over entries: functions 87, 86, 70 -/
/-- The place of the entry with a key, or -1. -/
def fndE (key : ByteArray) : List S45 → Int → Int
 | [], _ => -1
 | x :: xs, i => if (x.f0.toList == key.toList) = true then i else fndE key xs (i + 1)
set_option maxHeartbeats 800000 in
set_option maxRecDepth 100000 in
theorem fndE.one (b : Nat) (key : ByteArray) (x : S45) (w : World) (hb : b < w.heap.size) (hc : w.cell? ⟨b, 0, none⟩ = some (.string key)) :
  Calls Try.prog 87 #[.agg #[.string x.f0, .string x.f1], .pointer (some ⟨b, 0, none⟩)] w fun e w' => e = .returned (.bool (x.f0.toList == key.toList)) ∧ Below w.heap.size w w' := by
 go_enter Try.func87, Try.ntmps87
 go_wp2
 go_ret
 exact ⟨rfl, below_alloc (Below.refl _ _) _⟩
set_option maxHeartbeats 1600000 in
set_option maxRecDepth 100000 in
theorem fndE.idx (A : Option Addr) (c : Nat) (l : List S45) (key : ByteArray) (b : Nat) (w : World) (hr : Kd.C k45 w A l.length l) (hb : b < w.heap.size) (hcb : w.cell? ⟨b, 0, none⟩ = some (.string key)) :
  Calls Try.prog 86 #[.slice A l.length c, .func (.func 87) #[] #[.pointer (some ⟨b, 0, none⟩)]] w fun e w' => e = .returned (.int .i64 (fndE key l 0)) ∧ Below w.heap.size w w' := by
 have hm := Kd.C_max hr
 have eg87 : ∀ args w, (callFunc 87 args).run Try.prog w = .ok (.enter 87 args) w := enters_of Try.func87 (by kernel_rfl) rfl
 have HR := Aside0.mk hr
 have HC := Aside0.mk hcb
 clear hr hcb
 go_enter Try.func86, Try.ntmps86
 go_wp2
 go_loopg [5, 8] l.length (fun gg _ s8 wr => ∃ j : Nat, j ≤ l.length ∧ l.length - j ≤ gg ∧ s8 = .int .i64 j ∧ Aside0 (Below w.heap.size w wr) ∧ Aside0 (fndE key (l.drop j) j = fndE key l 0))
 case atStart => exact ⟨0, Nat.zero_le _, by omega, rfl, ⟨Below.refl _ _⟩, ⟨rfl⟩⟩
 case round =>
  obtain ⟨j, hj, hg, rfl, BW, HA⟩ := hrel
  by_cases hlt : j < l.length
  ·have hlt' : (j : Int) < (l.length : Int) := by omega
   have h0 : (0 : Int) ≤ (j : Int) := by omega
   have ha := HA.out
   rw [List.drop_eq_getElem_cons hlt] at ha
   simp only [fndE] at ha
   obtain ⟨ad, ea, hx0, hx1⟩ := at_T45 (Kd.C_below HR.out BW.out) (j : Int) h0 hlt'
   cases ea
   have e : rd_T45 l (j : Int) = l[j] := by
    show l.getD j _ = _
    rw [List.getD_eq_getElem?_getD, List.getElem?_eq_getElem hlt]; rfl
   rw [e] at hx0 hx1
   simp only [Int.toNat_natCast] at hx0 hx1
   have hbw : w.heap.size ≤ wr.heap.size := BW.out.size
   have hc2 := (BW.out.cell (p := ⟨b, 0, none⟩) hb).trans HC.out
   have hcall := fndE.one b key l[j] wr (by omega) hc2
   generalize l[j] = y at ha hx0 hx1 hcall
   have HA2 := Aside0.mk ha
   have HK := Aside0.mk hcall
   clear ha hcall hc2
   cases hbb : (y.f0.toList == key.toList) with
   | true =>
    rw [hbb] at HK HA2
    go_wp2_with (go_at_fn 87; refine HK.out.mono ?_; rintro e w' ⟨rfl, hb'⟩)
    go_ret
    exact ⟨congrArg (fun z => Ending.returned (.int .i64 z)) (by have := HA2.out; simpa using this), below_then BW.out hbw hb'⟩
   | false =>
    rw [hbb] at HK HA2
    go_wp2_with (go_at_fn 87; refine HK.out.mono ?_; rintro e w' ⟨rfl, hb'⟩)
    go_roundg (l.length - (j + 1))
    case measure => omega
    case rel => exact ⟨j + 1, by omega, by omega, by go_num, ⟨below_then BW.out hbw hb'⟩, ⟨by have := HA2.out; rw [if_neg (by simp)] at this; rw [← this]; congr 1⟩⟩
  ·have hlt' : ¬ (j : Int) < (l.length : Int) := by omega
   have : j = l.length := by omega
   subst this
   have HA2 := HA.out
   rw [List.drop_length] at HA2
   simp only [fndE] at HA2
   have HA3 := Aside0.mk HA2
   clear HA2
   go_wp2
   go_ret
   exact ⟨congrArg (fun z => Ending.returned (.int .i64 z)) HA3.out, BW.out⟩
set_option maxHeartbeats 800000 in
set_option maxRecDepth 100000 in
theorem fndE.calls (A : Option Addr) (c : Nat) (l : List S45) (key : ByteArray) (w : World) (hr : Kd.C k45 w A l.length l) :
  Calls Try.prog 70 #[.slice A l.length c, .string key] w fun e w' => e = .returned (.int .i64 (fndE key l 0)) ∧ Below w.heap.size w w' := by
 have HR := Aside0.mk hr
 clear hr
 have HI := fun (o : Obj) (ho : (w.alloc o).cell? ⟨w.heap.size, 0, none⟩ = some (.string key)) => fndE.idx A c l key w.heap.size (w.alloc o) (Kd.C_alloc HR.out _) (by simp) ho
 have HJ := Aside0.mk HI
 clear HI
 go_enter Try.func70, Try.ntmps70
 go_wp2_with (go_at_call 86; refine (HJ.out _ (by simp)).mono ?_; rintro e w' ⟨rfl, hb'⟩)
 go_ret
 exact ⟨rfl, below_then (below_alloc (Below.refl _ _) _) (by simp) hb'⟩

/-! ### a cache in memory; take: function 46 -/
/-- Block g is a cache: its numbers, its two rows. -/
structure Seg (w : World) (base g : Nat) (n o : Int) (vt vs : Value) (t s : List S45) : Prop where
 blk : w.heap[g]? = some (.cells #[.int .i64 n, .int .i64 o, vt, vs] 28 (0, 0))
 ge : base ≤ g
 ht : Kd.R k45 45 w base (fun k => some k ≠ vs.ownBlock) vt t
 hs : Kd.R k45 45 w base (fun k => some k ≠ vt.ownBlock) vs s
/-- But for block g and two rows all is as it was. -/
def KeptS (w w' : World) (g : Nat) (vt vs : Value) : Prop := w.heap.size ≤ w'.heap.size ∧ ∀ k, k < w.heap.size → k ≠ g → some k ≠ vt.ownBlock → some k ≠ vs.ownBlock → w'.heap[k]? = w.heap[k]?
/-- A row of entries leads nowhere but to its own block. -/
theorem row_ok {w : World} {base : Nat} {ok ok' : Nat → Prop} {v : Value} {xs : List S45} (h : k45.R 45 w base ok v xs) (h' : ∀ k, v.ownBlock = some k → ok' k) : k45.R 45 w base ok' v xs :=
 ⟨h', h.2.imp_ (fun p c hp => by rw [k45_openM hp]; exact k45_mkM _ _ _ _)⟩
theorem row_move {w w' : World} {base : Nat} {ok : Nat → Prop} {v : Value} {xs : List S45} (h : k45.R 45 w base ok v xs) (hm : ∀ k, v.ownBlock = some k → w'.heap[k]? = w.heap[k]?) : k45.R 45 w' base ok v xs :=
 row_ok (Kd.R_step (row_ok h (ok' := fun k => v.ownBlock = some k) (fun k hk => hk)) (fun k hk _ => hm k hk)) h.1
theorem fndE_range (key : ByteArray) : ∀ (l : List S45) (i : Nat), fndE key l i = -1 ∨ (∃ j, j < l.length ∧ fndE key l i = (i + j : Nat))
 | [], i => .inl rfl
 | x :: xs, i => by
  simp only [fndE]
  by_cases c : (x.f0.toList == key.toList) = true
  ·rw [if_pos c]; exact .inr ⟨0, by simp, by simp⟩
  ·rw [if_neg c]
   rcases fndE_range key xs (i + 1) with h | ⟨j, hj, h⟩
   ·exact .inl h
   ·exact .inr ⟨j + 1, by simp; omega, by
     have h' : fndE key xs ((i : Int) + 1) = ((i + 1 + j : Nat) : Int) := h
     rw [h']; omega⟩
theorem fndE_at (key : ByteArray) (l : List S45) : fndE key l 0 = -1 ∨ (∃ j : Nat, j < l.length ∧ fndE key l 0 = j) := by
 rcases fndE_range key l 0 with h | ⟨j, hj, h⟩
 ·exact .inl h
 ·exact .inr ⟨j, hj, by rw [show (0 : Int) = ((0 : Nat) : Int) from rfl, h]; omega⟩
def takeE (key : ByteArray) (t s : List S45) : S45 × Bool × Bool × List S45 × List S45 :=
 if 0 ≤ fndE key s 0 then (rd_T45 s (fndE key s 0), true, true, t, s.eraseIdx (fndE key s 0).toNat)
 else if 0 ≤ fndE key t 0 then (rd_T45 t (fndE key t 0), false, true, t.eraseIdx (fndE key t 0).toNat, s)
 else (z45, false, false, t, s)
set_option maxHeartbeats 1000000 in
set_option maxRecDepth 100000 in
theorem take_safe (base g : Nat) (n o : Int) (vt vs : Value) (t s : List S45) (key : ByteArray) (w0 w : World) (hS : Seg w base g n o vt vs t s) (hB : Below base w0 w) (hsz : base ≤ w.heap.size) (i : Nat) (hi : i < s.length) (hf : fndE key s 0 = i) :
  Calls Try.prog 46 #[.pointer (some ⟨g, 0, none⟩), .string key] w fun e w' => e = .returned (.tuple #[.agg #[.string (rd_T45 s i).f0, .string (rd_T45 s i).f1], .bool true, .bool true]) ∧ (∃ vt' vs', Seg w' base g n o vt' vs' t (s.eraseIdx i)) ∧ Below base w0 w' ∧ KeptS w w' g vt vs := by
 obtain ⟨g1, cap, ev, _, _, _⟩ := Kd.R_form hS.hs (by omega)
 subst ev
 have HS := Aside0.mk hS
 have HB := Aside0.mk hB
 have hgl := blk_lt hS.blk
 have GL := Aside0.mk hgl
 have HSZ := Aside0.mk hsz
 have hi0 : decide (0 ≤ (i : Int)) = true := decide_eq_true (by omega)
 have hi1 : (0 ≤ (i : Int)) = True := eq_true (by omega)
 have hi2 : ((i : Int) < (s.length : Int)) = True := eq_true (by omega)
 have hmx := Kd.C_max (Kd.R_reads' hS.hs).2.2
 have hw : wrap64 ((i : Int) + 1) = (i : Int) + 1 := by unfold wrap64; omega
 have HF := Aside0.mk hf
 have HI := Aside0.mk hi
 have hc3 : w.cell? ⟨g, 3, none⟩ = some (.slice (some ⟨g1, 0, none⟩) s.length cap) := (blk_cell hS.blk 3).trans rfl
 clear hS hB hf hsz
 go_enter Try.func46, Try.ntmps46
 go_wp2_with (first
  | ((with_reducible refine gate_dst (N := 4) rfl ?_); refine box_event ?hg (N := 4) ?hd (cs := #[.string ⟨#[]⟩, .string ⟨#[]⟩]) (t := 45) ?hr ?_; (case hd => rfl); (case hg => rfl); (case hr => first | (go_simp; done) | (go_simp; rfl)); intro g4 hg4 w1 hb4 hb; have HG4 := Aside0.mk hg4; have B1 := Aside0.mk hb; have K4 := Aside0.mk hb4; have KG := Aside0.mk (blk_below HS.out.blk hb); clear hg4 hb4 hb hc3; have hc3 : w1.cell? ⟨g, 3, none⟩ = some (.slice (some ⟨g1, 0, none⟩) s.length cap) := (blk_cell KG.out 3).trans rfl)
  | (go_at_call 70; refine (fndE.calls (some ⟨g1, 0, none⟩) cap s key _ (Kd.C_below (Kd.R_reads' HS.out.hs).2.2 B1.out)).mono ?_; rintro e w2 ⟨rfl, hb⟩; rw [HF.out]; have B2 := Aside0.mk (below_then B1.out B1.out.size hb); have K4b := Aside0.mk (blk_below K4.out hb); have KG2 := Aside0.mk (blk_below KG.out hb); clear hb hc3; have hc3 : w2.cell? ⟨g, 3, none⟩ = some (.slice (some ⟨g1, 0, none⟩) s.length cap) := (blk_cell KG2.out 3).trans rfl; obtain ⟨ad, ea, hx0, hx1⟩ := at_T45 (Kd.C_below (Kd.R_reads' HS.out.hs).2.2 B2.out) (i : Int) (by omega) (by omega); cases ea; simp only [Int.toNat_natCast, add_plain] at hx0 hx1; have hg2 : g < w2.heap.size := blk_lt KG2.out; have hg42 : g4 < w2.heap.size := blk_lt K4b.out)
  | (go_at_call 71; refine (slices_DeleteE.calls base g1 cap i (fun k => some k ≠ vt.ownBlock) s _ (Kd.R_alloc (Kd.R_below HS.out.hs B2.out) _) HI.out).mono ?_; rintro e w3 ⟨rfl, ho, hgr⟩; have HO3 := Aside0.mk ho; have HGR := Aside0.mk hgr; have hg1l := Kd.R_lt HS.out.hs g1 rfl; have hne1 : g ≠ g1 := (fun h_ => Kd.R_ne HS.out.hs HS.out.blk (by decide) (by rw [h_]; rfl)); have hne2 : g4 ≠ g1 := (by have := HG4.out; omega); have hs2 := B2.out.size; have hne3 : w2.heap.size ≠ g1 := (by omega); have KG3 := Aside0.mk (blk_grown (blk_alloc KG2.out _) hgr (by simpa using hne1)); have K43 := Aside0.mk (blk_grown (blk_alloc K4b.out _) hgr (by simpa using hne2)); have K83 := Aside0.mk (blk_grown (blk_new w2 _) hgr (by simpa using hne3)); clear ho hgr hx0 hx1 hc3; have hk0 := (blk_cell K83.out 0).trans rfl; have hk1 := (blk_cell K83.out 1).trans rfl; have hq0 := (blk_cell KG3.out 3).trans rfl; have hq1 := blk_frozen KG3.out 3; have hr0 := (blk_cell K43.out 0).trans rfl; have hr1 := (blk_cell K43.out 1).trans rfl; have hr2 := blk_frozen K43.out 0; have hr3 := blk_frozen K43.out 1; have hn1 : w2.heap.size ≠ g := (by omega); have hn2 : g4 ≠ g := (by have := HG4.out; have := GL.out; omega); have hn3 : g ≠ g4 := hn2.symm))
 have hg4l : g4 = w.heap.size := HG4.out
 have hfin : ∀ k, k < w.heap.size → k ≠ g → k ≠ g1 → (((w3.setCell ⟨g, 3, none⟩ (.slice (some ⟨g1, 0, none⟩) (s.length - 1) cap)).setCell ⟨g4, 0, none⟩ (.string (rd_T45 s (i : Int)).f0)).setCell ⟨g4, 1, none⟩ (.string (rd_T45 s (i : Int)).f1)).heap[k]? = w.heap[k]? := by
  intro k hk h1 h2
  have hs := B2.out.size
  rw [Below.heap_setCell _ _ _ k (by show k ≠ g4; omega), Below.heap_setCell _ _ _ k (by show k ≠ g4; omega), Below.heap_setCell _ _ _ k (by show k ≠ g; omega), HGR.out.block k (by simp only [World.size_alloc]; omega) (by simpa using h2), Below.heap_alloc _ _ k (by omega), B2.out.block k hk]
 have hsz3 := HGR.out.size
 simp only [World.size_alloc] at hsz3
 refine bodyPost_ret (results_ctt rfl _ _ g4 45 #[.string (rd_T45 s (i : Int)).f0, .string (rd_T45 s (i : Int)).f1] (0, 0) _ rfl (by refine blk_put (cs := #[.string (rd_T45 s (i : Int)).f0, .string ⟨#[]⟩]) ?_ 1 _ rfl; refine blk_put (cs := #[.string ⟨#[]⟩, .string ⟨#[]⟩]) ?_ 0 _ rfl; exact blk_far K43.out hn2 _) Try.underlying45 rfl (by kernel_rfl)) rfl ?_
 refine ⟨rfl, ⟨vt, .slice (some ⟨g1, 0, none⟩) (s.length - 1) cap, ⟨?_, HS.out.ge, ?_, ?_⟩⟩, ?_, ?_⟩
 ·refine blk_far ?_ hn3 _
  refine blk_far ?_ hn3 _
  exact blk_put (cs := #[.int .i64 n, .int .i64 o, vt, .slice (some ⟨g1, 0, none⟩) s.length cap]) KG3.out 3 _ rfl
 ·refine row_move (row_ok HS.out.ht (fun k hk => HS.out.ht.1 k hk)) (fun k hk => hfin k (Kd.R_lt HS.out.ht k hk) (fun e => Kd.R_ne HS.out.ht HS.out.blk (by decide) (by rw [hk, e])) (fun e => HS.out.ht.1 k hk (by rw [e]; rfl)))
 ·refine row_move HO3.out (fun k hk => ?_)
  obtain rfl : g1 = k := by simpa [Value.ownBlock] using hk
  rw [Below.heap_setCell _ _ _ g1 (by show g1 ≠ g4; omega), Below.heap_setCell _ _ _ g1 (by show g1 ≠ g4; omega), Below.heap_setCell _ _ _ g1 (by show g1 ≠ g; omega)]
 ·have hsz := HSZ.out
  exact (((((HB.out.trans (B2.out.mono hsz)).alloc (by omega) _).grown HGR.out (by simp only [World.size_alloc]; omega) (fun k hk => by cases hk; exact Kd.R_base HS.out.hs g1 rfl)).setCell HS.out.ge _).setCell (by show base ≤ g4; omega) _).setCell (by show base ≤ g4; omega) _
 ·refine ⟨by simp only [World.setCell, Array.size_modify]; omega, fun k hk h1 _ h3 => hfin k hk h1 (fun e => h3 (by rw [e]; rfl))⟩
set_option maxHeartbeats 1000000 in
set_option maxRecDepth 100000 in
theorem take_trial (base g : Nat) (n o : Int) (vt vs : Value) (t s : List S45) (key : ByteArray) (w0 w : World) (hS : Seg w base g n o vt vs t s) (hB : Below base w0 w) (hsz : base ≤ w.heap.size) (hf0 : fndE key s 0 = -1) (i : Nat) (hi : i < t.length) (hf : fndE key t 0 = i) :
  Calls Try.prog 46 #[.pointer (some ⟨g, 0, none⟩), .string key] w fun e w' => e = .returned (.tuple #[.agg #[.string (rd_T45 t i).f0, .string (rd_T45 t i).f1], .bool false, .bool true]) ∧ (∃ vt' vs', Seg w' base g n o vt' vs' (t.eraseIdx i) s) ∧ Below base w0 w' ∧ KeptS w w' g vt vs := by
 obtain ⟨g1, cap, ev, _, _, _⟩ := Kd.R_form hS.ht (by omega)
 subst ev
 obtain ⟨As, cs, es⟩ := Kd.R_slice hS.hs
 subst es
 have HS := Aside0.mk hS
 have HB := Aside0.mk hB
 have hgl := blk_lt hS.blk
 have GL := Aside0.mk hgl
 have HSZ := Aside0.mk hsz
 have hi0 : decide (0 ≤ (i : Int)) = true := decide_eq_true (by omega)
 have hi1 : (0 ≤ (i : Int)) = True := eq_true (by omega)
 have hi2 : ((i : Int) < (t.length : Int)) = True := eq_true (by omega)
 have hmx := Kd.C_max (Kd.R_reads' hS.ht).2.2
 have hw : wrap64 ((i : Int) + 1) = (i : Int) + 1 := by unfold wrap64; omega
 have HF := Aside0.mk hf
 have HF0 := Aside0.mk hf0
 have hm1 : decide ((0 : Int) ≤ -1) = false := by decide
 have HI := Aside0.mk hi
 have hc3 : w.cell? ⟨g, 3, none⟩ = some (.slice As s.length cs) := (blk_cell hS.blk 3).trans rfl
 clear hS hB hf hf0 hsz
 go_enter Try.func46, Try.ntmps46
 go_wp2_with (first
  | ((with_reducible refine gate_dst (N := 4) rfl ?_); refine box_event ?hg (N := 4) ?hd (cs := #[.string ⟨#[]⟩, .string ⟨#[]⟩]) (t := 45) ?hr ?_; (case hd => rfl); (case hg => rfl); (case hr => first | (go_simp; done) | (go_simp; rfl)); intro g4 hg4 w1 hb4 hb; have HG4 := Aside0.mk hg4; have B1 := Aside0.mk hb; have K4 := Aside0.mk hb4; have KG := Aside0.mk (blk_below HS.out.blk hb); clear hg4 hb4 hb hc3; have hc3 : w1.cell? ⟨g, 3, none⟩ = some (.slice As s.length cs) := (blk_cell KG.out 3).trans rfl)
  | (go_at_call 70; (with_reducible refine (fndE.calls As cs s key _ (Kd.C_below (Kd.R_reads' HS.out.hs).2.2 B1.out)).mono ?_); rintro e wm ⟨rfl, hb⟩; rw [HF0.out]; have BM := Aside0.mk (below_then B1.out B1.out.size hb); have K4m := Aside0.mk (blk_below K4.out hb); have KGm := Aside0.mk (blk_below KG.out hb); clear hb hc3; have hc3 : wm.cell? ⟨g, 2, none⟩ = some (.slice (some ⟨g1, 0, none⟩) t.length cap) := (blk_cell KGm.out 2).trans rfl)
  | (go_at_call 70; (with_reducible refine (fndE.calls (some ⟨g1, 0, none⟩) cap t key _ (Kd.C_below (Kd.R_reads' HS.out.ht).2.2 BM.out)).mono ?_); rintro e w2 ⟨rfl, hb⟩; rw [HF.out]; have B2 := Aside0.mk (below_then BM.out BM.out.size hb); have K4b := Aside0.mk (blk_below K4m.out hb); have KG2 := Aside0.mk (blk_below KGm.out hb); clear hb hc3; have hc3 : w2.cell? ⟨g, 2, none⟩ = some (.slice (some ⟨g1, 0, none⟩) t.length cap) := (blk_cell KG2.out 2).trans rfl; obtain ⟨ad, ea, hx0, hx1⟩ := at_T45 (Kd.C_below (Kd.R_reads' HS.out.ht).2.2 B2.out) (i : Int) (by omega) (by omega); cases ea; simp only [Int.toNat_natCast, add_plain] at hx0 hx1; have hg2 : g < w2.heap.size := blk_lt KG2.out; have hg42 : g4 < w2.heap.size := blk_lt K4b.out)
  | (go_at_call 71; refine (slices_DeleteE.calls base g1 cap i (fun k => some k ≠ (Value.slice As s.length cs).ownBlock) t _ (Kd.R_alloc (Kd.R_below HS.out.ht B2.out) _) HI.out).mono ?_; rintro e w3 ⟨rfl, ho, hgr⟩; have HO3 := Aside0.mk ho; have HGR := Aside0.mk hgr; have hg1l := Kd.R_lt HS.out.ht g1 rfl; have hne1 : g ≠ g1 := (fun h_ => Kd.R_ne HS.out.ht HS.out.blk (by decide) (by rw [h_]; rfl)); have hne2 : g4 ≠ g1 := (by have := HG4.out; omega); have hs2 := B2.out.size; have hne3 : w2.heap.size ≠ g1 := (by omega); have KG3 := Aside0.mk (blk_grown (blk_alloc KG2.out _) hgr (by simpa using hne1)); have K43 := Aside0.mk (blk_grown (blk_alloc K4b.out _) hgr (by simpa using hne2)); have K83 := Aside0.mk (blk_grown (blk_new w2 _) hgr (by simpa using hne3)); clear ho hgr hx0 hx1 hc3; have hk0 := (blk_cell K83.out 0).trans rfl; have hk1 := (blk_cell K83.out 1).trans rfl; have hq0 := (blk_cell KG3.out 2).trans rfl; have hq1 := blk_frozen KG3.out 2; have hr0 := (blk_cell K43.out 0).trans rfl; have hr1 := (blk_cell K43.out 1).trans rfl; have hr2 := blk_frozen K43.out 0; have hr3 := blk_frozen K43.out 1; have hn1 : w2.heap.size ≠ g := (by omega); have hn2 : g4 ≠ g := (by have := HG4.out; have := GL.out; omega); have hn3 : g ≠ g4 := hn2.symm))
 have hg4l : g4 = w.heap.size := HG4.out
 have hfin : ∀ k, k < w.heap.size → k ≠ g → k ≠ g1 → (((w3.setCell ⟨g, 2, none⟩ (.slice (some ⟨g1, 0, none⟩) (t.length - 1) cap)).setCell ⟨g4, 0, none⟩ (.string (rd_T45 t (i : Int)).f0)).setCell ⟨g4, 1, none⟩ (.string (rd_T45 t (i : Int)).f1)).heap[k]? = w.heap[k]? := by
  intro k hk h1 h2
  have hs := B2.out.size
  rw [Below.heap_setCell _ _ _ k (by show k ≠ g4; omega), Below.heap_setCell _ _ _ k (by show k ≠ g4; omega), Below.heap_setCell _ _ _ k (by show k ≠ g; omega), HGR.out.block k (by simp only [World.size_alloc]; omega) (by simpa using h2), Below.heap_alloc _ _ k (by omega), B2.out.block k hk]
 have hsz3 := HGR.out.size
 simp only [World.size_alloc] at hsz3
 refine bodyPost_ret (results_ctt rfl _ _ g4 45 #[.string (rd_T45 t (i : Int)).f0, .string (rd_T45 t (i : Int)).f1] (0, 0) _ rfl (by refine blk_put (cs := #[.string (rd_T45 t (i : Int)).f0, .string ⟨#[]⟩]) ?_ 1 _ rfl; refine blk_put (cs := #[.string ⟨#[]⟩, .string ⟨#[]⟩]) ?_ 0 _ rfl; exact blk_far K43.out hn2 _) Try.underlying45 rfl (by kernel_rfl)) rfl ?_
 refine ⟨rfl, ⟨.slice (some ⟨g1, 0, none⟩) (t.length - 1) cap, .slice As s.length cs, ⟨?_, HS.out.ge, ?_, ?_⟩⟩, ?_, ?_⟩
 ·refine blk_far ?_ hn3 _
  refine blk_far ?_ hn3 _
  exact blk_put (cs := #[.int .i64 n, .int .i64 o, .slice (some ⟨g1, 0, none⟩) t.length cap, .slice As s.length cs]) KG3.out 2 _ rfl
 ·refine row_move HO3.out (fun k hk => ?_)
  obtain rfl : g1 = k := by simpa [Value.ownBlock] using hk
  rw [Below.heap_setCell _ _ _ g1 (by show g1 ≠ g4; omega), Below.heap_setCell _ _ _ g1 (by show g1 ≠ g4; omega), Below.heap_setCell _ _ _ g1 (by show g1 ≠ g; omega)]
 ·refine row_move (row_ok HS.out.hs (fun k hk => HS.out.hs.1 k hk)) (fun k hk => hfin k (Kd.R_lt HS.out.hs k hk) (fun e => Kd.R_ne HS.out.hs HS.out.blk (by decide) (by rw [hk, e])) (fun e => HS.out.hs.1 k hk (by rw [e]; rfl)))
 ·have hsz := HSZ.out
  exact (((((HB.out.trans (B2.out.mono hsz)).alloc (by omega) _).grown HGR.out (by simp only [World.size_alloc]; omega) (fun k hk => by cases hk; exact Kd.R_base HS.out.ht g1 rfl)).setCell HS.out.ge _).setCell (by show base ≤ g4; omega) _).setCell (by show base ≤ g4; omega) _
 ·refine ⟨by simp only [World.setCell, Array.size_modify]; omega, fun k hk h1 h3 _ => hfin k hk h1 (fun e => h3 (by rw [e]; rfl))⟩
set_option maxHeartbeats 1000000 in
set_option maxRecDepth 100000 in
theorem take_none (base g : Nat) (n o : Int) (vt vs : Value) (t s : List S45) (key : ByteArray) (w0 w : World) (hS : Seg w base g n o vt vs t s) (hB : Below base w0 w) (hsz : base ≤ w.heap.size) (hf0 : fndE key s 0 = -1) (hf : fndE key t 0 = -1) :
  Calls Try.prog 46 #[.pointer (some ⟨g, 0, none⟩), .string key] w fun e w' => e = .returned (.tuple #[.agg #[.string ⟨#[]⟩, .string ⟨#[]⟩], .bool false, .bool false]) ∧ (∃ vt' vs', Seg w' base g n o vt' vs' t s) ∧ Below base w0 w' ∧ KeptS w w' g vt vs := by
 obtain ⟨At, ct, et⟩ := Kd.R_slice hS.ht
 subst et
 obtain ⟨As, cs, es⟩ := Kd.R_slice hS.hs
 subst es
 have HS := Aside0.mk hS
 have HB := Aside0.mk hB
 have hgl := blk_lt hS.blk
 have GL := Aside0.mk hgl
 have HSZ := Aside0.mk hsz
 have HF := Aside0.mk hf
 have HF0 := Aside0.mk hf0
 have hm1 : decide ((0 : Int) ≤ -1) = false := by decide
 have hc3 : w.cell? ⟨g, 3, none⟩ = some (.slice As s.length cs) := (blk_cell hS.blk 3).trans rfl
 clear hS hB hf hf0 hsz
 go_enter Try.func46, Try.ntmps46
 go_wp2_with (first
  | ((with_reducible refine gate_dst (N := 4) rfl ?_); refine box_event ?hg (N := 4) ?hd (cs := #[.string ⟨#[]⟩, .string ⟨#[]⟩]) (t := 45) ?hr ?_; (case hd => rfl); (case hg => rfl); (case hr => first | (go_simp; done) | (go_simp; rfl)); intro g4 hg4 w1 hb4 hb; have HG4 := Aside0.mk hg4; have B1 := Aside0.mk hb; have K4 := Aside0.mk hb4; have KG := Aside0.mk (blk_below HS.out.blk hb); clear hg4 hb4 hb hc3; have hc3 : w1.cell? ⟨g, 3, none⟩ = some (.slice As s.length cs) := (blk_cell KG.out 3).trans rfl)
  | (go_at_call 70; (with_reducible refine (fndE.calls As cs s key w1 (Kd.C_below (Kd.R_reads' HS.out.hs).2.2 B1.out)).mono ?_); rintro e wm ⟨rfl, hb⟩; rw [HF0.out]; have BM := Aside0.mk (below_then B1.out B1.out.size hb); have K4m := Aside0.mk (blk_below K4.out hb); have KGm := Aside0.mk (blk_below KG.out hb); clear hb hc3; have hc3 : wm.cell? ⟨g, 2, none⟩ = some (.slice At t.length ct) := (blk_cell KGm.out 2).trans rfl)
  | (go_at_call 70; (with_reducible refine (fndE.calls At ct t key _ (Kd.C_below (Kd.R_reads' HS.out.ht).2.2 BM.out)).mono ?_); rintro e w2 ⟨rfl, hb⟩; rw [HF.out]; have B2 := Aside0.mk (below_then BM.out BM.out.size hb); have K42 := Aside0.mk (blk_below K4m.out hb); have KG2 := Aside0.mk (blk_below KGm.out hb); clear hb hc3; have hr0 := (blk_cell K42.out 0).trans rfl; have hr1 := (blk_cell K42.out 1).trans rfl; have hr2 := blk_frozen K42.out 0; have hr3 := blk_frozen K42.out 1))
 have hg4l : g4 = w.heap.size := HG4.out
 have hn3 : g ≠ g4 := by omega
 have hfin : ∀ k, k < w.heap.size → ((w2.setCell ⟨g4, 0, none⟩ (.string ⟨#[]⟩)).setCell ⟨g4, 1, none⟩ (.string ⟨#[]⟩)).heap[k]? = w.heap[k]? := by
  intro k hk
  rw [Below.heap_setCell _ _ _ k (by show k ≠ g4; omega), Below.heap_setCell _ _ _ k (by show k ≠ g4; omega), B2.out.block k hk]
 refine bodyPost_ret (results_ctt rfl _ _ g4 45 #[.string ⟨#[]⟩, .string ⟨#[]⟩] (0, 0) _ rfl (by refine blk_put (cs := #[.string ⟨#[]⟩, .string ⟨#[]⟩]) ?_ 1 _ rfl; exact blk_put (cs := #[.string ⟨#[]⟩, .string ⟨#[]⟩]) K42.out 0 _ rfl) Try.underlying45 rfl (by kernel_rfl)) rfl ?_
 refine ⟨rfl, ⟨.slice At t.length ct, .slice As s.length cs, ⟨(hfin g GL.out).trans HS.out.blk, HS.out.ge, ?_, ?_⟩⟩, ?_, ?_⟩
 ·exact row_move HS.out.ht (fun k hk => hfin k (Kd.R_lt HS.out.ht k hk))
 ·exact row_move HS.out.hs (fun k hk => hfin k (Kd.R_lt HS.out.hs k hk))
 ·have hsz := HSZ.out
  exact ((HB.out.trans (B2.out.mono hsz)).setCell (by show base ≤ g4; omega) _).setCell (by show base ≤ g4; omega) _
 ·refine ⟨by simp only [World.setCell, Array.size_modify]; exact B2.out.size, fun k hk _ _ _ => hfin k hk⟩
theorem take.calls (base g : Nat) (n o : Int) (vt vs : Value) (t s : List S45) (key : ByteArray) (w0 w : World) (hS : Seg w base g n o vt vs t s) (hB : Below base w0 w) (hsz : base ≤ w.heap.size) :
  Calls Try.prog 46 #[.pointer (some ⟨g, 0, none⟩), .string key] w fun e w' => e = .returned (.tuple #[.agg #[.string (takeE key t s).1.f0, .string (takeE key t s).1.f1], .bool (takeE key t s).2.1, .bool (takeE key t s).2.2.1]) ∧ (∃ vt' vs', Seg w' base g n o vt' vs' (takeE key t s).2.2.2.1 (takeE key t s).2.2.2.2) ∧ Below base w0 w' ∧ KeptS w w' g vt vs := by
 unfold takeE
 rcases fndE_at key s with h | ⟨i, hi, h⟩
 ·rcases fndE_at key t with h' | ⟨i, hi, h'⟩
  ·rw [h, h', if_neg (by omega), if_neg (by omega)]
   exact take_none base g n o vt vs t s key w0 w hS hB hsz h h'
  ·rw [h, h', if_neg (by omega), if_pos (by omega)]
   exact take_trial base g n o vt vs t s key w0 w hS hB hsz h i hi h'
 ·rw [h, if_pos (by omega)]
  exact take_safe base g n o vt vs t s key w0 w hS hB hsz i hi h

/-! ### own's numbers -/
/-- own's numbers are those that came in. -/
theorem own_numbers {a0_0 a0_1 : Int} {l0_2 l0_3 : List S45} {r1 r2 : Int} {r3 r4 : List S45} (h : impl_Segmented_own.f a0_0 a0_1 l0_2 l0_3 = some (r1, r2, r3, r4)) : a0_0 = r1 ∧ a0_1 = r2 := by
 unfold impl_Segmented_own.f at h
 obtain ⟨_, _, h⟩ := Option.bind_eq_some_iff.mp h
 obtain ⟨_, _, h⟩ := Option.bind_eq_some_iff.mp h
 simp only [Option.some.injEq, Prod.mk.injEq] at h
 exact ⟨h.1, h.2.1⟩

/-! ### ahead: function 77 -/
def impl_ahead.f (l0 : List S45) (x0 x1 : ByteArray) : Option (List S45) := if 1 + l0.length < 4398046511104 then some (⟨x0, x1⟩ :: l0) else none
set_option maxHeartbeats 2000000 in
set_option maxRecDepth 100000 in
theorem impl_ahead.calls (A0 : Option Addr) (c0 : Nat) (l0 : List S45) (x0 x1 : ByteArray) (r : List S45) (w : World) (hr0 : Kd.C k45 w A0 l0.length l0) (hc0 : l0.length ≤ c0) (h : impl_ahead.f l0 x0 x1 = some r) :
  Calls Try.prog 77 #[.slice A0 l0.length c0, .agg #[.string x0, .string x1]] w fun e w' => ∃ v0_ : Value, e = .returned v0_ ∧ Kd.R k45 45 w' w.heap.size (fun _ => True) v0_ r ∧ Below w.heap.size w w' := by
 unfold impl_ahead.f at h
 by_cases c : 1 + l0.length < 4398046511104
 ·rw [if_pos c, Option.some.injEq] at h
  subst h
  have LM := Aside0.mk c
  have HR := Aside0.mk hr0
  have HC := Aside0.mk hc0
  clear hr0 hc0 c
  go_enter Try.func77, Try.ntmps77
  go_wp2_with (first
   | ((with_reducible refine gate_dst (N := 6) rfl ?_); refine Kd.R_lit k45 _ 45 ?hg (N := 6) ?hd (xs := [(⟨x0, x1⟩ : S45)]) (inner := [.string x0, .string x1]) (ok := fun _ => True) (okp := fun _ => True) ?hr ?hp (fun _ hk => hk) trivial (Below.refl _ _) (Nat.le_refl _) (by simp) ?_; (case hd => rfl); (case hg => rfl); (case hr => first | (go_simp; done) | (go_simp; rfl)); (case hp => exact (Reps.none _ _).snoc (k45_mkM _ _ _ ⟨x0, x1⟩) rfl); intro v1 w1 ho1 hb hg_ hnew_; clear hg_ hnew_; have HO := Aside0.mk ho1; have HB := Aside0.mk hb; clear ho1 hb; obtain ⟨A1, c1, ev, hl1, hC1⟩ := Kd.R_reads HO.out; subst ev; have HC1 := Aside0.mk hC1; have HL1 := Aside0.mk hl1; clear hl1 hC1)
   | (go_at_call 60; have HB1 := Aside0.mk (below_then (below_alloc (Below.refl _ _) _) (by simp) HB.out); refine (slices_ConcatE.calls (some ⟨w1.heap.size, 0, none⟩) 2 [[(⟨x0, x1⟩ : S45)], l0] (⟨x0, x1⟩ :: l0) _ ?hC ?hf).mono ?_; (case hC => exact C_two HL1.out (Kd.C_alloc HC1.out _) HC.out (Kd.C_alloc (Kd.C_below HR.out HB1.out) _) (by rw [add_plain]; exact (blk_cell (blk_new w1 _) 0).trans rfl) (by rw [add_plain]; exact (blk_cell (blk_new w1 _) 1).trans rfl)); (case hf => have := LM.out; unfold slices_ConcatE.f; rw [if_pos (by simp; omega)]; simp); rintro e w' ⟨v2, rfl, ho, hb⟩; have HO2 := Aside0.mk ho; have HB2 := Aside0.mk hb; clear ho hb))
  go_ret
  have hsz : w.heap.size ≤ (w1.alloc (Obj.cells #[Value.slice A1 1 c1, Value.slice A0 l0.length c0] 26)).heap.size := by
   have := HB1.out.size
   simp only [World.size_alloc]; omega
  exact ⟨_, rfl, Kd.R_lower HO2.out hsz, below_then (below_alloc HB1.out _) hsz HB2.out⟩
 ·rw [if_neg c] at h; exact absurd h (by simp)

/-! ### settle: function 78 -/
def settleE.l0 : Nat → Int → List S45 → List S45 → Option (List S45 × List S45)
 | 0, _, _, _ => none
 | k + 1, o, t, s => (impl_fits.f k s o).bind fun b => (if b = true then some (t, s) else (if 0 < s.length then ((impl_ahead.f t (rd_T45 s ((s.length : Int) - 1)).f0 (rd_T45 s ((s.length : Int) - 1)).f1).bind fun t' => settleE.l0 k o t' (s.take (s.length - 1))) else none))
def settleE.l1 : Nat → Int → List S45 → List S45 → Option (List S45 × List S45)
 | 0, _, _, _ => none
 | k + 1, n, t, th => (impl_fits.f k t n).bind fun b => (if b = true then some (t, th) else (if 0 < t.length then (if th.length + 1 < 4398046511104 then settleE.l1 k n (t.take (t.length - 1)) (th ++ [rd_T45 t ((t.length : Int) - 1)]) else none) else none))
def settleE.f (k : Nat) (n o : Int) (t s : List S45) : Option (List S45 × List S45 × List S45) := (settleE.l0 k o t s).bind fun ts => (settleE.l1 k n ts.1 []).bind fun tt => some (tt.1, ts.2, tt.2)
theorem settleE.mono_l0 : ∀ k o t s, LeO (settleE.l0 k o t s) (settleE.l0 (k + 1) o t s)
 | 0 => fun _ _ _ r h => by simp [settleE.l0] at h
 | k + 1 => by
  have ih := settleE.mono_l0 k
  intro o t s
  unfold settleE.l0
  repeat' first
   | (with_reducible exact ih _ _ _)
   | (with_reducible exact impl_fits.mono _ _ _)
   | (with_reducible exact LeO.refl _)
   | (with_reducible exact LeO.none _)
   | (with_reducible refine LeO.ite ?_ ?_)
   | (with_reducible refine LeO.bind ?_ (fun _ => ?_))
theorem settleE.mono_l1 : ∀ k n t th, LeO (settleE.l1 k n t th) (settleE.l1 (k + 1) n t th)
 | 0 => fun _ _ _ r h => by simp [settleE.l1] at h
 | k + 1 => by
  have ih := settleE.mono_l1 k
  intro n t th
  unfold settleE.l1
  repeat' first
   | (with_reducible exact ih _ _ _)
   | (with_reducible exact impl_fits.mono _ _ _)
   | (with_reducible exact LeO.refl _)
   | (with_reducible exact LeO.none _)
   | (with_reducible refine LeO.ite ?_ ?_)
   | (with_reducible refine LeO.bind ?_ (fun _ => ?_))
theorem settleE.mono : ∀ n o t s k, LeO (settleE.f k n o t s) (settleE.f (k + 1) n o t s) := by
 intro n o t s k
 unfold settleE.f
 repeat' first
   | (with_reducible exact settleE.mono_l0 _ _ _ _)
   | (with_reducible exact settleE.mono_l1 _ _ _ _)
   | (with_reducible exact LeO.refl _)
   | (with_reducible exact LeO.none _)
   | (with_reducible refine LeO.ite ?_ ?_)
   | (with_reducible refine LeO.bind ?_ (fun _ => ?_))
/-- But for block g all is as it was. -/
def KeptG (w w' : World) (g : Nat) : Prop := w.heap.size ≤ w'.heap.size ∧ ∀ k, k < w.heap.size → k ≠ g → w'.heap[k]? = w.heap[k]?
set_option maxHeartbeats 6000000 in
set_option maxRecDepth 100000 in
theorem settleE.calls (base g : Nat) (n o : Int) (vt vs : Value) (t s : List S45) (k : Nat) (t2 s2 th : List S45) (w0 w : World) (hS : Seg w base g n o vt vs t s) (hB : Below base w0 w) (hsz : base ≤ w.heap.size) (h : settleE.f k n o t s = some (t2, s2, th)) :
  Calls Try.prog 78 #[.pointer (some ⟨g, 0, none⟩)] w fun e w' => ∃ (v0 vt' vs' : Value) (B1 : Nat), e = .returned v0 ∧ Seg w' base g n o vt' vs' t2 s2 ∧ w.heap.size ≤ B1 ∧ Kd.R k45 45 w' B1 (fun _ => True) v0 th ∧ (∀ j, vt'.ownBlock = some j → j < B1) ∧ (∀ j, vs'.ownBlock = some j → j < B1) ∧ Below base w0 w' ∧ KeptG w w' g := by
 unfold settleE.f at h
 obtain ⟨⟨t1, s1⟩, A1, h⟩ := Option.bind_eq_some_iff.mp h
 obtain ⟨⟨t3, th3⟩, A2, h⟩ := Option.bind_eq_some_iff.mp h
 simp only [Option.some.injEq, Prod.mk.injEq] at h A1 A2
 obtain ⟨rfl, rfl, rfl⟩ := h
 have A1 := Aside0.mk A1
 have A2 := Aside0.mk A2
 have HS := Aside0.mk hS
 have HB := Aside0.mk hB
 have HSZ := Aside0.mk hsz
 have hgl := blk_lt hS.blk
 have GL := Aside0.mk hgl
 clear hS hB hsz hgl
 go_enter Try.func78, Try.ntmps78
 go_wp2
 go_loopg [4] k (fun kq _ wr => ∃ (vt vs : Value) (t s : List S45), Aside0 (settleE.l0 kq o t s = some (t1, s1)) ∧ Aside0 (Seg wr base g n o vt vs t s) ∧ Aside0 (Below base w0 wr) ∧ Aside0 (KeptG w wr g) ∧ Aside0 (kq ≤ k))
 case atStart => exact ⟨vt, vs, t, s, A1, HS, HB, ⟨⟨Nat.le_refl _, fun _ _ _ => rfl⟩⟩, ⟨Nat.le_refl _⟩⟩
 case round =>
  obtain ⟨vt, vs, t, s, HA, HSr, HBr, HK, HKQ⟩ := hrel
  cases gk with
  | zero => exact absurd HA.out (by simp [settleE.l0])
  | succ k2 =>
   have H := HA.out
   clear HA
   simp only [settleE.l0] at H
   obtain ⟨b, A3, H⟩ := Option.bind_eq_some_iff.mp H
   have A3 := Aside0.mk A3
   obtain ⟨At, ct, et⟩ := Kd.R_slice HSr.out.ht
   subst et
   cases b with
   | true =>
    simp only [if_true, Option.some.injEq, Prod.mk.injEq] at H
    obtain ⟨rfl, rfl⟩ := H
    obtain ⟨As, cs, es⟩ := Kd.R_slice HSr.out.hs
    subst es
    have hc1 : wr.cell? ⟨g, 1, none⟩ = some (.int .i64 o) := (blk_cell HSr.out.blk 1).trans rfl
    have hc3 : wr.cell? ⟨g, 3, none⟩ = some (.slice As s.length cs) := (blk_cell HSr.out.blk 3).trans rfl
    go_wp2
    go_region_with (go_at_call 59; refine (impl_fits.calls k2 As cs s o true _ (Kd.C_drew (Kd.R_reads' HSr.out.hs).2.2) (Kd.R_reads' HSr.out.hs).2.1 A3.out).mono ?_; rintro e w1 ⟨rfl, hb⟩)
    all_goals
     have B1 : Aside0 (Below wr.heap.size wr w1) := ⟨below_then (below_drew (Below.refl _ _)) (Nat.le_refl _) hb⟩
     have K1 := Aside0.mk (blk_below HSr.out.blk B1.out)
     clear hb hc1 hc3
     have hb0 := HSZ.out
     have hs0 := HK.out.1
     have hs1 := B1.out.size
     have S1 : Aside0 (Seg w1 base g n o (.slice At t.length ct) (.slice As s.length cs) t s) := ⟨⟨K1.out, HSr.out.ge, Kd.R_below HSr.out.ht B1.out, Kd.R_below HSr.out.hs B1.out⟩⟩
     have HB1 : Aside0 (Below base w0 w1) := ⟨HBr.out.trans (B1.out.mono (by omega))⟩
     have HG1 : Aside0 (KeptG w w1 g) := ⟨⟨by omega, fun q hq h1 => by rw [B1.out.block q (by omega), HK.out.2 q hq h1]⟩⟩
     have HW1 := Aside0.mk hs1
     have HW0 := Aside0.mk hs0
     clear hb0 hs0 hs1 HK HBr
     go_wp2
     try simp only [Act.put, List.getElem_toArray, List.getElem_cons_succ, List.getElem_cons_zero, List.setIfInBounds_toArray, List.set_cons_succ, List.set_cons_zero]
     go_loopg [3, 5] k (fun kq v3 _ wq => ∃ (vt : Value) (t th : List S45), Aside0 (settleE.l1 kq n t th = some (t3, th3)) ∧ Aside0 (Seg wq base g n o vt (.slice As s.length cs) t s) ∧ Aside0 (Below base w0 wq) ∧ Aside0 (KeptG w wq g) ∧ Aside0 (kq ≤ k) ∧ Aside0 (Kd.R k45 45 wq w1.heap.size (fun _ => True) v3 th) ∧ Aside0 (∀ j, vt.ownBlock = some j → j < w1.heap.size) ∧ Aside0 (w1.heap.size ≤ wq.heap.size))
     case atStart => exact ⟨_, t, [], A2, S1, HB1, HG1, ⟨Nat.le_refl _⟩, ⟨Kd.R_nil _ _ _ _ _⟩, ⟨fun j hj => Kd.R_lt S1.out.ht j hj⟩, ⟨Nat.le_refl _⟩⟩
     case round =>
      have hslt : ∀ j, (Value.slice As s.length cs).ownBlock = some j → j < w1.heap.size := fun j hj => Kd.R_lt S1.out.hs j hj
      have HSLT := Aside0.mk hslt
      clear hslt
      obtain ⟨vt, t, th, HA, HSq, HBq, HKq, HKQ2, HTq, HVq, HWq⟩ := hrel
      cases gk with
      | zero => exact absurd HA.out (by simp [settleE.l1])
      | succ k3 =>
       have H := HA.out
       clear HA
       simp only [settleE.l1] at H
       obtain ⟨b, A7, H⟩ := Option.bind_eq_some_iff.mp H
       have A7 := Aside0.mk A7
       obtain ⟨A3', c3', e3'⟩ := Kd.R_slice HTq.out
       subst e3'
       cases b with
       | true =>
        simp only [if_true, Option.some.injEq, Prod.mk.injEq] at H
        obtain ⟨rfl, rfl⟩ := H
        obtain ⟨At2, ct2, et2⟩ := Kd.R_slice HSq.out.ht
        subst et2
        have hc0 : wr.cell? ⟨g, 0, none⟩ = some (.int .i64 n) := (blk_cell HSq.out.blk 0).trans rfl
        have hc2 : wr.cell? ⟨g, 2, none⟩ = some (.slice At2 t.length ct2) := (blk_cell HSq.out.blk 2).trans rfl
        go_wp2
        go_region_with (go_at_call 59; refine (impl_fits.calls k3 At2 ct2 t n true _ (Kd.C_drew (Kd.R_reads' HSq.out.ht).2.2) (Kd.R_reads' HSq.out.ht).2.1 A7.out).mono ?_; rintro e w5 ⟨rfl, hb⟩)
        all_goals
         have B5 : Aside0 (Below wr.heap.size wr w5) := ⟨below_then (below_drew (Below.refl _ _)) (Nat.le_refl _) hb⟩
         clear hb hc0 hc2
         go_wp2
         go_ret
         have h1 := HW0.out
         have h2 := HW1.out
         have h3 := HWq.out
         have h4 := B5.out.size
         have h5 := HSZ.out
         exact ⟨_, _, _, w1.heap.size, rfl, ⟨blk_below HSq.out.blk B5.out, HSq.out.ge, Kd.R_below HSq.out.ht B5.out, Kd.R_below HSq.out.hs B5.out⟩, by omega, Kd.R_below HTq.out B5.out, HVq.out, HSLT.out, HBq.out.trans (B5.out.mono (by omega)), ⟨by omega, fun q hq hh => by rw [B5.out.block q (by omega), HKq.out.2 q hq hh]⟩⟩
       | false =>
        rw [if_neg (by simp)] at H
        by_cases c8 : 0 < t.length
        ·rw [if_pos c8] at H
         by_cases c9 : th.length + 1 < 4398046511104
         ·rw [if_pos c9] at H
          have LM := Aside0.mk c9
          obtain ⟨g2, cap2, ev2, _, _, _⟩ := Kd.R_form HSq.out.ht c8
          subst ev2
          have hc0 : wr.cell? ⟨g, 0, none⟩ = some (.int .i64 n) := (blk_cell HSq.out.blk 0).trans rfl
          have hc2 : wr.cell? ⟨g, 2, none⟩ = some (.slice (some ⟨g2, 0, none⟩) t.length cap2) := (blk_cell HSq.out.blk 2).trans rfl
          have hmx := Kd.C_max (Kd.R_reads' HSq.out.ht).2.2
          obtain ⟨li, hli⟩ : ∃ li : Nat, li + 1 = t.length := ⟨t.length - 1, by omega⟩
          have hw : wrap64 ((t.length : Int) - 1) = (li : Int) := by unfold wrap64; omega
          have hlt : ((li : Int) < (t.length : Int)) = True := eq_true (by omega)
          have hl0 : (0 ≤ (li : Int)) = True := eq_true (by omega)
          have hle : ((li : Int) ≤ (t.length : Int)) = True := eq_true (by omega)
          have hlc : ((li : Int) ≤ (cap2 : Int)) = True := eq_true (by have := (Kd.R_reads' HSq.out.ht).2.1; omega)
          rw [show ((t.length : Int) - 1) = (li : Int) by omega] at H
          have H6 := Aside0.mk H
          have HLI := Aside0.mk hli
          clear hli c8 c9 hmx H
          go_wp2
          go_region_with (go_at_call 59; refine (impl_fits.calls k3 (some ⟨g2, 0, none⟩) cap2 t n false _ (Kd.C_drew (Kd.R_reads' HSq.out.ht).2.2) (Kd.R_reads' HSq.out.ht).2.1 A7.out).mono ?_; rintro e w5 ⟨rfl, hb⟩)
          all_goals
           have B5 : Aside0 (Below wr.heap.size wr w5) := ⟨below_then (below_drew (Below.refl _ _)) (Nat.le_refl _) hb⟩
           have K5 := Aside0.mk (blk_below HSq.out.blk B5.out)
           clear hb hc0 hc2
           have hc2 : w5.cell? ⟨g, 2, none⟩ = some (.slice (some ⟨g2, 0, none⟩) t.length cap2) := (blk_cell K5.out 2).trans rfl
           have HT5 := Aside0.mk (Kd.R_below HTq.out B5.out)
           obtain ⟨ad, ea, hx0, hx1⟩ := at_T45 (Kd.C_below (Kd.R_reads' HSq.out.ht).2.2 B5.out) (li : Int) (by omega) (by have := HLI.out; omega)
           cases ea
           simp only [Int.toNat_natCast, add_plain] at hx0 hx1
           have hsz5 := Aside0.mk (show w1.heap.size ≤ w5.heap.size by have := HWq.out; have := B5.out.size; omega)
           go_wp2_with (first
            | ((with_reducible refine gate_builtin (b := .append) (xs := #[.tmp 62, .tmp 70]) rfl ?_); at_builtin; refine Kd.R_append k45 (w0 := w5) w1.heap.size rfl (.tmp 62) (.tmp 70) 26 45 (.agg #[(.string ⟨#[]⟩), (.string ⟨#[]⟩)]) 32 rfl Try.underlying26 info45 rfl (by decide) (by omega) (.slice A3' th.length c3') th (rd_T45 t (li : Int)) [.string (rd_T45 t (li : Int)).f0, .string (rd_T45 t (li : Int)).f1] (fun _ => True) (fun _ => False) rfl rfl ?aP (fun _ hk => hk.elim) ?aF ?aO ?aB ?aS ?aL ?_; (case aP => exact k45_mkM _ _ _ _); (case aB => exact Below.refl _ _); (case aF => exact (fun _ _ => trivial)); (case aO => exact HT5.out); (case aS => exact hsz5.out); (case aL => have := LM.out; omega); intro v8 w8 ho hb hg hat; have HO8 := Aside0.mk ho; have HG8 := Aside0.mk hg; have K8 := Aside0.mk (blk_grown K5.out hg (Kd.R_ne HT5.out K5.out (by decide))); clear ho hb hg hat hc2 hx0 hx1; obtain ⟨A8, c8', e8⟩ := Kd.R_slice HO8.out; subst e8; have hc2 : w8.cell? ⟨g, 2, none⟩ = some (.slice (some ⟨g2, 0, none⟩) t.length cap2) := (blk_cell K8.out 2).trans rfl; have hf2 := blk_frozen K8.out 2))
           go_roundg k3
           case measure => omega
           case rel =>
            have hv3 : ∀ j, (Value.slice A3' th.length c3').ownBlock = some j → w1.heap.size ≤ j := fun j hj => Kd.R_base HTq.out j hj
            have hs5 := B5.out.size
            have hs8 := HG8.out.size
            have hsq := HWq.out
            have hb0 := HSZ.out
            have hw0 := HW0.out
            have hw1 := HW1.out
            have hk0 := HKq.out.1
            have hfar : ∀ q, q < w1.heap.size → q ≠ g → (w8.setCell ⟨g, 2, none⟩ (.slice (some ⟨g2, 0, none⟩) li cap2)).heap[q]? = wr.heap[q]? := fun q hq h1 => by
             rw [Below.heap_setCell _ _ _ q (by show q ≠ g; exact h1), HG8.out.block q (by omega) (fun e => by have := hv3 q e.symm; omega), B5.out.block q (by omega)]
            have hg2 : g2 < w1.heap.size := HVq.out g2 rfl
            refine ⟨.slice (some ⟨g2, 0, none⟩) li cap2, t.take (t.length - 1), th ++ [rd_T45 t (li : Int)], H6, ⟨⟨?_, HSq.out.ge, ?_, ?_⟩⟩, ⟨?_⟩, ⟨?_⟩, ⟨by have := HKQ2.out; omega⟩, ⟨?_⟩, ⟨fun j hj => HVq.out j (by simpa [Value.ownBlock] using hj)⟩, ⟨by simp only [World.setCell, Array.size_modify]; omega⟩⟩
            ·exact blk_put (cs := #[.int .i64 n, .int .i64 o, .slice (some ⟨g2, 0, none⟩) t.length cap2, .slice As s.length cs]) K8.out 2 _ rfl
            ·rw [show t.length - 1 = li by have := HLI.out; omega]
             refine Kd.R_take (n := t.length) (row_move HSq.out.ht (fun q hq => ?_)) (by have := HLI.out; omega)
             obtain rfl : g2 = q := by simpa [Value.ownBlock] using hq
             exact hfar g2 hg2 (fun e => Kd.R_ne HSq.out.ht HSq.out.blk (by decide) (by rw [← e]; rfl))
            ·refine row_ok (row_move HSq.out.hs (fun q hq => hfar q (HSLT.out q hq) (fun e => Kd.R_ne HSq.out.hs HSq.out.blk (by decide) (by rw [← e, hq])))) (fun q hq e => ?_)
             exact HSq.out.hs.1 q hq (by simpa [Value.ownBlock] using e)
            ·exact ((HBq.out.trans (B5.out.mono (by omega))).trans ⟨HG8.out.os, HG8.out.tape, HG8.out.output, HG8.out.size, fun q hq => HG8.out.block q (by omega) (fun e => by have := hv3 q e.symm; omega)⟩).setCell HSq.out.ge _
            ·refine ⟨by simp only [World.setCell, Array.size_modify]; omega, fun q hq h1 => ?_⟩
             rw [hfar q (by omega) h1, HKq.out.2 q hq h1]
            ·have HO9 := HO8.out
             rw [List.length_append, List.length_singleton] at HO9
             refine row_move HO9 (fun q hq => ?_)
             rw [Below.heap_setCell _ _ _ q (by show q ≠ g; exact fun e => Kd.R_ne HO9 K8.out (by decide) (by rw [← e, hq]))]
         ·rw [if_neg c9] at H; exact absurd H (by simp)
        ·rw [if_neg c8] at H; exact absurd H (by simp)
   | false =>
    rw [if_neg (by simp)] at H
    by_cases c4 : 0 < s.length
    ·rw [if_pos c4] at H
     obtain ⟨t', A5, H⟩ := Option.bind_eq_some_iff.mp H
     have H6 := Aside0.mk H
     clear H
     obtain ⟨g1, cap, ev, _, _, _⟩ := Kd.R_form HSr.out.hs c4
     subst ev
     have hc1 : wr.cell? ⟨g, 1, none⟩ = some (.int .i64 o) := (blk_cell HSr.out.blk 1).trans rfl
     have hc3 : wr.cell? ⟨g, 3, none⟩ = some (.slice (some ⟨g1, 0, none⟩) s.length cap) := (blk_cell HSr.out.blk 3).trans rfl
     have hmx := Kd.C_max (Kd.R_reads' HSr.out.hs).2.2
     obtain ⟨li, hli⟩ : ∃ li : Nat, li + 1 = s.length := ⟨s.length - 1, by omega⟩
     have hw : wrap64 ((s.length : Int) - 1) = (li : Int) := by unfold wrap64; omega
     have hlt : ((li : Int) < (s.length : Int)) = True := eq_true (by omega)
     have hl0 : (0 ≤ (li : Int)) = True := eq_true (by omega)
     have hle : ((li : Int) ≤ (s.length : Int)) = True := eq_true (by omega)
     have hlc : ((li : Int) ≤ (cap : Int)) = True := eq_true (by have := (Kd.R_reads' HSr.out.hs).2.1; omega)
     rw [show ((s.length : Int) - 1) = (li : Int) by omega] at A5
     have A5 := Aside0.mk A5
     have HLI := Aside0.mk hli
     clear hli c4 hmx
     go_wp2
     go_region_with (go_at_call 59; refine (impl_fits.calls k2 (some ⟨g1, 0, none⟩) cap s o false _ (Kd.C_drew (Kd.R_reads' HSr.out.hs).2.2) (Kd.R_reads' HSr.out.hs).2.1 A3.out).mono ?_; rintro e w1 ⟨rfl, hb⟩)
     all_goals
      have B1 : Aside0 (Below wr.heap.size wr w1) := ⟨below_then (below_drew (Below.refl _ _)) (Nat.le_refl _) hb⟩
      have K1 := Aside0.mk (blk_below HSr.out.blk B1.out)
      clear hb hc1 hc3
      have hc3 : w1.cell? ⟨g, 3, none⟩ = some (.slice (some ⟨g1, 0, none⟩) s.length cap) := (blk_cell K1.out 3).trans rfl
      have hc2 : w1.cell? ⟨g, 2, none⟩ = some (.slice At t.length ct) := (blk_cell K1.out 2).trans rfl
      obtain ⟨ad, ea, hx0, hx1⟩ := at_T45 (Kd.C_below (Kd.R_reads' HSr.out.hs).2.2 B1.out) (li : Int) (by omega) (by have := HLI.out; omega)
      cases ea
      simp only [Int.toNat_natCast, add_plain] at hx0 hx1
      go_wp2
      go_region_with (go_at_call 77; refine (impl_ahead.calls At ct t (rd_T45 s (li : Int)).f0 (rd_T45 s (li : Int)).f1 t' _ (Kd.C_drew (Kd.C_below (Kd.R_reads' HSr.out.ht).2.2 B1.out)) (Kd.R_reads' HSr.out.ht).2.1 A5.out).mono ?_; rintro e w2 ⟨v2, rfl, ho, hb⟩; have B2 : Aside0 (Below w1.heap.size w1 w2) := ⟨below_then (below_drew (Below.refl _ _)) (Nat.le_refl _) hb⟩; have K2 := Aside0.mk (blk_below K1.out B2.out); have HO2 : Aside0 (Kd.R k45 45 w2 w1.heap.size (fun _ => True) v2 t') := ⟨Kd.R_lower ho (Nat.le_refl _)⟩; clear ho hb hc3 hc2 hx0 hx1; obtain ⟨A2', c2', e2'⟩ := Kd.R_slice HO2.out; subst e2'; have hc3 : w2.cell? ⟨g, 3, none⟩ = some (.slice (some ⟨g1, 0, none⟩) s.length cap) := (blk_cell K2.out 3).trans rfl; have hc2 : w2.cell? ⟨g, 2, none⟩ = some (.slice At t.length ct) := (blk_cell K2.out 2).trans rfl; have hf2 := blk_frozen K2.out 2; have hf3 := blk_frozen K2.out 3)
     all_goals
      go_wp2
      go_roundg k2
      case measure => omega
      case rel =>
       have hg1 : g1 < wr.heap.size := Kd.R_lt HSr.out.hs g1 rfl
       have hgw : g < wr.heap.size := blk_lt HSr.out.blk
       have hs1 := B1.out.size
       have hs2 := B2.out.size
       have hs0 := HK.out.1
       have hb0 := HSZ.out
       have hfar : ∀ q, q ≠ g → ((w2.setCell ⟨g, 2, none⟩ (.slice A2' t'.length c2')).setCell ⟨g, 3, none⟩ (.slice (some ⟨g1, 0, none⟩) li cap)).heap[q]? = w2.heap[q]? := fun q hq => by
        rw [Below.heap_setCell _ _ _ q (by show q ≠ g; exact hq), Below.heap_setCell _ _ _ q (by show q ≠ g; exact hq)]
       have hold : ∀ q, q < wr.heap.size → w2.heap[q]? = wr.heap[q]? := fun q hq => by rw [B2.out.block q (by omega), B1.out.block q hq]
       refine ⟨.slice A2' t'.length c2', .slice (some ⟨g1, 0, none⟩) li cap, t', s.take (s.length - 1), H6, ⟨⟨?_, HSr.out.ge, ?_, ?_⟩⟩, ⟨?_⟩, ⟨?_⟩, ⟨by have := HKQ.out; omega⟩⟩
       ·exact blk_put (cs := #[.int .i64 n, .int .i64 o, .slice A2' t'.length c2', .slice (some ⟨g1, 0, none⟩) s.length cap]) (blk_put (cs := #[.int .i64 n, .int .i64 o, .slice At t.length ct, .slice (some ⟨g1, 0, none⟩) s.length cap]) K2.out 2 _ rfl) 3 _ rfl
       ·refine row_ok (row_move (Kd.R_lower HO2.out (by omega)) (fun q hq => hfar q (by have := Kd.R_base HO2.out q hq; omega))) (fun q hq e => ?_)
        have := Kd.R_base HO2.out q hq
        have e2 : q = g1 := by simpa [Value.ownBlock] using e
        omega
       ·rw [show s.length - 1 = li by have := HLI.out; omega]
        refine Kd.R_take (n := s.length) (row_ok (row_move HSr.out.hs (fun q hq => ?_)) (fun q hq e => ?_)) (by have := HLI.out; omega)
        ·obtain rfl : g1 = q := by simpa [Value.ownBlock] using hq
         rw [hfar g1 (fun e => Kd.R_ne HSr.out.hs HSr.out.blk (by decide) (by rw [← e]; rfl)), hold g1 hg1]
        ·obtain rfl : g1 = q := by simpa [Value.ownBlock] using hq
         have := Kd.R_base HO2.out g1 e.symm
         omega
       ·exact ((((HBr.out.trans (B1.out.mono (by omega))).trans (B2.out.mono (by omega))).setCell HSr.out.ge _).setCell HSr.out.ge _)
       ·refine ⟨by simp only [World.setCell, Array.size_modify]; omega, fun q hq h1 => ?_⟩
        rw [hfar q h1, hold q (by omega), HK.out.2 q hq h1]
    ·rw [if_neg c4] at H; exact absurd H (by simp)

/-! ### put: function 52 -/
def impl_Segmented_put.f (k : Nat) (a0_0 : Int) (a0_1 : Int) (l0_2 : List (S45)) (l0_3 : List (S45)) (a1_0 : ByteArray) (a1_1 : ByteArray) : Option (Int × Int × (List (S45)) × (List (S45)) × (List (S45))) := (impl_Segmented_own.f a0_0 a0_1 l0_2 l0_3).bind fun o => (if (takeE a1_0 o.2.2.1 o.2.2.2).2.1 = true then ((impl_ahead.f (takeE a1_0 o.2.2.1 o.2.2.2).2.2.2.2 a1_0 a1_1).bind fun q => (settleE.f k o.1 o.2.1 (takeE a1_0 o.2.2.1 o.2.2.2).2.2.2.1 q).bind fun z => (impl_Segmented_own.f o.1 o.2.1 z.1 z.2.1).bind fun y => some (y.1, y.2.1, y.2.2.1, y.2.2.2, z.2.2)) else ((impl_ahead.f (takeE a1_0 o.2.2.1 o.2.2.2).2.2.2.1 a1_0 a1_1).bind fun q => (settleE.f k o.1 o.2.1 q (takeE a1_0 o.2.2.1 o.2.2.2).2.2.2.2).bind fun z => (impl_Segmented_own.f o.1 o.2.1 z.1 z.2.1).bind fun y => some (y.1, y.2.1, y.2.2.1, y.2.2.2, z.2.2)))
theorem impl_Segmented_put.mono : ∀ a0_0 a0_1 l0_2 l0_3 a1_0 a1_1 k, LeO (impl_Segmented_put.f k a0_0 a0_1 l0_2 l0_3 a1_0 a1_1) (impl_Segmented_put.f (k + 1) a0_0 a0_1 l0_2 l0_3 a1_0 a1_1) := by
 intro a0_0 a0_1 l0_2 l0_3 a1_0 a1_1 k
 unfold impl_Segmented_put.f
 repeat' first
   | (with_reducible exact settleE.mono _ _ _ _ _)
   | (with_reducible exact LeO.refl _)
   | (with_reducible exact LeO.none _)
   | (with_reducible refine LeO.ite ?_ ?_)
   | (with_reducible refine LeO.bind ?_ (fun _ => ?_))

set_option maxHeartbeats 4000000 in
set_option maxRecDepth 100000 in
theorem impl_Segmented_put.calls (k : Nat) (a0_0 : Int) (a0_1 : Int) (A0_2 : Option Addr) (c0_2 : Nat) (l0_2 : List (S45)) (A0_3 : Option Addr) (c0_3 : Nat) (l0_3 : List (S45)) (a1_0 : ByteArray) (a1_1 : ByteArray) (r1 : Int) (r2 : Int) (r3 : List (S45)) (r4 : List (S45)) (r5 : List (S45)) (w : World) (hr0_2 : Kd.C k45 w A0_2 l0_2.length l0_2) (hc0_2 : l0_2.length ≤ c0_2) (hr0_3 : Kd.C k45 w A0_3 l0_3.length l0_3) (hc0_3 : l0_3.length ≤ c0_3) (h : impl_Segmented_put.f k a0_0 a0_1 l0_2 l0_3 a1_0 a1_1 = some (r1, r2, r3, r4, r5)) :
  Calls Try.prog 52 #[.agg #[.int .i64 a0_0, .int .i64 a0_1, .slice A0_2 l0_2.length c0_2, .slice A0_3 l0_3.length c0_3], .agg #[.string a1_0, .string a1_1]] w fun e w' => ∃ v2_ v3_ v4_ : Value, e = .returned (.tuple #[.agg #[.int .i64 r1, .int .i64 r2, v2_, v3_], v4_]) ∧ Kd.R k45 45 w' w.heap.size (fun k_ => some k_ ≠ (v3_ : Value).ownBlock ∧ some k_ ≠ (v4_ : Value).ownBlock) v2_ r3 ∧ Kd.R k45 45 w' w.heap.size (fun k_ => some k_ ≠ (v2_ : Value).ownBlock ∧ some k_ ≠ (v4_ : Value).ownBlock) v3_ r4 ∧ Kd.R k45 45 w' w.heap.size (fun k_ => some k_ ≠ (v2_ : Value).ownBlock ∧ some k_ ≠ (v3_ : Value).ownBlock) v4_ r5 ∧ Below w.heap.size w w' := by
 have HR2 := Aside0.mk hr0_2
 have HR3 := Aside0.mk hr0_3
 have HC2 := Aside0.mk hc0_2
 have HC3 := Aside0.mk hc0_3
 clear hr0_2 hr0_3 hc0_2 hc0_3
 have hu28 := Try.underlying28
 have hu45 := Try.underlying45
 unfold impl_Segmented_put.f at h
 obtain ⟨⟨o1, o2, t0, s0⟩, A1, h2⟩ := Option.bind_eq_some_iff.mp h
 clear h
 obtain ⟨rfl, rfl⟩ := own_numbers A1
 have h := h2
 clear h2
 dsimp only at h
 have A1 := Aside0.mk A1
 by_cases hc : (takeE a1_0 t0 s0).2.1 = true
 ·rw [if_pos hc] at h
  have HTK : Aside0 ((takeE a1_0 t0 s0).2.1 = true) := ⟨by simpa using hc⟩
  clear hc
  obtain ⟨q, A2, h⟩ := Option.bind_eq_some_iff.mp h
  obtain ⟨⟨t2, s2, th⟩, A3, h⟩ := Option.bind_eq_some_iff.mp h
  obtain ⟨⟨y1, y2, y3, y4⟩, A4, h⟩ := Option.bind_eq_some_iff.mp h
  simp only [Option.some.injEq, Prod.mk.injEq] at h
  obtain ⟨rfl, rfl, rfl, rfl, rfl⟩ := h
  try dsimp only at A2 A3 A4
  have A2 := Aside0.mk A2
  have A3 := Aside0.mk A3
  have A4 := Aside0.mk A4
  go_enter Try.func52, Try.ntmps52
  go_wp2_with (first
     | ((with_reducible refine gate_dst (N := 2) rfl ?_); refine box_event ?hg (N := 2) ?hd (cs := #[.int .i64 a0_0, .int .i64 a0_1, .slice A0_2 l0_2.length c0_2, .slice A0_3 l0_3.length c0_3]) (t := 28) ?hr ?_; (case hd => rfl); (case hg => rfl); (case hr => first | (go_simp; done) | (go_simp; rfl)); intro b2 hb2 x1 kb hb; have HB := Aside0.mk hb; have K2 := Aside0.mk kb; have G2 := Aside0.mk hb2; clear hb kb hb2)
     | ((with_reducible refine gate_dst (N := 3) rfl ?_); refine box_event ?hg (N := 3) ?hd (cs := #[.string a1_0, .string a1_1]) (t := 45) ?hr ?_; (case hd => rfl); (case hg => rfl); (case hr => first | (go_simp; done) | (go_simp; rfl)); intro b3 hb3 x2 kb hb; have n0_ := Aside0.mk (below_then HB.out HB.out.size hb); have n1_ := Aside0.mk (blk_below K2.out hb); clear HB K2; have HB := n0_; have K2 := n1_; have K3 := Aside0.mk kb; clear hb kb hb3 n0_ n1_)
     | ((with_reducible refine gate_dst (N := 4) rfl ?_); refine box_event ?hg (N := 4) ?hd (cs := #[.int .i64 0, .int .i64 0, .slice none 0 0, .slice none 0 0]) (t := 28) ?hr ?_; (case hd => rfl); (case hg => rfl); (case hr => first | (go_simp; done) | (go_simp; rfl)); intro b4 hb4 x3 kb hb; have G4 : Aside0 (w.heap.size ≤ b4) := ⟨by rw [hb4]; exact HB.out.size⟩; have n0_ := Aside0.mk (below_then HB.out HB.out.size hb); have n1_ := Aside0.mk (blk_below K2.out hb); have n2_ := Aside0.mk (blk_below K3.out hb); clear HB K2 K3; have HB := n0_; have K2 := n1_; have K3 := n2_; have K4 := Aside0.mk kb; clear hb kb hb4 n0_ n1_ n2_; have hz0 : x3.cell? ⟨b2, 0, none⟩ = some (.int .i64 a0_0) := (blk_cell K2.out 0).trans rfl; have hz1 : x3.cell? ⟨b2, 1, none⟩ = some (.int .i64 a0_1) := (blk_cell K2.out 1).trans rfl; have hz2 : x3.cell? ⟨b2, 2, none⟩ = some (.slice A0_2 l0_2.length c0_2) := (blk_cell K2.out 2).trans rfl; have hz3 : x3.cell? ⟨b2, 3, none⟩ = some (.slice A0_3 l0_3.length c0_3) := (blk_cell K2.out 3).trans rfl)
     | (go_at_call 45; (with_reducible refine (impl_Segmented_own.calls a0_0 a0_1 A0_2 c0_2 l0_2 A0_3 c0_3 l0_3 a0_0 a0_1 t0 s0 x3 (Kd.C_below HR2.out HB.out) HC2.out (Kd.C_below HR3.out HB.out) HC3.out A1.out).mono ?_); rintro e x4 ⟨vt, vs, rfl, ho1, ho2, hb⟩; have HT := Aside0.mk ho1; have HS := Aside0.mk ho2; have BO := Aside0.mk hb; clear ho1 ho2 hb hz0 hz1 hz2 hz3; obtain ⟨At, ct, et⟩ := Kd.R_slice HT.out; subst et; obtain ⟨As, cs, es⟩ := Kd.R_slice HS.out; subst es; have h3l : b3 < x3.heap.size := blk_lt K3.out; have h3m : b3 < x4.heap.size := (by have := BO.out.size; omega); have hk0 : x4.cell? ⟨b3, 0, none⟩ = some (.string a1_0) := ((BO.out.cell (p := ⟨b3, 0, none⟩) h3l).trans (blk_cell K3.out 0)).trans rfl)
     | (go_at_call 46; refine (take.calls x3.heap.size x4.heap.size a0_0 a0_1 (.slice At t0.length ct) (.slice As s0.length cs) t0 s0 a1_0 x3 _ ⟨blk_new x4 _, BO.out.size, Kd.R_alloc HT.out _, Kd.R_alloc HS.out _⟩ (BO.out.alloc BO.out.size _) (by have := BO.out.size; simp only [World.size_alloc]; omega)).mono ?_; rintro e x5 ⟨rfl, ⟨vt', vs', hseg⟩, hb, hk⟩; rw [HTK.out]; have SG := Aside0.mk hseg; have B5 := Aside0.mk hb; clear hseg hb hk; obtain ⟨At', ct', et⟩ := Kd.R_slice SG.out.ht; subst et; obtain ⟨As', cs', es⟩ := Kd.R_slice SG.out.hs; subst es; have hg5 : x4.heap.size < x5.heap.size := blk_lt SG.out.blk; clear hk0 h3m; have h3m : b3 < x5.heap.size := (by have := BO.out.size; omega); have hk0 : x5.cell? ⟨b3, 0, none⟩ = some (.string a1_0) := ((B5.out.cell (p := ⟨b3, 0, none⟩) h3l).trans (blk_cell K3.out 0)).trans rfl; have hk1 : x5.cell? ⟨b3, 1, none⟩ = some (.string a1_1) := ((B5.out.cell (p := ⟨b3, 1, none⟩) h3l).trans (blk_cell K3.out 1)).trans rfl; have hm3 : x5.cell? ⟨x4.heap.size, 3, none⟩ = some (.slice As' (takeE a1_0 t0 s0).2.2.2.2.length cs') := (blk_cell SG.out.blk 3).trans rfl)
     | (go_at_call 77; refine (impl_ahead.calls As' cs' (takeE a1_0 t0 s0).2.2.2.2 a1_0 a1_1 q _ (Kd.C_alloc (Kd.R_reads' SG.out.hs).2.2 _) (Kd.R_reads' SG.out.hs).2.1 A2.out).mono ?_; rintro e x6 ⟨v6, rfl, ho, hb⟩; have O6 : Aside0 (Kd.R k45 45 x6 x5.heap.size (fun _ => True) v6 q) := ⟨Kd.R_lower ho (by simp only [World.size_alloc]; omega)⟩; have B6 : Aside0 (Below x5.heap.size x5 x6) := ⟨below_then (below_alloc (Below.refl _ _) _) (by simp only [World.size_alloc]; omega) hb⟩; clear ho hb hk0 hk1 hm3; obtain ⟨A6, c6, e6⟩ := Kd.R_slice O6.out; subst e6; have K6 := Aside0.mk (blk_below SG.out.blk B6.out); have hm3 := (blk_cell K6.out 3).trans rfl; have hf3 := blk_frozen K6.out 3)
     | (go_at_call 78; have hs5 : x3.heap.size ≤ x5.heap.size := (by have := BO.out.size; omega); have h6s := B6.out.size; refine (settleE.calls x3.heap.size x4.heap.size a0_0 a0_1 (.slice At' (takeE a1_0 t0 s0).2.2.2.1.length ct') (.slice A6 q.length c6) (takeE a1_0 t0 s0).2.2.2.1 q k t2 s2 th x3 _ ⟨blk_put (cs := #[.int .i64 a0_0, .int .i64 a0_1, .slice At' (takeE a1_0 t0 s0).2.2.2.1.length ct', .slice As' (takeE a1_0 t0 s0).2.2.2.2.length cs']) K6.out 3 _ rfl, BO.out.size, row_ok (row_move (Kd.R_below SG.out.ht B6.out) (fun j hj => Below.heap_setCell _ _ _ j (fun e => Kd.R_ne SG.out.ht SG.out.blk (by decide) (by rw [hj]; exact congrArg some e.symm)))) (fun j hj e => by have h1 := Kd.R_lt SG.out.ht j hj; have h2 := Kd.R_base O6.out j e.symm; omega), row_ok (row_move (Kd.R_lower O6.out hs5) (fun j hj => Below.heap_setCell _ _ _ j (fun e => by have h2 := Kd.R_base O6.out j hj; have e2 : j = x4.heap.size := e; omega))) (fun j hj e => by have h1 := Kd.R_lt SG.out.ht j e.symm; have h2 := Kd.R_base O6.out j hj; omega)⟩ ((B5.out.trans (B6.out.mono hs5)).setCell (show x3.heap.size ≤ x4.heap.size from BO.out.size) _) (by simp only [World.setCell, Array.size_modify]; omega) A3.out).mono ?_; rintro e x7 ⟨v7, vt7, vs7, B1, rfl, hseg, hB1, ho, hl1, hl2, hb, hk⟩; have S7 := Aside0.mk hseg; have O7 := Aside0.mk ho; have B7 := Aside0.mk hb; have HB1 : Aside0 (x5.heap.size ≤ B1) := ⟨by simp only [World.setCell, Array.size_modify] at hB1; omega⟩; clear hseg ho hb hk hl1 hl2 hm3 hf3 hB1; obtain ⟨A7t, c7t, e7⟩ := Kd.R_slice S7.out.ht; subst e7; obtain ⟨A7s, c7s, e7⟩ := Kd.R_slice S7.out.hs; subst e7; obtain ⟨A7, c7, e7⟩ := Kd.R_slice O7.out; subst e7; have hy0 : x7.cell? ⟨x4.heap.size, 0, none⟩ = some (.int .i64 a0_0) := (blk_cell S7.out.blk 0).trans rfl; have hy1 : x7.cell? ⟨x4.heap.size, 1, none⟩ = some (.int .i64 a0_1) := (blk_cell S7.out.blk 1).trans rfl; have hy2 : x7.cell? ⟨x4.heap.size, 2, none⟩ = some (.slice A7t t2.length c7t) := (blk_cell S7.out.blk 2).trans rfl; have hy3 : x7.cell? ⟨x4.heap.size, 3, none⟩ = some (.slice A7s s2.length c7s) := (blk_cell S7.out.blk 3).trans rfl)
     | (go_at_call 45; (with_reducible refine (impl_Segmented_own.calls a0_0 a0_1 A7t c7t t2 A7s c7s s2 y1 y2 y3 y4 x7 (Kd.R_reads' S7.out.ht).2.2 (Kd.R_reads' S7.out.ht).2.1 (Kd.R_reads' S7.out.hs).2.2 (Kd.R_reads' S7.out.hs).2.1 A4.out).mono ?_); rintro e x8 ⟨vt8, vs8, rfl, ho1, ho2, hb⟩; have T8 := Aside0.mk ho1; have S8 := Aside0.mk ho2; have B8 := Aside0.mk hb; clear ho1 ho2 hb hy0 hy1 hy2 hy3; obtain ⟨A8t, c8t, e8⟩ := Kd.R_slice T8.out; subst e8; obtain ⟨A8s, c8s, e8⟩ := Kd.R_slice S8.out; subst e8; have h4l : b4 < x3.heap.size := blk_lt K4.out; have h7s : x3.heap.size ≤ x7.heap.size := B7.out.size; have K8 := Aside0.mk (blk_below (show x7.heap[b4]? = _ from (B7.out.block b4 h4l).trans K4.out) B8.out); have hu0 := (blk_cell K8.out 0).trans rfl; have hu1 := (blk_cell K8.out 1).trans rfl; have hu2 := (blk_cell K8.out 2).trans rfl; have hu3 := (blk_cell K8.out 3).trans rfl; have hv0 := blk_frozen K8.out 0; have hv1 := blk_frozen K8.out 1; have hv2 := blk_frozen K8.out 2; have hv3 := blk_frozen K8.out 3))
  have hbb := HB.out
  have h3w : w.heap.size ≤ x3.heap.size := HB.out.size
  have h4w := G4.out
  have e5 := HB1.out
  have hx35 : x3.heap.size ≤ x5.heap.size := by have := B5.out.size; omega
  have hfar : ∀ j, j ≠ b4 → ((((x8.setCell ⟨b4, 0, none⟩ (.int .i64 y1)).setCell ⟨b4, 1, none⟩ (.int .i64 y2)).setCell ⟨b4, 2, none⟩ (.slice A8t y3.length c8t)).setCell ⟨b4, 3, none⟩ (.slice A8s y4.length c8s)).heap[j]? = x8.heap[j]? := fun j hj => by
   rw [Below.heap_setCell _ _ _ j (by show j ≠ b4; exact hj), Below.heap_setCell _ _ _ j (by show j ≠ b4; exact hj), Below.heap_setCell _ _ _ j (by show j ≠ b4; exact hj), Below.heap_setCell _ _ _ j (by show j ≠ b4; exact hj)]
  refine bodyPost_ret (results_ct rfl _ _ b4 28 #[.int .i64 y1, .int .i64 y2, .slice A8t y3.length c8t, .slice A8s y4.length c8s] (0, 0) _ rfl (by refine blk_put (cs := #[.int .i64 y1, .int .i64 y2, .slice A8t y3.length c8t, .slice none 0 0]) ?_ 3 _ rfl; refine blk_put (cs := #[.int .i64 y1, .int .i64 y2, .slice none 0 0, .slice none 0 0]) ?_ 2 _ rfl; refine blk_put (cs := #[.int .i64 y1, .int .i64 0, .slice none 0 0, .slice none 0 0]) ?_ 1 _ rfl; exact blk_put (cs := #[.int .i64 0, .int .i64 0, .slice none 0 0, .slice none 0 0]) K8.out 0 _ rfl) Try.underlying28 rfl (by kernel_rfl)) rfl ?_
  refine ⟨.slice A8t y3.length c8t, .slice A8s y4.length c8s, .slice A7 th.length c7, rfl, ?_, ?_, ?_, ?_⟩
  ·exact row_ok (row_move (Kd.R_lower T8.out (by omega)) (fun j hj => hfar j (by have := Kd.R_base T8.out j hj; omega))) (fun j hj => ⟨T8.out.1 j hj, fun e => by have h1 := Kd.R_base T8.out j hj; have h2 := Kd.R_lt O7.out j e.symm; omega⟩)
  ·exact row_ok (row_move (Kd.R_lower S8.out (by omega)) (fun j hj => hfar j (by have := Kd.R_base S8.out j hj; omega))) (fun j hj => ⟨S8.out.1 j hj, fun e => by have h1 := Kd.R_base S8.out j hj; have h2 := Kd.R_lt O7.out j e.symm; omega⟩)
  ·exact row_ok (row_move (Kd.R_lower (Kd.R_below O7.out B8.out) (by omega)) (fun j hj => hfar j (by have := Kd.R_base O7.out j hj; omega))) (fun j hj => ⟨fun e => by have h1 := Kd.R_base T8.out j e.symm; have h2 := Kd.R_lt O7.out j hj; omega, fun e => by have h1 := Kd.R_base S8.out j e.symm; have h2 := Kd.R_lt O7.out j hj; omega⟩)
  ·exact ((((below_then (below_then HB.out h3w (B7.out.mono (Nat.le_refl _))) (by omega) B8.out).setCell (by show w.heap.size ≤ b4; omega) _).setCell (by show w.heap.size ≤ b4; omega) _).setCell (by show w.heap.size ≤ b4; omega) _).setCell (by show w.heap.size ≤ b4; omega) _

 ·rw [if_neg hc] at h
  have HTK : Aside0 ((takeE a1_0 t0 s0).2.1 = false) := ⟨by simpa using hc⟩
  clear hc
  obtain ⟨q, A2, h⟩ := Option.bind_eq_some_iff.mp h
  obtain ⟨⟨t2, s2, th⟩, A3, h⟩ := Option.bind_eq_some_iff.mp h
  obtain ⟨⟨y1, y2, y3, y4⟩, A4, h⟩ := Option.bind_eq_some_iff.mp h
  simp only [Option.some.injEq, Prod.mk.injEq] at h
  obtain ⟨rfl, rfl, rfl, rfl, rfl⟩ := h
  try dsimp only at A2 A3 A4
  have A2 := Aside0.mk A2
  have A3 := Aside0.mk A3
  have A4 := Aside0.mk A4
  go_enter Try.func52, Try.ntmps52
  go_wp2_with (first
     | ((with_reducible refine gate_dst (N := 2) rfl ?_); refine box_event ?hg (N := 2) ?hd (cs := #[.int .i64 a0_0, .int .i64 a0_1, .slice A0_2 l0_2.length c0_2, .slice A0_3 l0_3.length c0_3]) (t := 28) ?hr ?_; (case hd => rfl); (case hg => rfl); (case hr => first | (go_simp; done) | (go_simp; rfl)); intro b2 hb2 x1 kb hb; have HB := Aside0.mk hb; have K2 := Aside0.mk kb; have G2 := Aside0.mk hb2; clear hb kb hb2)
     | ((with_reducible refine gate_dst (N := 3) rfl ?_); refine box_event ?hg (N := 3) ?hd (cs := #[.string a1_0, .string a1_1]) (t := 45) ?hr ?_; (case hd => rfl); (case hg => rfl); (case hr => first | (go_simp; done) | (go_simp; rfl)); intro b3 hb3 x2 kb hb; have n0_ := Aside0.mk (below_then HB.out HB.out.size hb); have n1_ := Aside0.mk (blk_below K2.out hb); clear HB K2; have HB := n0_; have K2 := n1_; have K3 := Aside0.mk kb; clear hb kb hb3 n0_ n1_)
     | ((with_reducible refine gate_dst (N := 4) rfl ?_); refine box_event ?hg (N := 4) ?hd (cs := #[.int .i64 0, .int .i64 0, .slice none 0 0, .slice none 0 0]) (t := 28) ?hr ?_; (case hd => rfl); (case hg => rfl); (case hr => first | (go_simp; done) | (go_simp; rfl)); intro b4 hb4 x3 kb hb; have G4 : Aside0 (w.heap.size ≤ b4) := ⟨by rw [hb4]; exact HB.out.size⟩; have n0_ := Aside0.mk (below_then HB.out HB.out.size hb); have n1_ := Aside0.mk (blk_below K2.out hb); have n2_ := Aside0.mk (blk_below K3.out hb); clear HB K2 K3; have HB := n0_; have K2 := n1_; have K3 := n2_; have K4 := Aside0.mk kb; clear hb kb hb4 n0_ n1_ n2_; have hz0 : x3.cell? ⟨b2, 0, none⟩ = some (.int .i64 a0_0) := (blk_cell K2.out 0).trans rfl; have hz1 : x3.cell? ⟨b2, 1, none⟩ = some (.int .i64 a0_1) := (blk_cell K2.out 1).trans rfl; have hz2 : x3.cell? ⟨b2, 2, none⟩ = some (.slice A0_2 l0_2.length c0_2) := (blk_cell K2.out 2).trans rfl; have hz3 : x3.cell? ⟨b2, 3, none⟩ = some (.slice A0_3 l0_3.length c0_3) := (blk_cell K2.out 3).trans rfl)
     | (go_at_call 45; (with_reducible refine (impl_Segmented_own.calls a0_0 a0_1 A0_2 c0_2 l0_2 A0_3 c0_3 l0_3 a0_0 a0_1 t0 s0 x3 (Kd.C_below HR2.out HB.out) HC2.out (Kd.C_below HR3.out HB.out) HC3.out A1.out).mono ?_); rintro e x4 ⟨vt, vs, rfl, ho1, ho2, hb⟩; have HT := Aside0.mk ho1; have HS := Aside0.mk ho2; have BO := Aside0.mk hb; clear ho1 ho2 hb hz0 hz1 hz2 hz3; obtain ⟨At, ct, et⟩ := Kd.R_slice HT.out; subst et; obtain ⟨As, cs, es⟩ := Kd.R_slice HS.out; subst es; have h3l : b3 < x3.heap.size := blk_lt K3.out; have h3m : b3 < x4.heap.size := (by have := BO.out.size; omega); have hk0 : x4.cell? ⟨b3, 0, none⟩ = some (.string a1_0) := ((BO.out.cell (p := ⟨b3, 0, none⟩) h3l).trans (blk_cell K3.out 0)).trans rfl)
     | (go_at_call 46; refine (take.calls x3.heap.size x4.heap.size a0_0 a0_1 (.slice At t0.length ct) (.slice As s0.length cs) t0 s0 a1_0 x3 _ ⟨blk_new x4 _, BO.out.size, Kd.R_alloc HT.out _, Kd.R_alloc HS.out _⟩ (BO.out.alloc BO.out.size _) (by have := BO.out.size; simp only [World.size_alloc]; omega)).mono ?_; rintro e x5 ⟨rfl, ⟨vt', vs', hseg⟩, hb, hk⟩; rw [HTK.out]; have SG := Aside0.mk hseg; have B5 := Aside0.mk hb; clear hseg hb hk; obtain ⟨At', ct', et⟩ := Kd.R_slice SG.out.ht; subst et; obtain ⟨As', cs', es⟩ := Kd.R_slice SG.out.hs; subst es; have hg5 : x4.heap.size < x5.heap.size := blk_lt SG.out.blk; clear hk0 h3m; have h3m : b3 < x5.heap.size := (by have := BO.out.size; omega); have hk0 : x5.cell? ⟨b3, 0, none⟩ = some (.string a1_0) := ((B5.out.cell (p := ⟨b3, 0, none⟩) h3l).trans (blk_cell K3.out 0)).trans rfl; have hk1 : x5.cell? ⟨b3, 1, none⟩ = some (.string a1_1) := ((B5.out.cell (p := ⟨b3, 1, none⟩) h3l).trans (blk_cell K3.out 1)).trans rfl; have hm3 : x5.cell? ⟨x4.heap.size, 2, none⟩ = some (.slice At' (takeE a1_0 t0 s0).2.2.2.1.length ct') := (blk_cell SG.out.blk 2).trans rfl)
     | (go_at_call 77; refine (impl_ahead.calls At' ct' (takeE a1_0 t0 s0).2.2.2.1 a1_0 a1_1 q _ (Kd.C_alloc (Kd.R_reads' SG.out.ht).2.2 _) (Kd.R_reads' SG.out.ht).2.1 A2.out).mono ?_; rintro e x6 ⟨v6, rfl, ho, hb⟩; have O6 : Aside0 (Kd.R k45 45 x6 x5.heap.size (fun _ => True) v6 q) := ⟨Kd.R_lower ho (by simp only [World.size_alloc]; omega)⟩; have B6 : Aside0 (Below x5.heap.size x5 x6) := ⟨below_then (below_alloc (Below.refl _ _) _) (by simp only [World.size_alloc]; omega) hb⟩; clear ho hb hk0 hk1 hm3; obtain ⟨A6, c6, e6⟩ := Kd.R_slice O6.out; subst e6; have K6 := Aside0.mk (blk_below SG.out.blk B6.out); have hm3 := (blk_cell K6.out 2).trans rfl; have hf3 := blk_frozen K6.out 2)
     | (go_at_call 78; have hs5 : x3.heap.size ≤ x5.heap.size := (by have := BO.out.size; omega); have h6s := B6.out.size; refine (settleE.calls x3.heap.size x4.heap.size a0_0 a0_1 (.slice A6 q.length c6) (.slice As' (takeE a1_0 t0 s0).2.2.2.2.length cs') q (takeE a1_0 t0 s0).2.2.2.2 k t2 s2 th x3 _ ⟨blk_put (cs := #[.int .i64 a0_0, .int .i64 a0_1, .slice At' (takeE a1_0 t0 s0).2.2.2.1.length ct', .slice As' (takeE a1_0 t0 s0).2.2.2.2.length cs']) K6.out 2 _ rfl, BO.out.size, row_ok (row_move (Kd.R_lower O6.out hs5) (fun j hj => Below.heap_setCell _ _ _ j (fun e => by have h2 := Kd.R_base O6.out j hj; have e2 : j = x4.heap.size := e; omega))) (fun j hj e => by have h1 := Kd.R_lt SG.out.hs j e.symm; have h2 := Kd.R_base O6.out j hj; omega), row_ok (row_move (Kd.R_below SG.out.hs B6.out) (fun j hj => Below.heap_setCell _ _ _ j (fun e => Kd.R_ne SG.out.hs SG.out.blk (by decide) (by rw [hj]; exact congrArg some e.symm)))) (fun j hj e => by have h1 := Kd.R_lt SG.out.hs j hj; have h2 := Kd.R_base O6.out j e.symm; omega)⟩ ((B5.out.trans (B6.out.mono hs5)).setCell (show x3.heap.size ≤ x4.heap.size from BO.out.size) _) (by simp only [World.setCell, Array.size_modify]; omega) A3.out).mono ?_; rintro e x7 ⟨v7, vt7, vs7, B1, rfl, hseg, hB1, ho, hl1, hl2, hb, hk⟩; have S7 := Aside0.mk hseg; have O7 := Aside0.mk ho; have B7 := Aside0.mk hb; have HB1 : Aside0 (x5.heap.size ≤ B1) := ⟨by simp only [World.setCell, Array.size_modify] at hB1; omega⟩; clear hseg ho hb hk hl1 hl2 hm3 hf3 hB1; obtain ⟨A7t, c7t, e7⟩ := Kd.R_slice S7.out.ht; subst e7; obtain ⟨A7s, c7s, e7⟩ := Kd.R_slice S7.out.hs; subst e7; obtain ⟨A7, c7, e7⟩ := Kd.R_slice O7.out; subst e7; have hy0 : x7.cell? ⟨x4.heap.size, 0, none⟩ = some (.int .i64 a0_0) := (blk_cell S7.out.blk 0).trans rfl; have hy1 : x7.cell? ⟨x4.heap.size, 1, none⟩ = some (.int .i64 a0_1) := (blk_cell S7.out.blk 1).trans rfl; have hy2 : x7.cell? ⟨x4.heap.size, 2, none⟩ = some (.slice A7t t2.length c7t) := (blk_cell S7.out.blk 2).trans rfl; have hy3 : x7.cell? ⟨x4.heap.size, 3, none⟩ = some (.slice A7s s2.length c7s) := (blk_cell S7.out.blk 3).trans rfl)
     | (go_at_call 45; (with_reducible refine (impl_Segmented_own.calls a0_0 a0_1 A7t c7t t2 A7s c7s s2 y1 y2 y3 y4 x7 (Kd.R_reads' S7.out.ht).2.2 (Kd.R_reads' S7.out.ht).2.1 (Kd.R_reads' S7.out.hs).2.2 (Kd.R_reads' S7.out.hs).2.1 A4.out).mono ?_); rintro e x8 ⟨vt8, vs8, rfl, ho1, ho2, hb⟩; have T8 := Aside0.mk ho1; have S8 := Aside0.mk ho2; have B8 := Aside0.mk hb; clear ho1 ho2 hb hy0 hy1 hy2 hy3; obtain ⟨A8t, c8t, e8⟩ := Kd.R_slice T8.out; subst e8; obtain ⟨A8s, c8s, e8⟩ := Kd.R_slice S8.out; subst e8; have h4l : b4 < x3.heap.size := blk_lt K4.out; have h7s : x3.heap.size ≤ x7.heap.size := B7.out.size; have K8 := Aside0.mk (blk_below (show x7.heap[b4]? = _ from (B7.out.block b4 h4l).trans K4.out) B8.out); have hu0 := (blk_cell K8.out 0).trans rfl; have hu1 := (blk_cell K8.out 1).trans rfl; have hu2 := (blk_cell K8.out 2).trans rfl; have hu3 := (blk_cell K8.out 3).trans rfl; have hv0 := blk_frozen K8.out 0; have hv1 := blk_frozen K8.out 1; have hv2 := blk_frozen K8.out 2; have hv3 := blk_frozen K8.out 3))
  have hbb := HB.out
  have h3w : w.heap.size ≤ x3.heap.size := HB.out.size
  have h4w := G4.out
  have e5 := HB1.out
  have hx35 : x3.heap.size ≤ x5.heap.size := by have := B5.out.size; omega
  have hfar : ∀ j, j ≠ b4 → ((((x8.setCell ⟨b4, 0, none⟩ (.int .i64 y1)).setCell ⟨b4, 1, none⟩ (.int .i64 y2)).setCell ⟨b4, 2, none⟩ (.slice A8t y3.length c8t)).setCell ⟨b4, 3, none⟩ (.slice A8s y4.length c8s)).heap[j]? = x8.heap[j]? := fun j hj => by
   rw [Below.heap_setCell _ _ _ j (by show j ≠ b4; exact hj), Below.heap_setCell _ _ _ j (by show j ≠ b4; exact hj), Below.heap_setCell _ _ _ j (by show j ≠ b4; exact hj), Below.heap_setCell _ _ _ j (by show j ≠ b4; exact hj)]
  refine bodyPost_ret (results_ct rfl _ _ b4 28 #[.int .i64 y1, .int .i64 y2, .slice A8t y3.length c8t, .slice A8s y4.length c8s] (0, 0) _ rfl (by refine blk_put (cs := #[.int .i64 y1, .int .i64 y2, .slice A8t y3.length c8t, .slice none 0 0]) ?_ 3 _ rfl; refine blk_put (cs := #[.int .i64 y1, .int .i64 y2, .slice none 0 0, .slice none 0 0]) ?_ 2 _ rfl; refine blk_put (cs := #[.int .i64 y1, .int .i64 0, .slice none 0 0, .slice none 0 0]) ?_ 1 _ rfl; exact blk_put (cs := #[.int .i64 0, .int .i64 0, .slice none 0 0, .slice none 0 0]) K8.out 0 _ rfl) Try.underlying28 rfl (by kernel_rfl)) rfl ?_
  refine ⟨.slice A8t y3.length c8t, .slice A8s y4.length c8s, .slice A7 th.length c7, rfl, ?_, ?_, ?_, ?_⟩
  ·exact row_ok (row_move (Kd.R_lower T8.out (by omega)) (fun j hj => hfar j (by have := Kd.R_base T8.out j hj; omega))) (fun j hj => ⟨T8.out.1 j hj, fun e => by have h1 := Kd.R_base T8.out j hj; have h2 := Kd.R_lt O7.out j e.symm; omega⟩)
  ·exact row_ok (row_move (Kd.R_lower S8.out (by omega)) (fun j hj => hfar j (by have := Kd.R_base S8.out j hj; omega))) (fun j hj => ⟨S8.out.1 j hj, fun e => by have h1 := Kd.R_base S8.out j hj; have h2 := Kd.R_lt O7.out j e.symm; omega⟩)
  ·exact row_ok (row_move (Kd.R_lower (Kd.R_below O7.out B8.out) (by omega)) (fun j hj => hfar j (by have := Kd.R_base O7.out j hj; omega))) (fun j hj => ⟨fun e => by have h1 := Kd.R_base T8.out j e.symm; have h2 := Kd.R_lt O7.out j hj; omega, fun e => by have h1 := Kd.R_base S8.out j e.symm; have h2 := Kd.R_lt O7.out j hj; omega⟩)
  ·exact ((((below_then (below_then HB.out h3w (B7.out.mono (Nat.le_refl _))) (by omega) B8.out).setCell (by show w.heap.size ≤ b4; omega) _).setCell (by show w.heap.size ≤ b4; omega) _).setCell (by show w.heap.size ≤ b4; omega) _).setCell (by show w.heap.size ≤ b4; omega) _


/-! ### impl_PutEntry: function 21 -/
def impl_PutEntry.f (k : Nat) (a0_0 : Int) (a0_1 : Int) (l0_2 : List (S45)) (l0_3 : List (S45)) (a1_0 : ByteArray) (a1_1 : ByteArray) : Option (Int × Int × (List (S45)) × (List (S45)) × (List (S45)) × Bool) := (impl_GoodSegmented.f k a0_0 a0_1 l0_2 l0_3).bind fun t172 => (if t172 = true then ((impl_isEntry.f a1_0 a1_1).bind fun t173 => (if t173 = true then ((impl_Segmented_put.f k a0_0 a0_1 l0_2 l0_3 a1_0 a1_1).bind fun bt174 => (some (bt174.1, bt174.2.1, bt174.2.2.1, bt174.2.2.2.1, bt174.2.2.2.2, true))) else (some (0, 0, ([] : List (S45)), ([] : List (S45)), ([] : List (S45)), false)))) else (some (0, 0, ([] : List (S45)), ([] : List (S45)), ([] : List (S45)), false)))
theorem impl_PutEntry.mono : ∀ a0 a1 a2 a3 a4 a5 k, LeO (impl_PutEntry.f k a0 a1 a2 a3 a4 a5) (impl_PutEntry.f (k + 1) a0 a1 a2 a3 a4 a5) := by
 intro a0 a1 a2 a3 a4 a5 k
 unfold impl_PutEntry.f
 repeat' first
   | (with_reducible exact impl_GoodSegmented.mono _ _ _ _ _)
   | (with_reducible exact impl_Segmented_put.mono _ _ _ _ _ _ _)
   | (with_reducible exact LeO.refl _)
   | (with_reducible exact LeO.none _)
   | (with_reducible refine LeO.ite ?_ ?_)
   | (with_reducible refine LeO.bind ?_ (fun _ => ?_))
   | exact impl_GoodSegmented.mono _ _ _ _ _
   | exact impl_Segmented_put.mono _ _ _ _ _ _ _
   | exact LeO.none _
   | refine LeO.ite ?_ ?_
   | refine LeO.bind ?_ (fun _ => ?_)
set_option maxHeartbeats 8000000 in
set_option maxRecDepth 100000 in
theorem impl_PutEntry.calls (k : Nat) (a0_0 : Int) (a0_1 : Int) (A0_2 : Option Addr) (c0_2 : Nat) (l0_2 : List (S45)) (A0_3 : Option Addr) (c0_3 : Nat) (l0_3 : List (S45)) (a1_0 : ByteArray) (a1_1 : ByteArray) (r1 : Int) (r2 : Int) (r3 : List (S45)) (r4 : List (S45)) (r5 : List (S45)) (r6 : Bool) (w : World) (hr0_2 : Kd.C k45 w A0_2 l0_2.length l0_2) (hc0_2 : l0_2.length ≤ c0_2) (hr0_3 : Kd.C k45 w A0_3 l0_3.length l0_3) (hc0_3 : l0_3.length ≤ c0_3) (h : impl_PutEntry.f k a0_0 a0_1 l0_2 l0_3 a1_0 a1_1 = some (r1, r2, r3, r4, r5, r6)) :
  Calls Try.prog 21 #[.agg #[.int .i64 a0_0, .int .i64 a0_1, .slice A0_2 l0_2.length c0_2, .slice A0_3 l0_3.length c0_3], .agg #[.string a1_0, .string a1_1]] w fun e w' => ∃ v2_ v3_ v4_ : Value, e = .returned (.tuple #[.agg #[.int .i64 r1, .int .i64 r2, v2_, v3_], v4_, .bool r6]) ∧ Kd.R k45 45 w' w.heap.size (fun k_ => some k_ ≠ (v3_ : Value).ownBlock ∧ some k_ ≠ (v4_ : Value).ownBlock) v2_ r3 ∧ Kd.R k45 45 w' w.heap.size (fun k_ => some k_ ≠ (v2_ : Value).ownBlock ∧ some k_ ≠ (v4_ : Value).ownBlock) v3_ r4 ∧ Kd.R k45 45 w' w.heap.size (fun k_ => some k_ ≠ (v2_ : Value).ownBlock ∧ some k_ ≠ (v3_ : Value).ownBlock) v4_ r5 ∧ Below w.heap.size w w' := by
 have hu28 := Try.underlying28
 have hu45 := Try.underlying45
 have HR0_2 := Aside0.mk hr0_2
 have HC0_2 := Aside0.mk hc0_2
 clear hr0_2 hc0_2
 have HR0_3 := Aside0.mk hr0_3
 have HC0_3 := Aside0.mk hc0_3
 clear hr0_3 hc0_3
 have HB := Aside0.mk (Below.refl w.heap.size w)
 have H : ((impl_GoodSegmented.f k a0_0 a0_1 l0_2 l0_3).bind fun t172 => (if t172 = true then ((impl_isEntry.f a1_0 a1_1).bind fun t173 => (if t173 = true then ((impl_Segmented_put.f k a0_0 a0_1 l0_2 l0_3 a1_0 a1_1).bind fun bt174 => (some (bt174.1, bt174.2.1, bt174.2.2.1, bt174.2.2.2.1, bt174.2.2.2.2, true))) else (some (0, 0, ([] : List (S45)), ([] : List (S45)), ([] : List (S45)), false)))) else (some (0, 0, ([] : List (S45)), ([] : List (S45)), ([] : List (S45)), false)))) = some (r1, r2, r3, r4, r5, r6) := h
 clear h
 replace H := Option.bind_eq_some_iff.mp H
 obtain ⟨t172, A30, H⟩ := H
 try dsimp only at H
 have A3 := Aside0.mk A30
 clear A30
 by_cases c4 : t172 = true
 ·subst c4
  have H1 : ((impl_isEntry.f a1_0 a1_1).bind fun t173 => (if t173 = true then ((impl_Segmented_put.f k a0_0 a0_1 l0_2 l0_3 a1_0 a1_1).bind fun bt174 => (some (bt174.1, bt174.2.1, bt174.2.2.1, bt174.2.2.2.1, bt174.2.2.2.2, true))) else (some (0, 0, ([] : List (S45)), ([] : List (S45)), ([] : List (S45)), false)))) = some (r1, r2, r3, r4, r5, r6) := by rw [if_pos rfl] at H; exact H
  clear H
  have H := H1
  clear H1
  replace H := Option.bind_eq_some_iff.mp H
  obtain ⟨t173, A50, H⟩ := H
  try dsimp only at H
  have A5 := Aside0.mk A50
  clear A50
  by_cases c6 : t173 = true
  ·subst c6
   have H1 : ((impl_Segmented_put.f k a0_0 a0_1 l0_2 l0_3 a1_0 a1_1).bind fun bt174 => (some (bt174.1, bt174.2.1, bt174.2.2.1, bt174.2.2.2.1, bt174.2.2.2.2, true))) = some (r1, r2, r3, r4, r5, r6) := by rw [if_pos rfl] at H; exact H
   clear H
   have H := H1
   clear H1
   replace H := Option.bind_eq_some_iff.mp H
   obtain ⟨⟨t174, t175, t176, t179, t182⟩, A70, H⟩ := H
   try dsimp only at H
   have A7 := Aside0.mk A70
   clear A70
   simp only [Option.some.injEq, Prod.mk.injEq] at H
   obtain ⟨rfl, rfl, rfl, rfl, rfl, rfl⟩ := H
   go_enter Try.func21, Try.ntmps21
   go_wp2_with (first | ((with_reducible refine gate_dst (N := 2) rfl ?_); refine box_event ?hg (N := 2) ?hd (cs := #[.int .i64 a0_0, .int .i64 a0_1, .slice A0_2 l0_2.length c0_2, .slice A0_3 l0_3.length c0_3]) (t := 28) ?hr ?_; (case hd => rfl); (case hg => rfl); (case hr => first | (go_simp; done) | (go_simp; rfl)); intro gb169 hg w8 hbox hb; have n0_ := Aside0.mk (below_step (bl HB.out) hb); have n1_ := Aside0.mk (hbox); have n2_ := Aside0.mk ((by rw [hg]; exact (below_size (bl HB.out)) : w.heap.size ≤ gb169)); have n3_ := Aside0.mk ((by rw [hg]; exact (below_size (bl HB.out)) : w.heap.size ≤ gb169)); clear HB; have HB := n0_; have BK169 := n1_; have GW169 := n2_; have GE169 := n3_; clear n0_ n1_ n2_ n3_; clear hb hbox hg) | ((with_reducible refine gate_dst (N := 3) rfl ?_); refine box_event ?hg (N := 3) ?hd (cs := #[.string a1_0, .string a1_1]) (t := 45) ?hr ?_; (case hd => rfl); (case hg => rfl); (case hr => first | (go_simp; done) | (go_simp; rfl)); intro gb170 hg w9 hbox hb; have n0_ := Aside0.mk (blk_below (bk BK169.out) hb); have n1_ := Aside0.mk (below_step (bl1 HB.out GE169.out) hb); have n2_ := Aside0.mk (hbox); have n3_ := Aside0.mk ((by rw [hg]; exact (below_size (bl1 HB.out GE169.out)) : w.heap.size ≤ gb170)); have n4_ := Aside0.mk ((by rw [hg]; exact (below_size (bl1 HB.out GE169.out)) : w.heap.size ≤ gb170)); have n5_ := Aside0.mk ((by rw [hg]; exact Nat.ne_of_lt (blk_lt (bk BK169.out)) : gb169 ≠ gb170)); have n6_ := Aside0.mk ((by rw [hg]; exact Nat.ne_of_gt (blk_lt (bk BK169.out)) : gb170 ≠ gb169)); clear BK169; clear HB; have BK169 := n0_; have HB := n1_; have BK170 := n2_; have GW170 := n3_; have GE170 := n4_; have NB169_170 := n5_; have NB170_169 := n6_; clear n0_ n1_ n2_ n3_ n4_ n5_ n6_; clear hb hbox hg) | ((with_reducible refine gate_dst (N := 4) rfl ?_); refine box_event ?hg (N := 4) ?hd (cs := #[.int .i64 0, .int .i64 0, .slice none 0 0, .slice none 0 0]) (t := 28) ?hr ?_; (case hd => rfl); (case hg => rfl); (case hr => first | (go_simp; done) | (go_simp; rfl)); intro gb171 hg w10 hbox hb; have n0_ := Aside0.mk (blk_below (bk BK169.out) hb); have n1_ := Aside0.mk (blk_below (bk BK170.out) hb); have n2_ := Aside0.mk (below_step (bl2 HB.out GE169.out GE170.out) hb); have n3_ := Aside0.mk (hbox); have n4_ := Aside0.mk ((by rw [hg]; exact (below_size (bl2 HB.out GE169.out GE170.out)) : w.heap.size ≤ gb171)); have n5_ := Aside0.mk ((by rw [hg]; exact (below_size (bl2 HB.out GE169.out GE170.out)) : w.heap.size ≤ gb171)); have n6_ := Aside0.mk ((by rw [hg]; exact Nat.ne_of_lt (blk_lt (bk BK169.out)) : gb169 ≠ gb171)); have n7_ := Aside0.mk ((by rw [hg]; exact Nat.ne_of_gt (blk_lt (bk BK169.out)) : gb171 ≠ gb169)); have n8_ := Aside0.mk ((by rw [hg]; exact Nat.ne_of_lt (blk_lt (bk BK170.out)) : gb170 ≠ gb171)); have n9_ := Aside0.mk ((by rw [hg]; exact Nat.ne_of_gt (blk_lt (bk BK170.out)) : gb171 ≠ gb170)); clear BK169; clear BK170; clear HB; have BK169 := n0_; have BK170 := n1_; have HB := n2_; have BK171 := n3_; have GW171 := n4_; have GE171 := n5_; have NB169_171 := n6_; have NB171_169 := n7_; have NB170_171 := n8_; have NB171_170 := n9_; clear n0_ n1_ n2_ n3_ n4_ n5_ n6_ n7_ n8_ n9_; clear hb hbox hg; have hnb11 := NB169_170.out; have hnc11 := NB170_169.out; have hnb12 := NB169_171.out; have hnc12 := NB171_169.out; have hcz13_0 : w10.cell? ⟨gb169, 0, none⟩ = some (.int .i64 a0_0) := (blk_cell BK169.out 0).trans rfl; have hcz13_1 : w10.cell? ⟨gb169, 1, none⟩ = some (.int .i64 a0_1) := (blk_cell BK169.out 1).trans rfl; have hcz13_2 : w10.cell? ⟨gb169, 2, none⟩ = some (.slice A0_2 l0_2.length c0_2) := (blk_cell BK169.out 2).trans rfl; have hcz13_3 : w10.cell? ⟨gb169, 3, none⟩ = some (.slice A0_3 l0_3.length c0_3) := (blk_cell BK169.out 3).trans rfl; have hfz13_0 := blk_frozen BK169.out 0; have hfz13_1 := blk_frozen BK169.out 1; have hfz13_2 := blk_frozen BK169.out 2; have hfz13_3 := blk_frozen BK169.out 3) | ((with_reducible refine gate_callee (f := 22) rfl ?_); refine goesL_ (some 10) rfl rfl Try.func22 (by kernel_rfl) rfl #[.agg #[.int .i64 a0_0, .int .i64 a0_1, .slice A0_2 l0_2.length c0_2, .slice A0_3 l0_3.length c0_3]] rfl (by (try simp only [List.map_toArray, List.map_cons, List.map_nil]); first | done | rfl | (simp only [List.length_drop, List.length_take]; rfl)) ?_; (with_reducible refine (impl_GoodSegmented.calls k a0_0 a0_1 _ _ l0_2 _ _ l0_3 true _ ?side1 ?side2 ?side3 ?side4 A3.out).mono ?_); (case side1 => exact kc (Kd.C_below HR0_2.out HB.out)); (case side2 => exact HC0_2.out); (case side3 => exact kc (Kd.C_below HR0_3.out HB.out)); (case side4 => exact HC0_3.out); rintro e w14 ⟨rfl, hb⟩; refine ⟨_, rfl, ?_⟩; have n0_ := Aside0.mk (blk_below (bk BK169.out) hb); have n1_ := Aside0.mk (blk_below (bk BK170.out) hb); have n2_ := Aside0.mk (blk_below (bk BK171.out) hb); have n3_ := Aside0.mk (below_step (bl3 HB.out GE169.out GE170.out GE171.out) hb); clear BK169; clear BK170; clear BK171; clear HB; have BK169 := n0_; have BK170 := n1_; have BK171 := n2_; have HB := n3_; clear n0_ n1_ n2_ n3_; (try clear hb); (try clear hb2); (try clear hk); (try clear hi); have hnb15 := NB170_171.out; have hnc15 := NB171_170.out; have hcz16_0 : w14.cell? ⟨gb170, 0, none⟩ = some (.string a1_0) := (blk_cell BK170.out 0).trans rfl; have hcz16_1 : w14.cell? ⟨gb170, 1, none⟩ = some (.string a1_1) := (blk_cell BK170.out 1).trans rfl; have hfz16_0 := blk_frozen BK170.out 0; have hfz16_1 := blk_frozen BK170.out 1) | (go_at_call 51; (with_reducible refine (impl_isEntry.calls a1_0 a1_1 true _ A5.out).mono ?_); rintro e w17 ⟨rfl, hb⟩; have n0_ := Aside0.mk (blk_below (bk BK169.out) hb); have n1_ := Aside0.mk (blk_below (bk BK170.out) hb); have n2_ := Aside0.mk (blk_below (bk BK171.out) hb); have n3_ := Aside0.mk (below_step (bl3 HB.out GE169.out GE170.out GE171.out) hb); clear BK169; clear BK170; clear BK171; clear HB; have BK169 := n0_; have BK170 := n1_; have BK171 := n2_; have HB := n3_; clear n0_ n1_ n2_ n3_; (try clear hb); (try clear hb2); (try clear hk); (try clear hi); have hcz18_0 : w17.cell? ⟨gb169, 0, none⟩ = some (.int .i64 a0_0) := (blk_cell BK169.out 0).trans rfl; have hcz18_1 : w17.cell? ⟨gb169, 1, none⟩ = some (.int .i64 a0_1) := (blk_cell BK169.out 1).trans rfl; have hcz18_2 : w17.cell? ⟨gb169, 2, none⟩ = some (.slice A0_2 l0_2.length c0_2) := (blk_cell BK169.out 2).trans rfl; have hcz18_3 : w17.cell? ⟨gb169, 3, none⟩ = some (.slice A0_3 l0_3.length c0_3) := (blk_cell BK169.out 3).trans rfl; have hfz18_0 := blk_frozen BK169.out 0; have hfz18_1 := blk_frozen BK169.out 1; have hfz18_2 := blk_frozen BK169.out 2; have hfz18_3 := blk_frozen BK169.out 3; have hcz19_0 : w17.cell? ⟨gb170, 0, none⟩ = some (.string a1_0) := (blk_cell BK170.out 0).trans rfl; have hcz19_1 : w17.cell? ⟨gb170, 1, none⟩ = some (.string a1_1) := (blk_cell BK170.out 1).trans rfl; have hfz19_0 := blk_frozen BK170.out 0; have hfz19_1 := blk_frozen BK170.out 1) | ((with_reducible refine gate_callee (f := 52) rfl ?_); refine goesL_ (some 21) rfl rfl Try.func52 (by kernel_rfl) rfl #[.agg #[.int .i64 a0_0, .int .i64 a0_1, .slice A0_2 l0_2.length c0_2, .slice A0_3 l0_3.length c0_3], .agg #[.string a1_0, .string a1_1]] rfl (by (try simp only [List.map_toArray, List.map_cons, List.map_nil]); first | done | rfl | (simp only [List.length_drop, List.length_take]; rfl)) ?_; (with_reducible refine (impl_Segmented_put.calls k a0_0 a0_1 _ _ l0_2 _ _ l0_3 a1_0 a1_1 t174 t175 t176 t179 t182 _ ?side1 ?side2 ?side3 ?side4 A7.out).mono ?_); (case side1 => exact kc (Kd.C_below HR0_2.out HB.out)); (case side2 => exact HC0_2.out); (case side3 => exact kc (Kd.C_below HR0_3.out HB.out)); (case side4 => exact HC0_3.out); rintro e w20 ⟨v177, v180, v183, rfl, ho0, ho1, ho2, hb⟩; refine ⟨_, rfl, ?_⟩; have n0_ := Aside0.mk (Kd.R_lower (Kd.R_newB ho0 (bk BK170.out)) (below_size (bl3 HB.out GE169.out GE170.out GE171.out))); have n1_ := Aside0.mk (Kd.R_lower (Kd.R_newB ho1 (bk BK170.out)) (below_size (bl3 HB.out GE169.out GE170.out GE171.out))); have n2_ := Aside0.mk (Kd.R_lower (Kd.R_newB ho2 (bk BK170.out)) (below_size (bl3 HB.out GE169.out GE170.out GE171.out))); have n3_ := Aside0.mk (blk_below (bk BK169.out) hb); have n4_ := Aside0.mk (blk_below (bk BK170.out) hb); have n5_ := Aside0.mk (blk_below (bk BK171.out) hb); have n6_ := Aside0.mk (below_step (bl3 HB.out GE169.out GE170.out GE171.out) hb); clear BK169; clear BK170; clear BK171; clear HB; have HO178 := n0_; have HO181 := n1_; have HO184 := n2_; have BK169 := n3_; have BK170 := n4_; have BK171 := n5_; have HB := n6_; clear n0_ n1_ n2_ n3_ n4_ n5_ n6_; (try clear hb); (try clear hb2); (try clear hk); (try clear hi); (try clear ho0); (try clear ho1); (try clear ho2)) | ((with_reducible refine gate_dst (N := 7) rfl ?_); refine box_event ?hg (N := 7) ?hd (cs := #[.int .i64 0, .int .i64 0, .slice none 0 0, .slice none 0 0]) (t := 28) ?hr ?_; (case hd => rfl); (case hg => rfl); (case hr => first | (go_simp; done) | (go_simp; rfl)); intro gb185 hg w21 hbox hb; have n0_ := Aside0.mk (Kd.R_below (kr HO178.out) hb); have n1_ := Aside0.mk (Kd.R_below (kr HO181.out) hb); have n2_ := Aside0.mk (Kd.R_below (kr HO184.out) hb); have n3_ := Aside0.mk (blk_below (bk BK169.out) hb); have n4_ := Aside0.mk (blk_below (bk BK170.out) hb); have n5_ := Aside0.mk (blk_below (bk BK171.out) hb); have n6_ := Aside0.mk (below_step (bl3 HB.out GE169.out GE170.out GE171.out) hb); have n7_ := Aside0.mk (hbox); have n8_ := Aside0.mk ((by rw [hg]; exact (below_size (bl3 HB.out GE169.out GE170.out GE171.out)) : w.heap.size ≤ gb185)); have n9_ := Aside0.mk ((by rw [hg]; exact (below_size (bl3 HB.out GE169.out GE170.out GE171.out)) : w.heap.size ≤ gb185)); have n10_ := Aside0.mk ((by rw [hg]; exact Nat.ne_of_lt (blk_lt (bk BK169.out)) : gb169 ≠ gb185)); have n11_ := Aside0.mk ((by rw [hg]; exact Nat.ne_of_gt (blk_lt (bk BK169.out)) : gb185 ≠ gb169)); have n12_ := Aside0.mk ((by rw [hg]; exact Nat.ne_of_lt (blk_lt (bk BK170.out)) : gb170 ≠ gb185)); have n13_ := Aside0.mk ((by rw [hg]; exact Nat.ne_of_gt (blk_lt (bk BK170.out)) : gb185 ≠ gb170)); have n14_ := Aside0.mk ((by rw [hg]; exact Nat.ne_of_lt (blk_lt (bk BK171.out)) : gb171 ≠ gb185)); have n15_ := Aside0.mk ((by rw [hg]; exact Nat.ne_of_gt (blk_lt (bk BK171.out)) : gb185 ≠ gb171)); clear HO178; clear HO181; clear HO184; clear BK169; clear BK170; clear BK171; clear HB; have HO178 := n0_; have HO181 := n1_; have HO184 := n2_; have BK169 := n3_; have BK170 := n4_; have BK171 := n5_; have HB := n6_; have BK185 := n7_; have GW185 := n8_; have GE185 := n9_; have NB169_185 := n10_; have NB185_169 := n11_; have NB170_185 := n12_; have NB185_170 := n13_; have NB171_185 := n14_; have NB185_171 := n15_; clear n0_ n1_ n2_ n3_ n4_ n5_ n6_ n7_ n8_ n9_ n10_ n11_ n12_ n13_ n14_ n15_; clear hb hbox hg; have hnb22 := NB185_169.out; have hnc22 := NB169_185.out; have hnb23 := NB185_170.out; have hnc23 := NB170_185.out; have hnb24 := NB185_171.out; have hnc24 := NB171_185.out; have hcz25_0 : w21.cell? ⟨gb185, 0, none⟩ = some (.int .i64 0) := (blk_cell BK185.out 0).trans rfl; have hcz25_1 : w21.cell? ⟨gb185, 1, none⟩ = some (.int .i64 0) := (blk_cell BK185.out 1).trans rfl; have hcz25_2 : w21.cell? ⟨gb185, 2, none⟩ = some (.slice none 0 0) := (blk_cell BK185.out 2).trans rfl; have hcz25_3 : w21.cell? ⟨gb185, 3, none⟩ = some (.slice none 0 0) := (blk_cell BK185.out 3).trans rfl; have hfz25_0 := blk_frozen BK185.out 0; have hfz25_1 := blk_frozen BK185.out 1; have hfz25_2 := blk_frozen BK185.out 2; have hfz25_3 := blk_frozen BK185.out 3; obtain ⟨Ao26, co26, eo26⟩ := Kd.R_slice HO178.out; subst eo26; obtain ⟨Ao27, co27, eo27⟩ := Kd.R_slice HO181.out; subst eo27; have hcz28_0 : w21.cell? ⟨gb171, 0, none⟩ = some (.int .i64 0) := (blk_cell BK171.out 0).trans rfl; have hcz28_1 : w21.cell? ⟨gb171, 1, none⟩ = some (.int .i64 0) := (blk_cell BK171.out 1).trans rfl; have hcz28_2 : w21.cell? ⟨gb171, 2, none⟩ = some (.slice none 0 0) := (blk_cell BK171.out 2).trans rfl; have hcz28_3 : w21.cell? ⟨gb171, 3, none⟩ = some (.slice none 0 0) := (blk_cell BK171.out 3).trans rfl; have hfz28_0 := blk_frozen BK171.out 0; have hfz28_1 := blk_frozen BK171.out 1; have hfz28_2 := blk_frozen BK171.out 2; have hfz28_3 := blk_frozen BK171.out 3))
   refine bodyPost_ret (results_ctt rfl _ _ gb171 28 #[.int .i64 t174, .int .i64 t175, .slice Ao26 t176.length co26, .slice Ao27 t179.length co27] (0, 0) _ rfl (by (with_reducible repeat (first | refine blk_drewN ?_ _ | refine blk_drew ?_ | refine blk_alloc ?_ _)); refine blk_put (cs := #[.int .i64 t174, .int .i64 t175, .slice Ao26 t176.length co26, .slice none 0 0]) ?_ 3 _ rfl; (with_reducible repeat (first | refine blk_drewN ?_ _ | refine blk_drew ?_ | refine blk_alloc ?_ _)); refine blk_put (cs := #[.int .i64 t174, .int .i64 t175, .slice none 0 0, .slice none 0 0]) ?_ 2 _ rfl; (with_reducible repeat (first | refine blk_drewN ?_ _ | refine blk_drew ?_ | refine blk_alloc ?_ _)); refine blk_put (cs := #[.int .i64 t174, .int .i64 0, .slice none 0 0, .slice none 0 0]) ?_ 1 _ rfl; (with_reducible repeat (first | refine blk_drewN ?_ _ | refine blk_drew ?_ | refine blk_alloc ?_ _)); refine blk_put (cs := #[.int .i64 0, .int .i64 0, .slice none 0 0, .slice none 0 0]) ?_ 0 _ rfl; (with_reducible repeat (first | refine blk_drewN ?_ _ | refine blk_drew ?_ | refine blk_alloc ?_ _)); refine blk_far ?_ NB171_185.out _; (with_reducible repeat (first | refine blk_drewN ?_ _ | refine blk_drew ?_ | refine blk_alloc ?_ _)); refine blk_far ?_ NB171_185.out _; (with_reducible repeat (first | refine blk_drewN ?_ _ | refine blk_drew ?_ | refine blk_alloc ?_ _)); refine blk_far ?_ NB171_185.out _; (with_reducible repeat (first | refine blk_drewN ?_ _ | refine blk_drew ?_ | refine blk_alloc ?_ _)); refine blk_far ?_ NB171_185.out _; exact bk BK171.out) Try.underlying28 rfl (by kernel_rfl)) rfl ?_
   exact ⟨_, _, _, by first | rfl | (simp [errW_none, errW_some] <;> rfl) | (simp [*, errW_none, errW_some] <;> rfl), by (with_reducible repeat (first | apply Kd.R_alloc | apply Kd.R_drewN | apply Kd.R_drew)); exact Kd.R_mono (Kd.R_far (p := ⟨gb171, 3, none⟩) (Kd.R_far (p := ⟨gb171, 2, none⟩) (Kd.R_far (p := ⟨gb171, 1, none⟩) (Kd.R_far (p := ⟨gb171, 0, none⟩) (Kd.R_far (p := ⟨gb185, 3, none⟩) (Kd.R_far (p := ⟨gb185, 2, none⟩) (Kd.R_far (p := ⟨gb185, 1, none⟩) (Kd.R_far (p := ⟨gb185, 0, none⟩) (Kd.R_types (Kd.R_types HO178.out BK185.out (by decide)) BK171.out (by decide)) (fun _ hk => hk.1.2) (.int .i64 t174)) (fun _ hk => hk.1.2) (.int .i64 t175)) (fun _ hk => hk.1.2) (.slice Ao26 t176.length co26)) (fun _ hk => hk.1.2) (.slice Ao27 t179.length co27)) (fun _ hk => hk.2) (.int .i64 t174)) (fun _ hk => hk.2) (.int .i64 t175)) (fun _ hk => hk.2) (.slice Ao26 t176.length co26)) (fun _ hk => hk.2) (.slice Ao27 t179.length co27)) (fun _ hk => ⟨hk.1.1.1.1, hk.1.1.1.2⟩), by (with_reducible repeat (first | apply Kd.R_alloc | apply Kd.R_drewN | apply Kd.R_drew)); exact Kd.R_mono (Kd.R_far (p := ⟨gb171, 3, none⟩) (Kd.R_far (p := ⟨gb171, 2, none⟩) (Kd.R_far (p := ⟨gb171, 1, none⟩) (Kd.R_far (p := ⟨gb171, 0, none⟩) (Kd.R_far (p := ⟨gb185, 3, none⟩) (Kd.R_far (p := ⟨gb185, 2, none⟩) (Kd.R_far (p := ⟨gb185, 1, none⟩) (Kd.R_far (p := ⟨gb185, 0, none⟩) (Kd.R_types (Kd.R_types HO181.out BK185.out (by decide)) BK171.out (by decide)) (fun _ hk => hk.1.2) (.int .i64 t174)) (fun _ hk => hk.1.2) (.int .i64 t175)) (fun _ hk => hk.1.2) (.slice Ao26 t176.length co26)) (fun _ hk => hk.1.2) (.slice Ao27 t179.length co27)) (fun _ hk => hk.2) (.int .i64 t174)) (fun _ hk => hk.2) (.int .i64 t175)) (fun _ hk => hk.2) (.slice Ao26 t176.length co26)) (fun _ hk => hk.2) (.slice Ao27 t179.length co27)) (fun _ hk => ⟨hk.1.1.1.1, hk.1.1.1.2⟩), by (with_reducible repeat (first | apply Kd.R_alloc | apply Kd.R_drewN | apply Kd.R_drew)); exact Kd.R_mono (Kd.R_far (p := ⟨gb171, 3, none⟩) (Kd.R_far (p := ⟨gb171, 2, none⟩) (Kd.R_far (p := ⟨gb171, 1, none⟩) (Kd.R_far (p := ⟨gb171, 0, none⟩) (Kd.R_far (p := ⟨gb185, 3, none⟩) (Kd.R_far (p := ⟨gb185, 2, none⟩) (Kd.R_far (p := ⟨gb185, 1, none⟩) (Kd.R_far (p := ⟨gb185, 0, none⟩) (Kd.R_types (Kd.R_types HO184.out BK185.out (by decide)) BK171.out (by decide)) (fun _ hk => hk.1.2) (.int .i64 t174)) (fun _ hk => hk.1.2) (.int .i64 t175)) (fun _ hk => hk.1.2) (.slice Ao26 t176.length co26)) (fun _ hk => hk.1.2) (.slice Ao27 t179.length co27)) (fun _ hk => hk.2) (.int .i64 t174)) (fun _ hk => hk.2) (.int .i64 t175)) (fun _ hk => hk.2) (.slice Ao26 t176.length co26)) (fun _ hk => hk.2) (.slice Ao27 t179.length co27)) (fun _ hk => ⟨hk.1.1.1.1, hk.1.1.1.2⟩), bl4 HB.out GE169.out GE170.out GE171.out GE185.out⟩
  ·replace c6 := Bool.eq_false_iff.mpr c6
   subst c6
   have H1 : (some (0, 0, ([] : List (S45)), ([] : List (S45)), ([] : List (S45)), false)) = some (r1, r2, r3, r4, r5, r6) := by rw [if_neg (show ¬ (false = true) by decide)] at H; exact H
   clear H
   have H := H1
   clear H1
   simp only [Option.some.injEq, Prod.mk.injEq] at H
   obtain ⟨rfl, rfl, rfl, rfl, rfl, rfl⟩ := H
   go_enter Try.func21, Try.ntmps21
   go_wp2_with (first | ((with_reducible refine gate_dst (N := 2) rfl ?_); refine box_event ?hg (N := 2) ?hd (cs := #[.int .i64 a0_0, .int .i64 a0_1, .slice A0_2 l0_2.length c0_2, .slice A0_3 l0_3.length c0_3]) (t := 28) ?hr ?_; (case hd => rfl); (case hg => rfl); (case hr => first | (go_simp; done) | (go_simp; rfl)); intro gb169 hg w29 hbox hb; have n0_ := Aside0.mk (below_step (bl HB.out) hb); have n1_ := Aside0.mk (hbox); have n2_ := Aside0.mk ((by rw [hg]; exact (below_size (bl HB.out)) : w.heap.size ≤ gb169)); have n3_ := Aside0.mk ((by rw [hg]; exact (below_size (bl HB.out)) : w.heap.size ≤ gb169)); clear HB; have HB := n0_; have BK169 := n1_; have GW169 := n2_; have GE169 := n3_; clear n0_ n1_ n2_ n3_; clear hb hbox hg) | ((with_reducible refine gate_dst (N := 3) rfl ?_); refine box_event ?hg (N := 3) ?hd (cs := #[.string a1_0, .string a1_1]) (t := 45) ?hr ?_; (case hd => rfl); (case hg => rfl); (case hr => first | (go_simp; done) | (go_simp; rfl)); intro gb170 hg w30 hbox hb; have n0_ := Aside0.mk (blk_below (bk BK169.out) hb); have n1_ := Aside0.mk (below_step (bl1 HB.out GE169.out) hb); have n2_ := Aside0.mk (hbox); have n3_ := Aside0.mk ((by rw [hg]; exact (below_size (bl1 HB.out GE169.out)) : w.heap.size ≤ gb170)); have n4_ := Aside0.mk ((by rw [hg]; exact (below_size (bl1 HB.out GE169.out)) : w.heap.size ≤ gb170)); have n5_ := Aside0.mk ((by rw [hg]; exact Nat.ne_of_lt (blk_lt (bk BK169.out)) : gb169 ≠ gb170)); have n6_ := Aside0.mk ((by rw [hg]; exact Nat.ne_of_gt (blk_lt (bk BK169.out)) : gb170 ≠ gb169)); clear BK169; clear HB; have BK169 := n0_; have HB := n1_; have BK170 := n2_; have GW170 := n3_; have GE170 := n4_; have NB169_170 := n5_; have NB170_169 := n6_; clear n0_ n1_ n2_ n3_ n4_ n5_ n6_; clear hb hbox hg) | ((with_reducible refine gate_dst (N := 4) rfl ?_); refine box_event ?hg (N := 4) ?hd (cs := #[.int .i64 0, .int .i64 0, .slice none 0 0, .slice none 0 0]) (t := 28) ?hr ?_; (case hd => rfl); (case hg => rfl); (case hr => first | (go_simp; done) | (go_simp; rfl)); intro gb171 hg w31 hbox hb; have n0_ := Aside0.mk (blk_below (bk BK169.out) hb); have n1_ := Aside0.mk (blk_below (bk BK170.out) hb); have n2_ := Aside0.mk (below_step (bl2 HB.out GE169.out GE170.out) hb); have n3_ := Aside0.mk (hbox); have n4_ := Aside0.mk ((by rw [hg]; exact (below_size (bl2 HB.out GE169.out GE170.out)) : w.heap.size ≤ gb171)); have n5_ := Aside0.mk ((by rw [hg]; exact (below_size (bl2 HB.out GE169.out GE170.out)) : w.heap.size ≤ gb171)); have n6_ := Aside0.mk ((by rw [hg]; exact Nat.ne_of_lt (blk_lt (bk BK169.out)) : gb169 ≠ gb171)); have n7_ := Aside0.mk ((by rw [hg]; exact Nat.ne_of_gt (blk_lt (bk BK169.out)) : gb171 ≠ gb169)); have n8_ := Aside0.mk ((by rw [hg]; exact Nat.ne_of_lt (blk_lt (bk BK170.out)) : gb170 ≠ gb171)); have n9_ := Aside0.mk ((by rw [hg]; exact Nat.ne_of_gt (blk_lt (bk BK170.out)) : gb171 ≠ gb170)); clear BK169; clear BK170; clear HB; have BK169 := n0_; have BK170 := n1_; have HB := n2_; have BK171 := n3_; have GW171 := n4_; have GE171 := n5_; have NB169_171 := n6_; have NB171_169 := n7_; have NB170_171 := n8_; have NB171_170 := n9_; clear n0_ n1_ n2_ n3_ n4_ n5_ n6_ n7_ n8_ n9_; clear hb hbox hg; have hnb32 := NB169_170.out; have hnc32 := NB170_169.out; have hnb33 := NB169_171.out; have hnc33 := NB171_169.out; have hcz34_0 : w31.cell? ⟨gb169, 0, none⟩ = some (.int .i64 a0_0) := (blk_cell BK169.out 0).trans rfl; have hcz34_1 : w31.cell? ⟨gb169, 1, none⟩ = some (.int .i64 a0_1) := (blk_cell BK169.out 1).trans rfl; have hcz34_2 : w31.cell? ⟨gb169, 2, none⟩ = some (.slice A0_2 l0_2.length c0_2) := (blk_cell BK169.out 2).trans rfl; have hcz34_3 : w31.cell? ⟨gb169, 3, none⟩ = some (.slice A0_3 l0_3.length c0_3) := (blk_cell BK169.out 3).trans rfl; have hfz34_0 := blk_frozen BK169.out 0; have hfz34_1 := blk_frozen BK169.out 1; have hfz34_2 := blk_frozen BK169.out 2; have hfz34_3 := blk_frozen BK169.out 3) | ((with_reducible refine gate_callee (f := 22) rfl ?_); refine goesL_ (some 10) rfl rfl Try.func22 (by kernel_rfl) rfl #[.agg #[.int .i64 a0_0, .int .i64 a0_1, .slice A0_2 l0_2.length c0_2, .slice A0_3 l0_3.length c0_3]] rfl (by (try simp only [List.map_toArray, List.map_cons, List.map_nil]); first | done | rfl | (simp only [List.length_drop, List.length_take]; rfl)) ?_; (with_reducible refine (impl_GoodSegmented.calls k a0_0 a0_1 _ _ l0_2 _ _ l0_3 true _ ?side1 ?side2 ?side3 ?side4 A3.out).mono ?_); (case side1 => exact kc (Kd.C_below HR0_2.out HB.out)); (case side2 => exact HC0_2.out); (case side3 => exact kc (Kd.C_below HR0_3.out HB.out)); (case side4 => exact HC0_3.out); rintro e w35 ⟨rfl, hb⟩; refine ⟨_, rfl, ?_⟩; have n0_ := Aside0.mk (blk_below (bk BK169.out) hb); have n1_ := Aside0.mk (blk_below (bk BK170.out) hb); have n2_ := Aside0.mk (blk_below (bk BK171.out) hb); have n3_ := Aside0.mk (below_step (bl3 HB.out GE169.out GE170.out GE171.out) hb); clear BK169; clear BK170; clear BK171; clear HB; have BK169 := n0_; have BK170 := n1_; have BK171 := n2_; have HB := n3_; clear n0_ n1_ n2_ n3_; (try clear hb); (try clear hb2); (try clear hk); (try clear hi); have hnb36 := NB170_171.out; have hnc36 := NB171_170.out; have hcz37_0 : w35.cell? ⟨gb170, 0, none⟩ = some (.string a1_0) := (blk_cell BK170.out 0).trans rfl; have hcz37_1 : w35.cell? ⟨gb170, 1, none⟩ = some (.string a1_1) := (blk_cell BK170.out 1).trans rfl; have hfz37_0 := blk_frozen BK170.out 0; have hfz37_1 := blk_frozen BK170.out 1) | (go_at_call 51; (with_reducible refine (impl_isEntry.calls a1_0 a1_1 false _ A5.out).mono ?_); rintro e w38 ⟨rfl, hb⟩; have n0_ := Aside0.mk (blk_below (bk BK169.out) hb); have n1_ := Aside0.mk (blk_below (bk BK170.out) hb); have n2_ := Aside0.mk (blk_below (bk BK171.out) hb); have n3_ := Aside0.mk (below_step (bl3 HB.out GE169.out GE170.out GE171.out) hb); clear BK169; clear BK170; clear BK171; clear HB; have BK169 := n0_; have BK170 := n1_; have BK171 := n2_; have HB := n3_; clear n0_ n1_ n2_ n3_; (try clear hb); (try clear hb2); (try clear hk); (try clear hi); have hcz39_0 : w38.cell? ⟨gb171, 0, none⟩ = some (.int .i64 0) := (blk_cell BK171.out 0).trans rfl; have hcz39_1 : w38.cell? ⟨gb171, 1, none⟩ = some (.int .i64 0) := (blk_cell BK171.out 1).trans rfl; have hcz39_2 : w38.cell? ⟨gb171, 2, none⟩ = some (.slice none 0 0) := (blk_cell BK171.out 2).trans rfl; have hcz39_3 : w38.cell? ⟨gb171, 3, none⟩ = some (.slice none 0 0) := (blk_cell BK171.out 3).trans rfl; have hfz39_0 := blk_frozen BK171.out 0; have hfz39_1 := blk_frozen BK171.out 1; have hfz39_2 := blk_frozen BK171.out 2; have hfz39_3 := blk_frozen BK171.out 3))
   refine bodyPost_ret (results_ctt rfl _ _ gb171 28 #[.int .i64 0, .int .i64 0, .slice none 0 0, .slice none 0 0] (0, 0) _ rfl (by (with_reducible repeat (first | refine blk_drewN ?_ _ | refine blk_drew ?_ | refine blk_alloc ?_ _)); refine blk_put (cs := #[.int .i64 0, .int .i64 0, .slice none 0 0, .slice none 0 0]) ?_ 3 _ rfl; (with_reducible repeat (first | refine blk_drewN ?_ _ | refine blk_drew ?_ | refine blk_alloc ?_ _)); refine blk_put (cs := #[.int .i64 0, .int .i64 0, .slice none 0 0, .slice none 0 0]) ?_ 2 _ rfl; (with_reducible repeat (first | refine blk_drewN ?_ _ | refine blk_drew ?_ | refine blk_alloc ?_ _)); refine blk_put (cs := #[.int .i64 0, .int .i64 0, .slice none 0 0, .slice none 0 0]) ?_ 1 _ rfl; (with_reducible repeat (first | refine blk_drewN ?_ _ | refine blk_drew ?_ | refine blk_alloc ?_ _)); refine blk_put (cs := #[.int .i64 0, .int .i64 0, .slice none 0 0, .slice none 0 0]) ?_ 0 _ rfl; exact bk BK171.out) Try.underlying28 rfl (by kernel_rfl)) rfl ?_
   exact ⟨_, _, _, by first | rfl | (simp [errW_none, errW_some] <;> rfl) | (simp [*, errW_none, errW_some] <;> rfl), by first | exact Kd.R_nil _ _ _ _ _ | exact Kd.N_nil _ _ _ _ _ | exact Kd.V_nil _ _ _ _ _ | exact Kd.Q_nil _ _ _ _ _ | exact Kd.S_nil _ _ _ _ _, by first | exact Kd.R_nil _ _ _ _ _ | exact Kd.N_nil _ _ _ _ _ | exact Kd.V_nil _ _ _ _ _ | exact Kd.Q_nil _ _ _ _ _ | exact Kd.S_nil _ _ _ _ _, by first | exact Kd.R_nil _ _ _ _ _ | exact Kd.N_nil _ _ _ _ _ | exact Kd.V_nil _ _ _ _ _ | exact Kd.Q_nil _ _ _ _ _ | exact Kd.S_nil _ _ _ _ _, bl3 HB.out GE169.out GE170.out GE171.out⟩
 ·replace c4 := Bool.eq_false_iff.mpr c4
  subst c4
  have H1 : (some (0, 0, ([] : List (S45)), ([] : List (S45)), ([] : List (S45)), false)) = some (r1, r2, r3, r4, r5, r6) := by rw [if_neg (show ¬ (false = true) by decide)] at H; exact H
  clear H
  have H := H1
  clear H1
  simp only [Option.some.injEq, Prod.mk.injEq] at H
  obtain ⟨rfl, rfl, rfl, rfl, rfl, rfl⟩ := H
  go_enter Try.func21, Try.ntmps21
  go_wp2_with (first | ((with_reducible refine gate_dst (N := 2) rfl ?_); refine box_event ?hg (N := 2) ?hd (cs := #[.int .i64 a0_0, .int .i64 a0_1, .slice A0_2 l0_2.length c0_2, .slice A0_3 l0_3.length c0_3]) (t := 28) ?hr ?_; (case hd => rfl); (case hg => rfl); (case hr => first | (go_simp; done) | (go_simp; rfl)); intro gb169 hg w40 hbox hb; have n0_ := Aside0.mk (below_step (bl HB.out) hb); have n1_ := Aside0.mk (hbox); have n2_ := Aside0.mk ((by rw [hg]; exact (below_size (bl HB.out)) : w.heap.size ≤ gb169)); have n3_ := Aside0.mk ((by rw [hg]; exact (below_size (bl HB.out)) : w.heap.size ≤ gb169)); clear HB; have HB := n0_; have BK169 := n1_; have GW169 := n2_; have GE169 := n3_; clear n0_ n1_ n2_ n3_; clear hb hbox hg) | ((with_reducible refine gate_dst (N := 3) rfl ?_); refine box_event ?hg (N := 3) ?hd (cs := #[.string a1_0, .string a1_1]) (t := 45) ?hr ?_; (case hd => rfl); (case hg => rfl); (case hr => first | (go_simp; done) | (go_simp; rfl)); intro gb170 hg w41 hbox hb; have n0_ := Aside0.mk (blk_below (bk BK169.out) hb); have n1_ := Aside0.mk (below_step (bl1 HB.out GE169.out) hb); have n2_ := Aside0.mk (hbox); have n3_ := Aside0.mk ((by rw [hg]; exact (below_size (bl1 HB.out GE169.out)) : w.heap.size ≤ gb170)); have n4_ := Aside0.mk ((by rw [hg]; exact (below_size (bl1 HB.out GE169.out)) : w.heap.size ≤ gb170)); have n5_ := Aside0.mk ((by rw [hg]; exact Nat.ne_of_lt (blk_lt (bk BK169.out)) : gb169 ≠ gb170)); have n6_ := Aside0.mk ((by rw [hg]; exact Nat.ne_of_gt (blk_lt (bk BK169.out)) : gb170 ≠ gb169)); clear BK169; clear HB; have BK169 := n0_; have HB := n1_; have BK170 := n2_; have GW170 := n3_; have GE170 := n4_; have NB169_170 := n5_; have NB170_169 := n6_; clear n0_ n1_ n2_ n3_ n4_ n5_ n6_; clear hb hbox hg) | ((with_reducible refine gate_dst (N := 4) rfl ?_); refine box_event ?hg (N := 4) ?hd (cs := #[.int .i64 0, .int .i64 0, .slice none 0 0, .slice none 0 0]) (t := 28) ?hr ?_; (case hd => rfl); (case hg => rfl); (case hr => first | (go_simp; done) | (go_simp; rfl)); intro gb171 hg w42 hbox hb; have n0_ := Aside0.mk (blk_below (bk BK169.out) hb); have n1_ := Aside0.mk (blk_below (bk BK170.out) hb); have n2_ := Aside0.mk (below_step (bl2 HB.out GE169.out GE170.out) hb); have n3_ := Aside0.mk (hbox); have n4_ := Aside0.mk ((by rw [hg]; exact (below_size (bl2 HB.out GE169.out GE170.out)) : w.heap.size ≤ gb171)); have n5_ := Aside0.mk ((by rw [hg]; exact (below_size (bl2 HB.out GE169.out GE170.out)) : w.heap.size ≤ gb171)); have n6_ := Aside0.mk ((by rw [hg]; exact Nat.ne_of_lt (blk_lt (bk BK169.out)) : gb169 ≠ gb171)); have n7_ := Aside0.mk ((by rw [hg]; exact Nat.ne_of_gt (blk_lt (bk BK169.out)) : gb171 ≠ gb169)); have n8_ := Aside0.mk ((by rw [hg]; exact Nat.ne_of_lt (blk_lt (bk BK170.out)) : gb170 ≠ gb171)); have n9_ := Aside0.mk ((by rw [hg]; exact Nat.ne_of_gt (blk_lt (bk BK170.out)) : gb171 ≠ gb170)); clear BK169; clear BK170; clear HB; have BK169 := n0_; have BK170 := n1_; have HB := n2_; have BK171 := n3_; have GW171 := n4_; have GE171 := n5_; have NB169_171 := n6_; have NB171_169 := n7_; have NB170_171 := n8_; have NB171_170 := n9_; clear n0_ n1_ n2_ n3_ n4_ n5_ n6_ n7_ n8_ n9_; clear hb hbox hg; have hnb43 := NB169_170.out; have hnc43 := NB170_169.out; have hnb44 := NB169_171.out; have hnc44 := NB171_169.out; have hcz45_0 : w42.cell? ⟨gb169, 0, none⟩ = some (.int .i64 a0_0) := (blk_cell BK169.out 0).trans rfl; have hcz45_1 : w42.cell? ⟨gb169, 1, none⟩ = some (.int .i64 a0_1) := (blk_cell BK169.out 1).trans rfl; have hcz45_2 : w42.cell? ⟨gb169, 2, none⟩ = some (.slice A0_2 l0_2.length c0_2) := (blk_cell BK169.out 2).trans rfl; have hcz45_3 : w42.cell? ⟨gb169, 3, none⟩ = some (.slice A0_3 l0_3.length c0_3) := (blk_cell BK169.out 3).trans rfl; have hfz45_0 := blk_frozen BK169.out 0; have hfz45_1 := blk_frozen BK169.out 1; have hfz45_2 := blk_frozen BK169.out 2; have hfz45_3 := blk_frozen BK169.out 3) | ((with_reducible refine gate_callee (f := 22) rfl ?_); refine goesL_ (some 10) rfl rfl Try.func22 (by kernel_rfl) rfl #[.agg #[.int .i64 a0_0, .int .i64 a0_1, .slice A0_2 l0_2.length c0_2, .slice A0_3 l0_3.length c0_3]] rfl (by (try simp only [List.map_toArray, List.map_cons, List.map_nil]); first | done | rfl | (simp only [List.length_drop, List.length_take]; rfl)) ?_; (with_reducible refine (impl_GoodSegmented.calls k a0_0 a0_1 _ _ l0_2 _ _ l0_3 false _ ?side1 ?side2 ?side3 ?side4 A3.out).mono ?_); (case side1 => exact kc (Kd.C_below HR0_2.out HB.out)); (case side2 => exact HC0_2.out); (case side3 => exact kc (Kd.C_below HR0_3.out HB.out)); (case side4 => exact HC0_3.out); rintro e w46 ⟨rfl, hb⟩; refine ⟨_, rfl, ?_⟩; have n0_ := Aside0.mk (blk_below (bk BK169.out) hb); have n1_ := Aside0.mk (blk_below (bk BK170.out) hb); have n2_ := Aside0.mk (blk_below (bk BK171.out) hb); have n3_ := Aside0.mk (below_step (bl3 HB.out GE169.out GE170.out GE171.out) hb); clear BK169; clear BK170; clear BK171; clear HB; have BK169 := n0_; have BK170 := n1_; have BK171 := n2_; have HB := n3_; clear n0_ n1_ n2_ n3_; (try clear hb); (try clear hb2); (try clear hk); (try clear hi); have hnb47 := NB171_170.out; have hnc47 := NB170_171.out; have hcz48_0 : w46.cell? ⟨gb171, 0, none⟩ = some (.int .i64 0) := (blk_cell BK171.out 0).trans rfl; have hcz48_1 : w46.cell? ⟨gb171, 1, none⟩ = some (.int .i64 0) := (blk_cell BK171.out 1).trans rfl; have hcz48_2 : w46.cell? ⟨gb171, 2, none⟩ = some (.slice none 0 0) := (blk_cell BK171.out 2).trans rfl; have hcz48_3 : w46.cell? ⟨gb171, 3, none⟩ = some (.slice none 0 0) := (blk_cell BK171.out 3).trans rfl; have hfz48_0 := blk_frozen BK171.out 0; have hfz48_1 := blk_frozen BK171.out 1; have hfz48_2 := blk_frozen BK171.out 2; have hfz48_3 := blk_frozen BK171.out 3))
  refine bodyPost_ret (results_ctt rfl _ _ gb171 28 #[.int .i64 0, .int .i64 0, .slice none 0 0, .slice none 0 0] (0, 0) _ rfl (by (with_reducible repeat (first | refine blk_drewN ?_ _ | refine blk_drew ?_ | refine blk_alloc ?_ _)); refine blk_put (cs := #[.int .i64 0, .int .i64 0, .slice none 0 0, .slice none 0 0]) ?_ 3 _ rfl; (with_reducible repeat (first | refine blk_drewN ?_ _ | refine blk_drew ?_ | refine blk_alloc ?_ _)); refine blk_put (cs := #[.int .i64 0, .int .i64 0, .slice none 0 0, .slice none 0 0]) ?_ 2 _ rfl; (with_reducible repeat (first | refine blk_drewN ?_ _ | refine blk_drew ?_ | refine blk_alloc ?_ _)); refine blk_put (cs := #[.int .i64 0, .int .i64 0, .slice none 0 0, .slice none 0 0]) ?_ 1 _ rfl; (with_reducible repeat (first | refine blk_drewN ?_ _ | refine blk_drew ?_ | refine blk_alloc ?_ _)); refine blk_put (cs := #[.int .i64 0, .int .i64 0, .slice none 0 0, .slice none 0 0]) ?_ 0 _ rfl; exact bk BK171.out) Try.underlying28 rfl (by kernel_rfl)) rfl ?_
  exact ⟨_, _, _, by first | rfl | (simp [errW_none, errW_some] <;> rfl) | (simp [*, errW_none, errW_some] <;> rfl), by first | exact Kd.R_nil _ _ _ _ _ | exact Kd.N_nil _ _ _ _ _ | exact Kd.V_nil _ _ _ _ _ | exact Kd.Q_nil _ _ _ _ _ | exact Kd.S_nil _ _ _ _ _, by first | exact Kd.R_nil _ _ _ _ _ | exact Kd.N_nil _ _ _ _ _ | exact Kd.V_nil _ _ _ _ _ | exact Kd.Q_nil _ _ _ _ _ | exact Kd.S_nil _ _ _ _ _, by first | exact Kd.R_nil _ _ _ _ _ | exact Kd.N_nil _ _ _ _ _ | exact Kd.V_nil _ _ _ _ _ | exact Kd.Q_nil _ _ _ _ _ | exact Kd.S_nil _ _ _ _ _, bl3 HB.out GE169.out GE170.out GE171.out⟩

end Go.Proofs.Ytfopmaiednikhaa.PFnExactPutEntry
