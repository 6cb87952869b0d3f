/- slices.Sort and slices.Compact over rows of texts of one's own, strings.Join, by the shelf's contracts, laid over this program. -/
import Derived.Shelf.Lay
import Derived.Shelf.LaySoft
import Derived.Shelf.SlGeneric
import Derived.Shelf.SortM.Plain
import Derived.Shelf.SortM.SortNone
import Derived.Shelf.SlicesG.CompactS
import Derived.Ground.SlgmProg
import Derived.Ground.SlgnProg
import Derived.Shelf.Strings.OnBuilder
import Derived.Lib.RowBridge
import Derived.Lib.OwnBridge
import Derived.Lib.AppendIntMem
import Derived.Test.YtlmnmakkojgfnaaGreatDoorVWWords
import Derived.Test.YtlmnmakkojgfnaaGreatDoorOwnTr
namespace Go.Proofs.YtlmnmakkojgfnaaGreatDoorOwn
open Go.Shelf Go.Proofs Go.RowKit Go.Sort Go.Proofs.YtlmnmakkojgfnaaGreatDoorW.PrintWords
set_option linter.unusedVariables false
shelf_lay_g SlLaysM.n6 Slgm 6 at Tryz 146 as itSort
shelf_lay_g SlLaysN.n44 Slgn 44 at Tryz 147 as itComp
shelf_lay Lays.n156 Nm 156 at Tryz as itJoin
theorem itX : Builder.Extra Tryz.prog itJoin_ren where
  sizeBuilder := by kernel_rfl
  liesBuilder := by kernel_rfl
  t5 := Tryz.underlying5
  a5 := Tryz.isAgg5
  z5 := Tryz.sizeOf5
  v5 := Tryz.zeroValue5
  infoByte := by kernel_rfl
  cellsByte := by kernel_rfl
  sizeByte := by kernel_rfl
  neB5 := by decide
/-- A row of texts of one's own, in the shelf's words. -/
theorem str_row {base : Nat} {ok : Nat → Prop} {A : Option Addr} {c : Nat} {xs : List ByteArray} {w : World} (HR : Kd.R Kd.string 9 w base ok (.slice A xs.length c) xs) (h0 : xs ≠ []) :
    ∃ g cur, A = some ⟨g, 0, none⟩ ∧ ok g ∧ base ≤ g ∧ g < w.heap.size ∧ w.heap[g]? = some (.cells cur 9 (0, 0)) ∧ cur.size = c ∧ xs.length ≤ c ∧ c ≤ maxLen ∧ Holds encStr w g 0 (xs.map fun x => x.data.toList).toArray := by
  have ho := Kd.own_of_R HR
  have hne : 0 < xs.length := List.length_pos_iff.2 h0
  rcases ho.2 with ⟨e0, h⟩ | ⟨g, cap, cur, e, hb, hg, hn, hm, hs, ht⟩
  · omega
  cases e
  have hlt : g < w.heap.size := by
    rcases Nat.lt_or_ge g w.heap.size with h' | h'
    · exact h'
    · rw [Array.getElem?_eq_none h'] at hg; cases hg
  have hs' : cur.size = c * 1 := hs
  refine ⟨g, cur, rfl, HR.1 g rfl, hb, hlt, hg, by omega, hn, hm, fun j hj => ?_⟩
  have hj' : j < xs.length := by simpa using hj
  refine ⟨?_, by simp [World.frozen?, hg]⟩
  have e1 : (cur.toList.take (xs.length * 1))[j]? = (encs Value.string xs)[j]? := by rw [ht]
  rw [List.getElem?_take, if_pos (by omega), Array.getElem?_toList] at e1
  simp only [World.cell?, hg, Nat.zero_add]
  simp only [Option.isSome_none, Bool.false_eq_true, if_false]
  rw [e1, getElem!_pos _ j hj]
  simp [encs, hj', encStr]
theorem str_put {base : Nat} {ok : Nat → Prop} {c g n : Nat} {cur : Array Value} {w : World} (ys : List (List UInt8)) (hok : ok g) (hb : base ≤ g) (hlt : g < w.heap.size) (hg : w.heap[g]? = some (.cells cur 9 (0, 0))) (hs : cur.size = c) (hc : ys.length ≤ c) (hm : c ≤ maxLen) (hn : n ≤ ys.length) (m : Nat) (os : Array Obj) :
    Kd.R Kd.string 9 (grow (putRow encStr (Sort.ahead w m) g 0 ys.toArray) os) base ok (.slice (some ⟨g, 0, none⟩) n c) ((ys.take n).map fun y => (⟨y.toArray⟩ : ByteArray)) ∧ Below base w (grow (putRow encStr (Sort.ahead w m) g 0 ys.toArray) os) := by
  constructor
  · refine Kd.R_of_own (enc := Value.string) ?_ (fun k hk => by simp only [Value.ownBlock, Option.some.injEq] at hk; exact hk ▸ hok)
    have hl : ((ys.take n).map fun y => (⟨y.toArray⟩ : ByteArray)).length = n := by simp; omega
    rw [hl]
    refine ⟨by rw [encs_length, hl]; omega, .inr ⟨g, c, putCells encStr 0 ys.toArray cur, rfl, hb, ?_, by omega, hm, by simp [putCells, hs], ?_⟩⟩
    · rw [Sort.heap_grow_old _ _ (by rw [size_putRow]; exact hlt)]
      simp [putRow, mapBlock, Sort.ahead, Array.getElem?_modify, hg, onCells]
    · apply List.ext_getElem?
      intro j
      rw [List.getElem?_take, Array.getElem?_toList]
      by_cases hj : j < n
      · have hjc : j < cur.size := by omega
        have hjy : j < ys.length := by omega
        rw [if_pos (by omega)]
        simp only [putCells, Array.getElem?_mapIdx, Array.getElem?_eq_getElem hjc, Option.map_some]
        rw [if_pos (by simp; omega)]
        simp [encs, encStr, hj, hjy, getElem!_pos]
      · rw [if_neg (by omega), List.getElem?_eq_none (by rw [encs_length, hl]; omega)]
  · have h2 : Below base w (Sort.putRow encStr (Sort.ahead w m) g 0 ys.toArray) := Lib.below_putRow (Below.refl _ _) hb
    exact h2.trans (Lib.below_grow base _ (by rw [size_putRow]; exact Nat.le_trans hb (Nat.le_of_lt hlt)) 0 os)
def sortT (xs : List ByteArray) : List (List UInt8) := (xs.map fun x => x.data.toList).mergeSort fun x y => decide (x ≤ y)
theorem sortT_length (xs : List ByteArray) : (sortT xs).length = xs.length := by unfold sortT; rw [List.length_mergeSort, List.length_map]
/-- Sorted, each once. -/
def uniqT (xs : List ByteArray) : List ByteArray := (Lib.compact (sortT xs)).map fun y => ⟨y.toArray⟩
theorem back_T (xs : List ByteArray) : (xs.map fun x => x.data.toList).map (fun y => (⟨y.toArray⟩ : ByteArray)) = xs := by
  rw [List.map_map]; conv => rhs; rw [← List.map_id xs]
  rfl
theorem itSorted (base : Nat) (ok : Nat → Prop) (A : Option Addr) (c : Nat) (xs : List ByteArray) (w : World) (HR : Kd.R Kd.string 9 w base ok (.slice A xs.length c) xs) (hsz : xs.length < 4611686018427387904) :
    Calls Tryz.prog 146 #[.slice A xs.length c] w fun e w' => e = .returned (.tuple #[]) ∧ Kd.R Kd.string 9 w' base ok (.slice A xs.length c) ((sortT xs).map fun y => ⟨y.toArray⟩) ∧ Below base w w' := by
  by_cases h0 : xs = []
  · subst h0
    refine (AnyM.slices_Sort_string_none itSort A c w).mono ?_
    rintro e w' ⟨rfl, rfl⟩
    exact ⟨rfl, by simpa [sortT] using HR, Below.refl _ _⟩
  · obtain ⟨g, cur, rfl, hok, hb, hlt, hg, hs, hc, hm, hH⟩ := str_row HR h0
    have h := AnyM.slices_Sort_string itSort g 0 c (xs.map fun x => x.data.toList) w hH hlt (by simpa using hsz)
    rw [List.length_map] at h
    refine Calls.mono h ?_
    rintro e w' ⟨rfl, m, os, rfl⟩
    have hl := sortT_length xs
    have h2 := str_put (n := xs.length) (c := c) (sortT xs) hok hb hlt hg hs (by omega) hm (by omega) m os
    rw [List.take_of_length_le (by omega)] at h2
    exact ⟨rfl, h2.1, h2.2⟩
theorem itCompact (base : Nat) (ok : Nat → Prop) (A : Option Addr) (c : Nat) (xs : List ByteArray) (w : World) (HR : Kd.R Kd.string 9 w base ok (.slice A xs.length c) ((sortT xs).map fun y => ⟨y.toArray⟩)) (hsz : xs.length < 4611686018427387904) :
    Calls Tryz.prog 147 #[.slice A xs.length c] w fun e w' => ∃ v, e = .returned v ∧ Kd.R Kd.string 9 w' base ok v (uniqT xs) ∧ Below base w w' := by
  have hl := sortT_length xs
  by_cases h0 : xs = []
  · subst h0
    refine (AnyG.slices_Compact_string_empty itComp A c w).mono ?_
    rintro e w' ⟨rfl, rfl⟩
    exact ⟨_, rfl, by simpa [sortT, uniqT, Lib.compact, Lib.compactUpTo] using HR, Below.refl _ _⟩
  · have hpos : 0 < xs.length := List.length_pos_iff.2 h0
    have hl2 : ((sortT xs).map fun y => (⟨y.toArray⟩ : ByteArray)).length = xs.length := by rw [List.length_map, hl]
    rw [← hl2] at HR
    obtain ⟨g, cur, rfl, hok, hb, hlt, hg, hs, hc, hm, hH⟩ := str_row HR (fun h => by rw [h] at hl2; simp at hl2; omega)
    rw [List.map_map, show (List.map ((fun x : ByteArray => x.data.toList) ∘ fun y => ⟨y.toArray⟩) (sortT xs)) = sortT xs from (List.map_congr_left fun a _ => rfl).trans (List.map_id _)] at hH
    rw [hl2] at hc
    have h := AnyG.slices_Compact_string itComp g 0 c (sortT xs) w hH (by omega) (by omega)
    rw [hl] at h
    refine Calls.mono h ?_
    rintro e w' ⟨rfl, q, rfl⟩
    have hle := Lib.compact_length_le (sortT xs)
    have h2 := str_put (n := (Lib.compact (sortT xs)).length) (c := c) (w := w) (Lib.compact (sortT xs) ++ List.replicate (xs.length - (Lib.compact (sortT xs)).length) []) hok hb hlt hg hs (by simp; omega) hm (by simp) q #[]
    rw [List.take_left] at h2
    have eg : ∀ W : World, grow W #[] = W := fun W => by unfold grow; simp
    rw [eg] at h2
    exact ⟨_, rfl, h2.1, h2.2⟩
def joinT (xs : List ByteArray) (sep : ByteArray) : ByteArray := ⟨(Lib.join (xs.map (·.data.toList)) sep.data.toList).toArray⟩
theorem itJoined (A : Option Addr) (c : Nat) (xs : List ByteArray) (sep : ByteArray) (w : World) (hr : Kd.C Kd.string w A xs.length xs) (hN : xs.length ≤ 140737488355328) (hcap : xs.length ≤ c) (hlen : (joinT xs sep).size ≤ 140737488355328) :
    Calls Tryz.prog 117 #[.slice A xs.length c, .string sep] w fun e w' => e = .returned (.string (joinT xs sep)) ∧ Below w.heap.size w w' := by
  by_cases h0 : xs = []
  · subst h0
    refine (Any.strings_Join_none itJoin itX A c sep w).mono ?_
    rintro e w' ⟨rfl, rfl⟩
    exact ⟨rfl, Below.refl _ _⟩
  · obtain ⟨ad, rfl, h⟩ := hr.2.2 (List.length_pos_iff.2 h0)
    have hcell : ∀ (j : Nat) x, xs[j]? = some x → w.cell? (ad.add j) = some (.string x) := fun j x hj => by
      obtain ⟨cs, _, rfl, hc⟩ := h j x hj
      have := hc 0 _ rfl
      rwa [show j * (Kd.string).sz + 0 = j from by show j * 1 + 0 = j; omega] at this
    obtain ⟨bk, o, f⟩ := ad
    have hf : f = none := by
      have h1 := hcell 0 _ (List.getElem?_eq_getElem (List.length_pos_iff.2 h0))
      unfold Addr.add at h1
      cases f with
      | none => rfl
      | some f =>
        simp only [World.cell?] at h1
        split at h1 <;> simp at h1
    subst hf
    have hcell' : ∀ (j : Nat) x, xs[j]? = some x → w.cell? ⟨bk, o + j, none⟩ = some (.string x) := fun j x hj => by
      have := hcell j x hj
      rwa [show (⟨bk, o, none⟩ : Addr).add j = ⟨bk, o + j, none⟩ from by unfold Addr.add; split <;> simp_all] at this
    have hbk : bk < w.heap.size := World.block_lt_of_cell? w _ (hcell' 0 _ (List.getElem?_eq_getElem (List.length_pos_iff.2 h0)))
    exact Any.strings_Join itJoin itX bk o c xs sep w hcell' hbk hN hcap (by have := hlen; simpa [joinT, ByteArray.size] using this)
end Go.Proofs.YtlmnmakkojgfnaaGreatDoorOwn
