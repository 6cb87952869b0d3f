/- strconv.Itoa below 100 and the insertion sort over ints, by the shelf's contracts laid over this program. -/
import Derived.Shelf.Lay
import Derived.Shelf.LaySoft
import Derived.Shelf.Strconv.Itoa3
import Derived.Shelf.SlSortCmp.Insertion1
import Derived.Laws.EntriesVeiled
import Derived.Ground.SlsfProg
import Derived.RangeFuncNested
import Derived.RangeFuncBox
import Derived.RangeFuncLeaves
import Derived.RangeFuncWrites
import Derived.Shelf.Abstract
import Derived.WalkKit
import Derived.OwnWalkIn
import Derived.TacticsInMore
import Derived.LoopNIn
import Derived.LoopIn
import Derived.Maps.AppendAt
import Derived.Lib.OwnBridge
import Derived.Lib.AppendIntMem
import Derived.Test.YtfopmaiednikhaaDoorProg
namespace Go.Proofs.YtfopmaiednikhaaDoorOwn
open Go.Shelf Go.Proofs Go.RowKit Go.Sort
set_option linter.unusedVariables false
set_option linter.unusedSimpArgs false
shelf_lay Lays.n171 Nm 171 at Tryd as rk171
shelf_lay_g SlLaysF.n20 Slsf 20 at Tryd 145 as rk20
theorem rkItoa (i : Nat) (hi : i < 100) (w : World) : Calls Tryd.prog 58 #[.int .i64 i] w fun e w' => e = .returned (.string ⟨(Lib.decDigits i).toArray⟩) ∧ w' = w :=
  Any.strconv_Itoa_small rk171 i hi w
/-! ### the insertion sort, on lists -/
open Go.Sort (insInner insOuter swp)
/-- x behind all that are not below it. -/
def insD {α : Type} (f : α → Int) (x : α) : List α → List α
  | [] => [x]
  | y :: ys => if f x ≤ f y then y :: insD f x ys else x :: y :: ys
def rankL {α : Type} (f : α → Int) (l : List α) : List α := l.foldl (fun out x => insD f x out) []
theorem insD_length {α : Type} (f : α → Int) (x : α) : ∀ l : List α, (insD f x l).length = l.length + 1
  | [] => rfl
  | y :: ys => by
    unfold insD; split
    · rw [List.length_cons, insD_length f x ys, List.length_cons]
    · simp
theorem insD_snoc {α : Type} (f : α → Int) (x y : α) : ∀ p : List α, f y < f x → insD f x (p ++ [y]) = insD f x p ++ [y]
  | [], h => by simp only [List.nil_append, insD]; rw [if_neg (by omega)]; rfl
  | z :: p, h => by
    simp only [List.cons_append, insD]
    split
    · rw [insD_snoc f x y p h]; rfl
    · rfl
theorem insD_last {α : Type} (f : α → Int) (x : α) : ∀ p : List α, (∀ z ∈ p, f x ≤ f z) → insD f x p = p ++ [x]
  | [], _ => rfl
  | z :: p, h => by
    simp only [insD]
    rw [if_pos (h z List.mem_cons_self), insD_last f x p (fun a ha => h a (List.mem_cons_of_mem _ ha))]
    rfl
theorem insD_mem {α : Type} (f : α → Int) (x z : α) : ∀ p : List α, z ∈ insD f x p ↔ z = x ∨ z ∈ p
  | [] => by simp [insD]
  | y :: p => by
    simp only [insD]
    split
    · rw [List.mem_cons, insD_mem f x z p, List.mem_cons]
      constructor
      · rintro (h | h | h)
        · exact .inr (.inl h)
        · exact .inl h
        · exact .inr (.inr h)
      · rintro (h | h | h)
        · exact .inr (.inl h)
        · exact .inl h
        · exact .inr (.inr h)
    · rw [List.mem_cons]
def Desc {α : Type} (f : α → Int) (l : List α) : Prop := l.Pairwise fun a b => f b ≤ f a
theorem insD_desc {α : Type} (f : α → Int) (x : α) : ∀ p : List α, Desc f p → Desc f (insD f x p)
  | [], _ => List.pairwise_singleton _ _
  | y :: p, h => by
    have h1 := List.pairwise_cons.1 h
    simp only [insD]
    split
    · rename_i c
      refine List.pairwise_cons.2 ⟨fun z hz => ?_, insD_desc f x p h1.2⟩
      rcases (insD_mem f x z p).1 hz with e | e
      · rw [e]; exact c
      · exact h1.1 z e
    · rename_i c
      refine List.pairwise_cons.2 ⟨fun z hz => ?_, h⟩
      rcases List.mem_cons.1 hz with e | e
      · rw [e]; omega
      · have := h1.1 z e; omega
theorem swp_list {α : Type} [Inhabited α] (p rest : List α) (x y : α) : swp (p ++ y :: x :: rest).toArray (p.length + 1) p.length = (p ++ x :: y :: rest).toArray := by
  unfold swp
  have e1 : (p ++ y :: x :: rest).toArray[p.length]! = y := by simp
  have e2 : (p ++ y :: x :: rest).toArray[p.length + 1]! = x := by simp
  rw [e1, e2]
  simp [List.set_append]
theorem insInner_list {α : Type} [Inhabited α] (f : α → Int) (lt : α → α → Bool) (hlt : ∀ x y, lt x y = decide (f y < f x)) : ∀ (n : Nat) (p : List α) (x : α) (rest : List α), p.length = n → Desc f p →
    insInner lt 0 n (p ++ x :: rest).toArray = (insD f x p ++ rest).toArray
  | 0, p, x, rest, hn, _ => by
    rw [List.eq_nil_of_length_eq_zero hn]
    simp [insInner, insD]
  | n + 1, p, x, rest, hn, hd => by
    obtain ⟨p', y, rfl⟩ : ∃ p' y, p = p' ++ [y] := by
      rcases List.eq_nil_or_concat p with e | ⟨p', y, e⟩
      · rw [e] at hn; cases hn
      · exact ⟨p', y, by rw [e]; simp⟩
    obtain rfl : p'.length = n := by simpa using hn
    have e0 : p' ++ [y] ++ x :: rest = p' ++ y :: x :: rest := by simp
    rw [e0]
    have e1 : (p' ++ y :: x :: rest).toArray[p'.length + 1]! = x := by simp
    have e2 : (p' ++ y :: x :: rest).toArray[p'.length]! = y := by simp
    have hp' := List.pairwise_append.1 hd
    by_cases c : f y < f x
    · have hl : lt (p' ++ y :: x :: rest).toArray[p'.length + 1]! (p' ++ y :: x :: rest).toArray[p'.length]! = true := by rw [e1, e2, hlt]; exact decide_eq_true c
      rw [insInner, if_pos (by simp only [hl]; simp), swp_list, insInner_list f lt hlt p'.length p' x (y :: rest) rfl hp'.1, insD_snoc f x y p' c]
      simp
    · have hl : lt (p' ++ y :: x :: rest).toArray[p'.length + 1]! (p' ++ y :: x :: rest).toArray[p'.length]! = false := by rw [e1, e2, hlt]; exact decide_eq_false c
      rw [insInner, if_neg (by simp only [hl]; simp), insD_last f x (p' ++ [y]) (fun z hz => by
        rcases List.mem_append.1 hz with h | h
        · have := hp'.2.2 z h y List.mem_cons_self; omega
        · rw [List.mem_singleton.1 h]; omega)]
      simp
theorem outer_stop {α : Type} [Inhabited α] (lt : α → α → Bool) (a b i : Nat) (d : Array α) (h : ¬ i < b) : insOuter lt a b i d = d := by rw [insOuter, if_neg h]
theorem outer_go {α : Type} [Inhabited α] (lt : α → α → Bool) (a b i : Nat) (d : Array α) (h : i < b) : insOuter lt a b i d = insOuter lt a b (i + 1) (insInner lt a i d) := by rw [insOuter, if_pos h]
theorem insOuter_list {α : Type} [Inhabited α] (f : α → Int) (lt : α → α → Bool) (hlt : ∀ x y, lt x y = decide (f y < f x)) : ∀ (rest p : List α), Desc f p →
    insOuter lt 0 (p.length + rest.length) p.length (p ++ rest).toArray = (rest.foldl (fun out x => insD f x out) p).toArray
  | [], p, _ => by
    rw [outer_stop _ _ _ _ _ (by simp), List.append_nil]; rfl
  | x :: rest, p, hd => by
    rw [outer_go _ _ _ _ _ (by simp), insInner_list f lt hlt p.length p x rest rfl hd]
    have h := insOuter_list f lt hlt rest (insD f x p) (insD_desc f x p hd)
    rw [insD_length] at h
    rw [List.length_cons, show p.length + (rest.length + 1) = p.length + 1 + rest.length by omega, h]
    rfl
theorem insSort_list {α : Type} [Inhabited α] (f : α → Int) (lt : α → α → Bool) (hlt : ∀ x y, lt x y = decide (f y < f x)) (l : List α) : Go.Sort.insertionSort lt l.toArray 0 l.length = (rankL f l).toArray := by
  cases l with
  | nil => unfold Go.Sort.insertionSort; rw [outer_stop _ _ _ _ _ (by simp)]; rfl
  | cons x rest =>
    have h := insOuter_list f lt hlt rest [x] (List.pairwise_singleton _ _)
    unfold Go.Sort.insertionSort
    rw [show (x :: rest).length = [x].length + rest.length by simp; omega]
    exact h
theorem rankL_length {α : Type} (f : α → Int) (l : List α) : (rankL f l).length = l.length := by
  have : ∀ (l out : List α), (l.foldl (fun out x => insD f x out) out).length = out.length + l.length := by
    intro l
    induction l with
    | nil => intro out; rfl
    | cons x l ih => intro out; rw [List.foldl_cons, ih, insD_length, List.length_cons]; omega
  have h := this l []
  rw [List.length_nil, Nat.zero_add] at h
  exact h
theorem insD_map {α β : Type} (g : α → β) (f : α → Int) (f' : β → Int) (hf : ∀ x, f' (g x) = f x) (x : α) : ∀ l : List α, (insD f x l).map g = insD f' (g x) (l.map g)
  | [] => rfl
  | y :: l => by
    simp only [insD, List.map_cons, hf]
    split
    · rw [List.map_cons, insD_map g f f' hf x l]
    · rfl
theorem rankL_map {α β : Type} (g : α → β) (f : α → Int) (f' : β → Int) (hf : ∀ x, f' (g x) = f x) (l : List α) : (rankL f l).map g = rankL f' (l.map g) := by
  have : ∀ (l out : List α), (l.foldl (fun out x => insD f x out) out).map g = (l.map g).foldl (fun out x => insD f' x out) (out.map g) := by
    intro l
    induction l with
    | nil => intro out; rfl
    | cons x l ih => intro out; rw [List.foldl_cons, ih, insD_map g f f' hf, List.map_cons, List.foldl_cons]
  exact this l []
section
attribute [local go_sem] Oper.semAt_some
/-! ### slices.Values, AppendSeq, Collect over ints -/
/-- What has come when k rounds are over. -/
def comeN (f : Nat → Int) (k : Nat) : List Int := (List.range k).map f
theorem comeN_succ (f : Nat → Int) (k : Nat) : comeN f (k + 1) = comeN f k ++ [f k] := by simp [comeN, List.range_succ]
theorem comeN_length (f : Nat → Int) (k : Nat) : (comeN f k).length = k := by simp [comeN]
theorem comeN_all (zs : List Int) : comeN (fun j => zs[j]?.getD 0) zs.length = zs := by
  apply List.ext_getElem
  · simp [comeN]
  · intro i h1 h2
    simp [comeN, h2]
theorem comeN_take (zs : List Int) {k : Nat} (hk : k ≤ zs.length) : comeN (fun j => zs[j]?.getD 0) k = zs.take k := by
  apply List.ext_getElem
  · simp [comeN, hk]
  · intro i h1 h2
    have : i < zs.length := by simp [comeN] at h1; omega
    simp [comeN, this]
set_option maxRecDepth 100000 in
set_option maxHeartbeats 2000000 in
theorem values1_in (F : Fence) (n : Nat) (h99 : F.fn 99) (hro : F.round = none) (hn : 1 ≤ n) (l Bs n₀ b off len cap : Nat) (zs : List Int) (hreach : len * 8 ≤ 140737488351232) (hb : b < n₀) (J Jx : List Int → World → Prop)
    (hY : ∀ pre x W, J pre W → pre.length < len → YieldAt F (n - 1) Tryd.prog l #[.int .i64 x] W fun e W' =>
      (e = .returned (.bool true) ∧ J (pre ++ [x]) W' ∧ Below n₀ W W') ∨ (e = .returned (.bool false) ∧ Jx (pre ++ [x]) W'))
    (W : World) (hBs : W.cell? ⟨Bs, 0, none⟩ = some (.slice (some ⟨b, off, none⟩) len cap)) (hc : ∀ j, j < len → W.cell? ⟨b, off + j, none⟩ = some (.int .i64 (zs[j]?.getD 0))) (h0 : J [] W) :
    CallsIn F n Tryd.prog 99 #[.func (.yield l) #[] #[], .pointer (some ⟨Bs, 0, none⟩)] W fun e W' => (∃ v, e = .returned v) ∧
      ((∃ ys, ys = comeN (fun j => zs[j]?.getD 0) len ∧ J ys W') ∨ (∃ pre, (∃ k, k ≤ len ∧ pre = comeN (fun j => zs[j]?.getD 0) k) ∧ Jx pre W')) := by
  refine callsIn_of_wp Tryd.func99 rfl h99 ?_ hro
  simp only [Tryd.ntmps99, List.size_toArray, List.length_cons, List.length_nil, Nat.reduceAdd, Nat.reduceSub, Array.replicate_succ, Array.replicate_zero, List.push_toArray, List.append_toArray, List.nil_append, List.cons_append]
  gi_wp2
  gi_loopw [7] (fun i wr => ∃ k : Nat, k ≤ len ∧ i = .int .i64 k ∧ J (comeN (fun j => zs[j]?.getD 0) k) wr ∧ Below n₀ W wr)
    (fun i _ => len - (intOf i).toNat)
  case atStart => exact ⟨0, Nat.zero_le _, rfl, h0, Below.refl _ _⟩
  case round =>
    obtain ⟨k, hk, rfl, hJs, hnx⟩ := hrel
    have hcx : k < len → wr.cell? ⟨b, off + k, none⟩ = some (.int .i64 (zs[k]?.getD 0)) := fun h => (hnx.cell (p := ⟨b, off + k, none⟩) hb).trans (hc k h)
    by_cases hlt : k < len
    · obtain ⟨fn, tmps, assign, body, hy, hR⟩ := hY _ (zs[k]?.getD 0) wr hJs (by rw [comeN_length]; exact hlt)
      have hcx' := hcx hlt
      gi_wp2
      refine hR.mono ?_
      rintro e W3 (⟨rfl, hJ3, hk3⟩ | ⟨rfl, hJx3⟩)
      · gi_wp2
        go_roundw
        case rel => exact ⟨k + 1, by omega, by simp, by rw [comeN_succ]; exact hJ3, hnx.trans hk3⟩
        case measure => simp [intOf]; omega
      · gi_wp2
        refine bodyPost_ret (results_none rfl _ _ _) rfl ?_
        exact ⟨⟨_, rfl⟩, .inr ⟨_, ⟨k + 1, by omega, (comeN_succ _ _).symm⟩, hJx3⟩⟩
    · obtain rfl : k = len := by omega
      gi_wp2
      go_end0
      exact ⟨⟨_, rfl⟩, .inl ⟨_, rfl, hJs⟩⟩
/-- The slice value sv holds the ints zs, in a block below n₀; or it is nil and there are none. -/
def HoldsInts (n₀ : Nat) (W : World) (sv : Value) (zs : List Int) : Prop :=
  ((∃ a c, sv = .slice a 0 c) ∧ zs = []) ∨ ∃ b off cap, sv = .slice (some ⟨b, off, none⟩) zs.length cap ∧ b < n₀ ∧ ∀ j, j < zs.length → W.cell? ⟨b, off + j, none⟩ = some (.int .i64 (zs[j]?.getD 0))
theorem HoldsInts.below {n₀ : Nat} {A B : World} (h : Below n₀ A B) {sv : Value} {zs : List Int} : HoldsInts n₀ A sv zs → HoldsInts n₀ B sv zs
  | .inl e => .inl e
  | .inr ⟨b, off, cap, e, hb, hc⟩ => .inr ⟨b, off, cap, e, hb, fun j hj => (h.cell (p := ⟨b, off + j, none⟩) hb).trans (hc j hj)⟩
set_option maxRecDepth 100000 in
set_option maxHeartbeats 1000000 in
theorem values1_nil_in (F : Fence) (n : Nat) (h99 : F.fn 99) (hro : F.round = none) (l Bs : Nat) (a : Option Addr) (c : Nat) (J : List Int → World → Prop) (W : World) (hBs : W.cell? ⟨Bs, 0, none⟩ = some (.slice a 0 c)) (h0 : J [] W) :
    CallsIn F n Tryd.prog 99 #[.func (.yield l) #[] #[], .pointer (some ⟨Bs, 0, none⟩)] W fun e W' => (∃ v, e = .returned v) ∧ J [] W' := by
  refine callsIn_of_wp Tryd.func99 rfl h99 ?_ hro
  simp only [Tryd.ntmps99, List.size_toArray, List.length_cons, List.length_nil, Nat.reduceAdd, Nat.reduceSub, Array.replicate_succ, Array.replicate_zero, List.push_toArray, List.append_toArray, List.nil_append, List.cons_append]
  gi_wp2
  gi_loopw [7] (fun i wr => i = .int .i64 0 ∧ J [] wr) (fun _ _ => 0)
  case atStart => exact ⟨rfl, h0⟩
  case round =>
    obtain ⟨rfl, hJs⟩ := hrel
    gi_wp2
    go_end0
    exact ⟨⟨_, rfl⟩, hJs⟩
theorem values_stops (F : Fence) (n : Nat) (h99 : F.fn 99) (hro : F.round = none) (hn : 1 ≤ n) (Bs n₀ : Nat) (sv : Value) (zs : List Int) (hreach : zs.length * 8 ≤ 140737488351232) (w : World) (hBs : Bs < w.heap.size) (hn₀ : n₀ ≤ w.heap.size)
    (hc : w.cell? ⟨Bs, 0, none⟩ = some sv) (hI : HoldsInts n₀ w sv zs) :
    SeqStopsK F n Tryd.prog 99 #[.pointer (some ⟨Bs, 0, none⟩)] (fun x : Int => #[Value.int .i64 x]) (Below n₀) (fun ys => ys = zs) (fun pre => pre <+: zs) zs.length w := fun l J Jx W hW _ _ hY h0 => by
  have hc' := (hW.cell (p := ⟨Bs, 0, none⟩) hBs).trans hc
  rcases hI.below (hW.mono hn₀) with ⟨⟨a, c, rfl⟩, rfl⟩ | ⟨b, off, cap, rfl, hb, hcs⟩
  · exact (values1_nil_in F n h99 hro l Bs a c J W hc' h0).mono fun e W' ⟨he, hj⟩ => ⟨he, .inl ⟨_, rfl, hj⟩⟩
  · refine (values1_in F n h99 hro hn l Bs n₀ b off zs.length cap zs hreach hb J Jx hY W hc' hcs h0).mono ?_
    rintro e W' ⟨he, ⟨ys, rfl, hj⟩ | ⟨pre, ⟨k, hk, rfl⟩, hj⟩⟩
    · exact ⟨he, .inl ⟨_, comeN_all zs, hj⟩⟩
    · exact ⟨he, .inr ⟨_, by rw [comeN_take zs hk]; exact List.take_prefix _ _, hj⟩⟩
set_option maxRecDepth 100000 in
set_option maxHeartbeats 2000000 in
/-- slices.AppendSeq(nil, slices.Values(..)): a new slice that holds the same. -/
theorem appendSeq_in (F : Fence) (n : Nat) (h127 : F.fn 127) (h99 : F.fn 99) (hro : F.round = none) (hn : 3 ≤ n) (Bs : Nat) (sv : Value) (zs : List Int) (hreach : zs.length * 8 ≤ 140737488351232) (w : World) (hBs : Bs < w.heap.size)
    (hc : w.cell? ⟨Bs, 0, none⟩ = some sv) (hI : HoldsInts w.heap.size w sv zs) :
    CallsIn F n Tryd.prog 127 #[.slice none 0 0, .func (.func 99) #[] #[.pointer (some ⟨Bs, 0, none⟩)]] w fun e W' => ∃ v, e = .returned v ∧ W'.ownsRow w.heap.size 3 1 v zs.length (zs.map (Value.int .i64)) ∧ (v = .slice none 0 0 ↔ zs = []) ∧ Below w.heap.size w W' := by
  have h1 : 1 ≤ n := by omega
  have infoE : (Tryd.prog.info? 3).map (fun i => (i.zero, i.size, i.bytes)) = some (some (.int .i64 0), 1, 8) := by kernel_rfl
  obtain ⟨i0, hi, hz0, hz1, hz2⟩ := info_parts infoE
  refine callsIn_of_wp_marks Tryd.func127 rfl h127 ?_ hro
  simp only [Tryd.ntmps127, List.size_toArray, List.length_cons, List.length_nil, Nat.reduceAdd, Nat.reduceSub, Array.replicate_succ, Array.replicate_zero, List.push_toArray, List.append_toArray, List.nil_append, List.cons_append]
  gi_wp2
  have bS := Boxed.new w 22 (.slice none 0 0)
  have hB0 : Below w.heap.size w (w.alloc (.cells #[.slice none 0 0] 22)) := (Below.refl _ w).alloc (Nat.le_refl _) _
  refine wpIn_rangeFunc_ownG hro h1 (gf := 99) (lb := #[.pointer (some ⟨Bs, 0, none⟩)]) rfl h99 (enters_of Tryd.func99 (by kernel_rfl) rfl)
    (values_stops F (n - 1) h99 hro (by omega) Bs w.heap.size sv zs hreach _ (by simp; omega) (by simp) ((hB0.cell (p := ⟨Bs, 0, none⟩) hBs).trans hc) (hI.below hB0)) belowK_t (belowK_b (by simp)) (Below.refl _ _) (fun _ => rfl)
    (fun pre W => (∃ v, Boxed W w.heap.size 22 v ∧ W.ownsRow w.heap.size 3 1 v pre.length (pre.map (Value.int .i64)) ∧ (v = .slice none 0 0 ↔ pre = [])) ∧ Below w.heap.size w W)
    (fun _ _ _ => False)
    (OwnFrom.and (Own.from (holdsRow_own w.heap.size w.heap.size 22 3 1 (fun pre => pre.length) (fun pre => pre.map (Value.int .i64)) (fun pre v => (v = .slice none 0 0 ↔ pre = []))) _) (ownFrom_below (Nat.le_refl _) (by simp)))
    (fun _ _ _ _ _ hs _ _ => hs)
    ⟨⟨_, bS, World.ownsRow_nil _ _ _ _, by simp⟩, hB0⟩
    (fun x => { tmps := #[.slice none 0 0, .func (.func 99) #[] #[.pointer (some ⟨Bs, 0, none⟩)], .pointer (some ⟨w.heap.size, 0, none⟩), undef, .slice none 0 0, .int .i64 x, .func (.func 99) #[] #[.pointer (some ⟨Bs, 0, none⟩)], .int .i64 x, undef, undef, undef, undef, undef], defers := [] }) ?assign ?body ?done ?stop
  case assign =>
    intro l x W K hK
    gi_wp2
    exact hK
  case body =>
    rintro l pre x W ⟨⟨v, hv, hrow, hnil⟩, hB⟩ hlen
    have hle : w.heap.size ≤ w.heap.size := Nat.le_refl _
    have hcv := hv.cell
    gi_wp2_with (gi_at_builtin; refine wpListIn_append_own _ rfl _ _ 22 rfl w.heap.size 3 i0 (.int .i64 0) 1 8 Tryd.underlying22 hi hz0 hz1 hz2 rfl (by decide) _ _ _ rfl (hrow.alloc _) ⟨W.heap.size, 0, none⟩ 1 1 [.int .i64 x] rfl rfl (cell_one_new _ _ _) (by simp [Value.oneCell']) (by unfold maxLen; omega) (by omega) (by have := hB.size; simp; omega) ?_; intro v' w1 hown' hgrow _; obtain ⟨g', cap', rfl⟩ := ownsRow_succ hown'; obtain ⟨hv1, hv2, hr2, hk2, hb2⟩ := hv.appended (by decide) hrow hB.size hle hown' hgrow; have hc1 := hv1.cell; have hf1 := hv1.frozen)
    exact ⟨hk2.from _, hb2, ⟨_, hv2, by simpa using hr2, by simp⟩, hB.trans hb2⟩
  case done =>
    rintro D ys W hD rfl ⟨⟨v, hv, hrow, hnil⟩, hB⟩ hK
    have hcv := hv.cell
    gi_wp2
    refine ⟨by simp, .inl ⟨_, _, rfl, run_takeDeferred hK, ?_⟩⟩
    exact ⟨_, results_tmp rfl _ _ _, v, rfl, ownsRow_putObj hrow _ hK rfl, hnil, hB.trans (belowK_b (w := w) (Nat.le_refl _) W D _ _ (by simp at hD; omega) hK rfl rfl)⟩
  case stop =>
    rintro D c pre W _ _ h _
    exact h.elim
set_option maxHeartbeats 1000000 in
theorem collect_in (F : Fence) (n : Nat) (h97 : F.fn 97) (h127 : F.fn 127) (h99 : F.fn 99) (hro : F.round = none) (hn : 4 ≤ n) (Bs : Nat) (sv : Value) (zs : List Int) (hreach : zs.length * 8 ≤ 140737488351232) (w : World) (hBs : Bs < w.heap.size)
    (hc : w.cell? ⟨Bs, 0, none⟩ = some sv) (hI : HoldsInts w.heap.size w sv zs) :
    CallsIn F n Tryd.prog 97 #[.func (.func 99) #[] #[.pointer (some ⟨Bs, 0, none⟩)]] w fun e W' => ∃ v, e = .returned v ∧ W'.ownsRow w.heap.size 3 1 v zs.length (zs.map (Value.int .i64)) ∧ (v = .slice none 0 0 ↔ zs = []) ∧ Below w.heap.size w W' := by
  have h1 : 1 ≤ n := by omega
  refine callsIn_of_wp Tryd.func97 rfl h97 ?_ hro
  simp only [Tryd.ntmps97, List.size_toArray, List.length_cons, List.length_nil, Nat.reduceAdd, Nat.reduceSub, Array.replicate_succ, Array.replicate_zero, List.push_toArray, List.append_toArray, List.nil_append, List.cons_append]
  gi_wp2_with (gi_at_call 127; refine (appendSeq_in F (n - 1) h127 h99 hro (by omega) Bs sv zs hreach _ hBs hc hI).mono ?_; rintro e w' ⟨v, rfl, hrow, hnil, hb⟩)
  go_ret
  exact ⟨v, rfl, hrow, hnil, hb⟩
theorem collect (Bs : Nat) (sv : Value) (zs : List Int) (hreach : zs.length * 8 ≤ 140737488351232) (w : World) (hBs : Bs < w.heap.size)
    (hc : w.cell? ⟨Bs, 0, none⟩ = some sv) (hI : HoldsInts w.heap.size w sv zs) :
    Calls Tryd.prog 97 #[.func (.func 99) #[] #[.pointer (some ⟨Bs, 0, none⟩)]] w fun e W' => ∃ v, e = .returned v ∧ W'.ownsRow w.heap.size 3 1 v zs.length (zs.map (Value.int .i64)) ∧ (v = .slice none 0 0 ↔ zs = []) ∧ Below w.heap.size w W' :=
  (callsIn_wide (n := 4)).1 (collect_in Fence.wide 4 trivial trivial trivial rfl (Nat.le_refl _) Bs sv zs hreach w hBs hc hI)
end
end Go.Proofs.YtfopmaiednikhaaDoorOwn
