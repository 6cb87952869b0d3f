-- out of the printed words: what this claim's texts name
import Derived.Test.YtlmnmakkojgfnaaGreatDoorVWWords
import Derived.SizedLaws
import Derived.ChangeSlices
import Derived.Deep.Slices
import Derived.ProofKit
import Derived.ShutString
namespace Go.Proofs.YtlmnmakkojgfnaaGreatDoorOwn
open Go.RowKit Go.ChangeShapes Go.WideShapes Go.Deep Go.Proofs.YtlmnmakkojgfnaaGreatDoorW.PrintWords
set_option linter.unusedVariables false
def Opens (P : Program) (t : TypeId) {α : Type} (d : Kd α) (wf : α → Prop) : Prop :=
  ∀ (H : Type) (enc : TypeId × Value → H) (w : World) (base : Nat) (spare : Nat → Bool) (held : Bool) (fuel : Nat) (cs : List Value) (y : DataW H × List MemPlace),
    DataW.trod enc P w base spare held fuel t cs = some y → (∀ n ∈ y.1.weights P t, n ≤ reachBytes) → ∃ x, d.K w x cs ∧ wf x
theorem Opens.int {P : Program} {t : TypeId} {k : IntKind} (ht : P.underlying t = some (.int k)) : Opens P t (Kd.int k) (fun n => (Lit.int k n).wf = true) := by
  intro H enc w base spare held fuel cs y h _
  obtain ⟨n, rfl, rfl, hw⟩ := DataW.trod_int ht h
  exact ⟨n, rfl, hw⟩
theorem Opens.bool {P : Program} {t : TypeId} (ht : P.underlying t = some .bool) : Opens P t Kd.bool (fun _ => True) := by
  intro H enc w base spare held fuel cs y h _
  obtain ⟨n, rfl, rfl⟩ := DataW.trod_bool ht h
  exact ⟨n, rfl, trivial⟩
theorem Opens.string {P : Program} {t : TypeId} (ht : P.underlying t = some .string) : Opens P t Kd.string (fun s => s.size ≤ 140737488351232) := by
  intro H enc w base spare held fuel cs y h hw
  obtain ⟨s, rfl, rfl, _⟩ := DataW.trod_string ht h
  refine ⟨s, rfl, ?_⟩
  have := hw s.data.toList.length (by simp [DataW.weights])
  rw [Array.length_toList] at this
  exact this
theorem weights_all_mem {H : Type} {P : Program} {e : TypeId} : ∀ {l : List (DataW H)} {d : DataW H}, d ∈ l → ∀ n ∈ d.weights P e, n ∈ DataW.weightsAll P e l
  | _ :: _, d, hd, n, hn => by
    simp only [DataW.weightsAll, List.mem_append]
    rcases List.mem_cons.1 hd with rfl | hd
    · exact .inl hn
    · exact .inr (weights_all_mem hd n hn)
theorem cells_get {w : World} {base n : Nat} {a : Addr} {cs : List Value} (h : w.cells? base a n = some cs) : cs.length = n ∧ ∀ i u, cs[i]? = some u → w.cell? (a.add i) = some u := by
  unfold World.cells? at h
  split at h
  · have hl := mapM_some_length h
    refine ⟨by simpa using hl, fun i u hu => ?_⟩
    have hi : i < n := by
      rcases Nat.lt_or_ge i n with h' | h'
      · exact h'
      · rw [List.getElem?_eq_none (by simp at hl; omega)] at hu; cases hu
    have := mapM_some_get h i i (by simp [hi])
    rw [this]; exact hu
  · cases h
theorem Opens.slice {P : Program} {t e : TypeId} {α : Type} {d : Kd α} {wf : α → Prop} {B : Nat} (ht : P.underlying t = some (.slice e)) (hsz : P.cellsOf e = d.sz) (hB : P.bytesOf e = B) (he : Opens P e d wf) :
    Opens P t (Kd.slice e d) (fun xs => xs.length * B ≤ 140737488351232 ∧ ∀ x ∈ xs, wf x) := by
  intro H enc w base spare held fuel cs y h hw
  rcases open_slice ht h with ⟨rfl, rfl⟩ | ⟨a, len, cap, m, n, D, Pl, rfl, hb, hl, hc, hm, rfl, hel⟩
  · exact ⟨[], ⟨none, 0, rfl, Nat.le_refl _, Kd.C_nil d w⟩, by simp⟩
  · have hlm : len ≤ m := by rw [hm]; split <;> omega
    have hx : ∀ i, i < len → ∃ x c, c.length = d.sz ∧ d.K w x c ∧ (∀ j u, c[j]? = some u → w.cell? ((a.add (i * d.sz)).add j) = some u) ∧ wf x := by
      intro i hi
      obtain ⟨cs', h1, h2⟩ := hel i (by omega)
      rw [hsz] at h1
      obtain ⟨hcl, hcc⟩ := cells_get h1
      obtain ⟨x, hK, hwf⟩ := he H enc w base spare held n cs' _ h2 (fun z hz => hw z (by
        simp only [DataW.weights, ht, List.mem_cons, List.mem_append]
        exact .inr (.inl (weights_all_mem (List.mem_map.2 ⟨i, by simp [hi], rfl⟩) z hz))))
      exact ⟨x, cs', hcl, hK, hcc, hwf⟩
    have hlen : len ≤ 9223372036854775807 := by simp only [maxLen] at hc; omega
    have hbytes : len * B ≤ 140737488351232 := by
      have := hw _ (by
        simp only [DataW.weights, ht]
        exact List.mem_cons_self)
      simp only [List.length_map, List.length_range, hB] at this
      have h3 : len * B ≤ (len + (m - len)) * B := Nat.mul_le_mul_right _ (by omega)
      have h4 : reachBytes = 140737488351232 := by decide
      omega
    have hlist : ∀ k, k ≤ len → ∃ xs : List α, xs.length = k ∧ (∀ i p, xs[i]? = some p → ∃ c, c.length = d.sz ∧ d.K w p c ∧ ∀ j u, c[j]? = some u → w.cell? ((a.add (i * d.sz)).add j) = some u) ∧ ∀ x ∈ xs, wf x := by
      intro k
      induction k with
      | zero => intro _; exact ⟨[], rfl, by simp, by simp⟩
      | succ k ih =>
        intro hk
        obtain ⟨xs, h1, h2, h3⟩ := ih (by omega)
        obtain ⟨x, c, hc1, hc2, hc3, hc4⟩ := hx k (by omega)
        refine ⟨xs ++ [x], by simp [h1], fun i p hp => ?_, fun z hz => ?_⟩
        · by_cases hi : i < k
          · rw [List.getElem?_append_left (by omega)] at hp
            exact h2 i p hp
          · have hi' : i = k := by
              rcases Nat.lt_or_ge i (k + 1) with h' | h'
              · omega
              · rw [List.getElem?_eq_none (by simp [h1]; omega)] at hp; cases hp
            subst hi'
            rw [List.getElem?_append_right (by omega)] at hp
            simp [h1] at hp
            subst hp
            exact ⟨c, hc1, hc2, hc3⟩
        · rcases List.mem_append.1 hz with hz | hz
          · exact h3 z hz
          · rw [List.mem_singleton.1 hz]; exact hc4
    obtain ⟨xs, h1, h2, h3⟩ := hlist len (Nat.le_refl _)
    refine ⟨xs, ⟨some a, cap, by rw [h1], by omega, h1 ▸ ⟨by omega, by omega, fun _ => ⟨a, rfl, fun j p hj => ?_⟩⟩⟩, by rw [h1]; exact hbytes, h3⟩
    obtain ⟨c, hc1, hc2, hc3⟩ := h2 j p hj
    exact ⟨c, hc1, hc2, fun i u hu => by
      have := hc3 i u hu
      rwa [Addr.add_add] at this⟩
def OpensL (P : Program) (fs : List Field) (off : Nat) {α : Type} (d : Kd α) (wf : α → Prop) : Prop :=
  ∀ (H : Type) (enc : TypeId × Value → H) (w : World) (base : Nat) (spare : Nat → Bool) (held : Bool) (fuel : Nat) (cs : List Value) (ys : List (DataW H × List MemPlace)),
    cs.length = off + d.sz → ys.length = fs.length → (∀ (i : Nat) (f : Field), fs[i]? = some f → DataW.trod enc P w base spare held fuel f.type ((cs.drop f.offset).take (P.cellsOf f.type)) = ys[i]?) →
    (∀ n ∈ DataW.weightsEach P (fs.map (·.type)) (ys.map (·.1)), n ≤ reachBytes) → ∃ x, d.K w x (cs.drop off) ∧ wf x
theorem OpensL.last {P : Program} {f : Field} {off : Nat} {α : Type} {d : Kd α} {wf : α → Prop} (ho : f.offset = off) (hsz : P.cellsOf f.type = d.sz) (h : Opens P f.type d wf) : OpensL P [f] off d wf := by
  intro H enc w base spare held fuel cs ys hl hy hf hw
  obtain ⟨y, rfl⟩ : ∃ y, ys = [y] := by
    match ys, hy with
    | [y], _ => exact ⟨y, rfl⟩
  have h0 := hf 0 f rfl
  rw [ho, hsz, List.take_of_length_le (by simp; omega)] at h0
  exact h H enc w base spare held fuel _ y h0 (fun n hn => hw n (by simpa [DataW.weightsEach] using hn))
theorem OpensL.cons {P : Program} {f : Field} {fs : List Field} {off : Nat} {α β : Type} {d : Kd α} {d' : Kd β} {wf : α → Prop} {wf' : β → Prop} (ho : f.offset = off) (hsz : P.cellsOf f.type = d.sz) (h : Opens P f.type d wf) (h' : OpensL P fs (off + d.sz) d' wf') :
    OpensL P (f :: fs) off (Kd.pair d d') (fun x => wf x.1 ∧ wf' x.2) := by
  intro H enc w base spare held fuel cs ys hl hy hf hw
  obtain ⟨y, ys, rfl⟩ : ∃ y ys', ys = y :: ys' := by
    match ys, hy with
    | y :: ys', _ => exact ⟨y, ys', rfl⟩
  have hl2 : cs.length = off + (d.sz + d'.sz) := hl
  have h0 := hf 0 f rfl
  rw [ho, hsz] at h0
  obtain ⟨x, hx, wx⟩ := h H enc w base spare held fuel _ y h0 (fun n hn => hw n (by simp [DataW.weightsEach]; exact .inl hn))
  obtain ⟨x', hx', wx'⟩ := h' H enc w base spare held fuel cs ys (by omega) (by simpa using hy) (fun i g hg => by simpa using hf (i + 1) g (by simpa using hg)) (fun n hn => hw n (by simp [DataW.weightsEach]; exact .inr (by simpa using hn)))
  refine ⟨(x, x'), ⟨(cs.drop off).take d.sz, cs.drop (off + d.sz), ?_, hx, hx'⟩, wx, wx'⟩
  rw [← List.drop_drop, List.take_append_drop]
theorem Opens.struct {P : Program} {t : TypeId} {fs : Array Field} {α β : Type} {d : Kd α} {wf : α → Prop} (f : β → α) (g : α → β) (hfg : ∀ x, f (g x) = x) (ht : P.underlying t = some (.struct fs)) (hsz : P.cellsOf t = d.sz) (h : OpensL P fs.toList 0 d wf) :
    Opens P t (Kd.iso d f) (fun x => wf (f x)) := by
  intro H enc w base spare held fuel cs y hy hw
  obtain ⟨xs, n, rfl, rfl, hl, hlen, hf⟩ := DataW.trod_struct ht hy
  obtain ⟨x, hx, wx⟩ := h H enc w base spare held n cs xs (by omega) (by simpa using hlen) (fun i g hg => hf i g (by simpa using hg)) (fun z hz => hw z (by simpa [DataW.weights, ht] using hz))
  refine ⟨g x, ?_, ?_⟩
  · show d.K w (f (g x)) cs
    rw [hfg]; simpa using hx
  · show wf (f (g x))
    rw [hfg]; exact wx
theorem open_arg {P : Program} {t : TypeId} {α : Type} {d : Kd α} {wf : α → Prop} (ho : Opens P t d wf) {H : Type} {enc : TypeId × Value → H} {w : World} {base : Nat} {spare : Nat → Bool} {held : Bool} {v : Value} {ts : List TypeId} {ds : List (DataW H)} {dd : DataW H} {p : List MemPlace} {j : Nat}
    (hsz : (DataW.weightsEach P ts ds).all (· ≤ reachBytes) = true) (htj : ts[j]? = some t) (hdj : ds[j]? = some dd) (h : DataW.Trod enc P w base spare held t v dd p) : ∃ x, d.K w x v.cells.toList ∧ wf x := by
  obtain ⟨fuel, hf⟩ := h
  exact ho H enc w base spare held fuel _ _ hf (fun n hn => by simpa using List.all_eq_true.1 hsz n (DataW.weights_mem_each htj hdj n hn))
end Go.Proofs.YtlmnmakkojgfnaaGreatDoorOwn
