-- out of the printed words: what this claim's texts name
import Derived.Test.YtlmnmakkojgfnaaGreatDoorVWWords
import Derived.Test.YtlmnmakkojgfnaaGreatDoorVWMore
import Derived.Shelf.Abstract
namespace Go.Proofs.YtlmnmakkojgfnaaGreatDoorOwn
open Go.RowKit Go.Proofs.YtlmnmakkojgfnaaGreatDoorW.PrintWords
set_option linter.unusedVariables false
def allO {α : Type} (p : α → Option Bool) : List α → Option Bool
  | [] => some true
  | x :: xs => (p x).bind fun b => if b = true then allO p xs else some false
theorem allO_mono {α : Type} {p q : α → Option Bool} (h : ∀ x, LeO (p x) (q x)) : ∀ l : List α, LeO (allO p l) (allO q l)
  | [] => fun r hr => hr
  | x :: xs => by
    intro r hr
    simp only [allO] at hr ⊢
    obtain ⟨b, hb, hr⟩ := Option.bind_eq_some_iff.mp hr
    rw [h x b hb]
    show (if b = true then allO q xs else some false) = some r
    cases b with
    | true => exact allO_mono h xs r hr
    | false => exact hr
def PredOk (P : Program) (h : Nat) {α : Type} (enc : α → Value) (p : α → Option Bool) : Prop :=
  ∀ (x : α) (r : Bool) (w : World), p x = some r → Calls P h #[enc x] w fun e w' => e = .returned (.bool r) ∧ Below w.heap.size w w'
def idxO {α : Type} (p : α → Option Bool) : List α → Int → Option Int
  | [], _ => some (-1)
  | x :: xs, i => (p x).bind fun b => if b = true then idxO p xs (i + 1) else some i
theorem idxO_step {α : Type} (p : α → Option Bool) (xs : List α) (z : α) (j : Nat) (hj : j < xs.length) (r : Int) (h : idxO p (xs.drop j) j = some r) :
    ∃ b, p (xs.getD j z) = some b ∧ (b = true → idxO p (xs.drop (j + 1)) ((j + 1 : Nat) : Int) = some r) ∧ (b = false → r = j) := by
  rw [List.drop_eq_getElem_cons hj] at h
  simp only [idxO] at h
  obtain ⟨b, hb, h⟩ := Option.bind_eq_some_iff.mp h
  refine ⟨b, by rw [List.getD_eq_getElem?_getD, List.getElem?_eq_getElem hj]; exact hb, fun e => ?_, fun e => ?_⟩
  · subst e; simpa using h
  · subst e; simpa using h.symm
theorem allO_idx {α : Type} (p : α → Option Bool) : ∀ (l : List α) (b : Bool), allO p l = some b → ∀ i : Nat, ∃ r, idxO p l i = some r ∧ (b = true → r = -1) ∧ (b = false → 0 ≤ r)
  | [], b, h, i => by
    simp only [allO, Option.some.injEq] at h
    subst h
    exact ⟨-1, rfl, fun _ => rfl, fun h => by cases h⟩
  | x :: xs, b, h, i => by
    simp only [allO] at h
    obtain ⟨c, hc, h⟩ := Option.bind_eq_some_iff.mp h
    cases c with
    | true =>
      rw [if_pos rfl] at h
      obtain ⟨r, hr, h1, h2⟩ := allO_idx p xs b h (i + 1)
      exact ⟨r, by simp only [idxO]; rw [hc]; simpa using hr, h1, h2⟩
    | false =>
      rw [if_neg (by simp)] at h
      simp only [Option.some.injEq] at h
      subst h
      exact ⟨i, by simp only [idxO]; rw [hc]; simp, (fun h => by cases h), fun _ => by omega⟩
theorem allO_all' {α : Type} {p : α → Option Bool} {q : α → Bool} : ∀ l : List α, (∀ x, x ∈ l → p x = some (q x)) → allO p l = some (l.all q)
  | [], _ => rfl
  | x :: xs, h => by
    simp only [allO, h x List.mem_cons_self, Option.bind_some, allO_all' xs (fun y hy => h y (List.mem_cons_of_mem _ hy)), List.all_cons]
    cases q x <;> rfl
end Go.Proofs.YtlmnmakkojgfnaaGreatDoorOwn
