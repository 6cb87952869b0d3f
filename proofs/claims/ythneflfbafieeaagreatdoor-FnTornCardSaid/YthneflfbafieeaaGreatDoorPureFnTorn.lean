/- What FnTorn says of what the program computes, for every message that is drawn: of a message that is cut nothing is taken and more is asked for, and both take the same. -/
import Derived.Test.YthneflfbafieeaaGreatDoorPFnTornx26
namespace Go.Proofs.YthneflfbafieeaaGreatDoor.Pure
open Go.RowKit Go.Proofs.YthneflfbafieeaaGreatDoor.PFnTorn Go.Proofs.YthneflfbafieeaaGreatDoorW.PrintWords Go.Proofs.YthneflfbafieeaaGreatDoorW.PrintLast Go.Proofs.YthneflfbafieeaaGreatDoorW.PrintMore Go.Proofs.YthneflfbafieeaaGreatDoorOwn
set_option linter.unusedVariables false
set_option linter.unusedSimpArgs false

theorem w64 {x : Int} (h0 : -9223372036854775808 ≤ x) (h1 : x ≤ 9223372036854775807) : wrap64 x = x := by
 unfold wrap64; omega
theorem getD_at {α : Type} {l : List α} {j : Nat} (h : j < l.length) (z : α) : l.getD j z = l[j] := by
 rw [List.getD_eq_getElem?_getD, List.getElem?_eq_getElem h]; rfl
theorem fin_of (s : ByteArray) (i : Int) : ∃ c : Fin 256, bt s i = (c.val : Int) := by
 have h := bt_range s i
 exact ⟨⟨(bt s i).toNat, by omega⟩, by simp only; omega⟩
theorem bytes_fin (s : ByteArray) : ∀ x ∈ bytesOf s, ∃ c : Fin 256, x = (c.val : Int) := by
 intro x hx
 unfold bytesOf at hx
 obtain ⟨u, _, rfl⟩ := List.mem_map.mp hx
 exact ⟨⟨u.toNat, u.toNat_lt⟩, rfl⟩
theorem w2 {i n : Nat} (h : i ≤ n) (hn : n ≤ 1125899906842624) (j : Nat) (hj : j ≤ 5) : wrap64 ((i : Int) + (j : Int)) = ((i + j : Nat) : Int) := by unfold wrap64; omega
theorem bytes_drop (s : ByteArray) (i : Nat) (h : i < s.size) : (bytesOf s).drop i = bt s (i : Int) :: (bytesOf s).drop (i + 1) := by
 have hl : i < (bytesOf s).length := by rw [bytesOf_length]; exact h
 rw [List.drop_eq_getElem_cons hl]
 congr 1
 rw [← getD_at hl 0]
 exact (rd_bytesOf s (i : Int))
/-- A loop that asks each byte. -/
theorem all_loop (L : Nat → Int → Option Bool) (s : ByteArray) (p : Int → Bool) (e : Bool)
  (st : ∀ i : Nat, i < s.size → ∀ r, Ev (fun k => L k ((i + 1 : Nat) : Int)) r → Ev (fun k => L k (i : Int)) (p (bt s (i : Int)) && r))
  (fin : Ev (fun k => L k (s.size : Int)) e) : Ev (fun k => L k 0) ((bytesOf s).all p && e) := by
 have go : ∀ (d i : Nat), i + d = s.size → Ev (fun k => L k (i : Int)) (((bytesOf s).drop i).all p && e) := by
  intro d
  induction d with
  | zero =>
   intro i hi
   have hi' : i = s.size := by omega
   subst hi'
   rw [List.drop_of_length_le (by rw [bytesOf_length]; exact Nat.le_refl _)]
   simpa using fin
  | succ d ih =>
   intro i hi
   rw [bytes_drop s i (by omega), List.all_cons, Bool.and_assoc]
   exact st i (by omega) _ (ih (i + 1) (by omega))
 have h := go s.size 0 (by omega)
 rw [List.drop_zero] at h
 exact h
def tokB (c : Int) : Bool := (impl_isToken_1.f c).getD false
def tgtB (c : Int) : Bool := decide (33 ≤ c) && decide (c ≤ 126)
def prB (c : Int) : Bool := decide (32 ≤ c) && decide (c ≤ 126)
theorem tok_fin : ∀ c : Fin 256, impl_isToken_1.f (c.val : Int) = some (tokB (c.val : Int)) ∧ spec_l3TokenByte.f 20 (c.val : Int) = some (tokB (c.val : Int)) := by decide +kernel
theorem tgt_is (c : Int) : impl_isTarget_1.f c = some (tgtB c) := by
 unfold impl_isTarget_1.f tgtB
 by_cases h : c ≥ 33
 ·rw [if_pos h, decide_eq_true (show 33 ≤ c from h)]; rfl
 ·rw [if_neg h, decide_eq_false (show ¬ 33 ≤ c from h)]; rfl
theorem pr_is (c : Int) : impl_isPrinted_1.f c = some (prB c) := by
 unfold impl_isPrinted_1.f prB
 by_cases h : c ≥ 32
 ·rw [if_pos h, decide_eq_true (show 32 ≤ c from h)]; rfl
 ·rw [if_neg h, decide_eq_false (show ¬ 32 ≤ c from h)]; rfl
theorem within_is (a lo hi : Int) : impl_within.f a lo hi = some (decide (lo ≤ a) && decide (a ≤ hi)) := by
 unfold impl_within.f
 by_cases c : lo ≤ a
 ·rw [if_pos c, decide_eq_true c]; rfl
 ·rw [if_neg c, decide_eq_false c]; rfl
theorem l1In_is (a lo hi : Int) : spec_l1In.f a lo hi = some (decide (lo ≤ a) && decide (a ≤ hi)) := by
 unfold spec_l1In.f
 by_cases c : a ≥ lo
 ·rw [if_pos c, decide_eq_true (show lo ≤ a from c)]; rfl
 ·rw [if_neg c, decide_eq_false (show ¬ lo ≤ a from c)]; rfl
def tokT (s : ByteArray) : Bool := (bytesOf s).all tokB && (decide ((1 : Int) ≤ (s.size : Int)) && decide ((s.size : Int) ≤ 60))
def tgtT (s : ByteArray) : Bool := (bytesOf s).all tgtB && (decide ((1 : Int) ≤ (s.size : Int)) && decide ((s.size : Int) ≤ 200))
def prT (s : ByteArray) : Bool := (bytesOf s).all prB
theorem tok_impl (s : ByteArray) (hz : s.size ≤ 1125899906842624) : impl_isToken.f s = some (tokT s) := by
 unfold impl_isToken.f tokT
 rw [within_is, Option.bind_some]
 have h : impl_areBytes_103.f s = some ((bytesOf s).all tokB) := by
  unfold impl_areBytes_103.f
  rw [if_pos (by omega)]
  exact allO_all' (bytesOf s) (fun x hx => by obtain ⟨c, rfl⟩ := bytes_fin s x hx; exact (tok_fin c).1)
 rw [h]
 generalize (decide ((1 : Int) ≤ (s.size : Int)) && decide ((s.size : Int) ≤ 60)) = z
 cases z <;> simp
theorem tgt_impl (s : ByteArray) (hz : s.size ≤ 1125899906842624) : impl_isTarget.f s = some (tgtT s) := by
 unfold impl_isTarget.f tgtT
 rw [within_is, Option.bind_some]
 have h : impl_areBytes_105.f s = some ((bytesOf s).all tgtB) := by
  unfold impl_areBytes_105.f
  rw [if_pos (by omega)]
  exact allO_all' (bytesOf s) (fun x _ => tgt_is x)
 rw [h]
 generalize (decide ((1 : Int) ≤ (s.size : Int)) && decide ((s.size : Int) ≤ 200)) = z
 cases z <;> simp
theorem pr_impl (s : ByteArray) (m : Int) (hz : s.size ≤ 1125899906842624) : impl_isPrinted.f s m = some (decide ((s.size : Int) ≤ m) && prT s) := by
 unfold impl_isPrinted.f prT
 have h : impl_areBytes_111.f s = some ((bytesOf s).all prB) := by
  unfold impl_areBytes_111.f
  rw [if_pos (by omega)]
  exact allO_all' (bytesOf s) (fun x _ => pr_is x)
 rw [h]
 by_cases c : (s.size : Int) ≤ m
 ·rw [if_pos c, decide_eq_true c]; rfl
 ·rw [if_neg c, decide_eq_false c]; rfl
theorem tok_spec (s : ByteArray) (hz : s.size ≤ 1125899906842624) : Ev (fun k => spec_l3Token.f k s) (tokT s) := by
 refine all_loop (fun k i => spec_l3Token.l0 k s i) s tokB (decide ((1 : Int) ≤ (s.size : Int)) && decide ((s.size : Int) ≤ 60)) (fun i hi r h => ?_) (Ev.step (f := fun _ => some (decide ((1 : Int) ≤ (s.size : Int)) && decide ((s.size : Int) ≤ 60))) (fun k => ?_) (Ev.now _))
 ·obtain ⟨c, hc⟩ := fin_of s (i : Int)
  refine Ev.step (f := fun k => (spec_l3TokenByte.f k (bt s (i : Int))).bind fun t108 => if t108 = true then spec_l3Token.l0 k s ((i + 1 : Nat) : Int) else some false) (fun k => ?_) ?_
  ·simp only [spec_l3Token.l0]
   rw [if_pos (by omega), if_pos (by omega), show wrap64 ((i : Int) + 1) = ((i + 1 : Nat) : Int) from w2 (Nat.le_of_lt hi) hz 1 (by omega)]
  ·rw [hc]
   refine Ev.bind (Ev.of (fun k => spec_l3TokenByte.mono _ _) (tok_fin c).2) ?_
   cases tokB (c.val : Int) with
   | true => exact Ev.congr (fun k => by rw [if_pos rfl]) (by simpa using h)
   | false => simp only [Bool.false_and]; exact Ev.congr (fun k => by rw [if_neg (by simp)]) (Ev.now _)
 ·simp only [spec_l3Token.l0]
  rw [if_neg (by omega), l1In_is]
  rfl
theorem tgt_spec (s : ByteArray) (hz : s.size ≤ 1125899906842624) : Ev (fun k => spec_l4Target.f k s) (tgtT s) := by
 refine all_loop (fun k i => spec_l4Target.l0 k s i) s tgtB (decide ((1 : Int) ≤ (s.size : Int)) && decide ((s.size : Int) ≤ 200)) (fun i hi r h => ?_) (Ev.step (f := fun _ => some (decide ((1 : Int) ≤ (s.size : Int)) && decide ((s.size : Int) ≤ 200))) (fun k => ?_) (Ev.now _))
 ·refine Ev.step (f := fun k => if bt s (i : Int) < 33 then some false else if bt s (i : Int) > 126 then some false else spec_l4Target.l0 k s ((i + 1 : Nat) : Int)) (fun k => ?_) ?_
  ·simp only [spec_l4Target.l0]
   rw [if_pos (by omega), if_pos (by omega), show wrap64 ((i : Int) + 1) = ((i + 1 : Nat) : Int) from w2 (Nat.le_of_lt hi) hz 1 (by omega)]
  ·unfold tgtB
   by_cases c1 : bt s (i : Int) < 33
   ·rw [decide_eq_false (show ¬ 33 ≤ bt s (i : Int) by omega)]
    simp only [Bool.true_and, Bool.false_and, Bool.and_false]
    exact Ev.congr (fun k => by rw [if_pos c1]) (Ev.now _)
   ·rw [decide_eq_true (show 33 ≤ bt s (i : Int) by omega)]
    by_cases c2 : bt s (i : Int) > 126
    ·rw [decide_eq_false (show ¬ bt s (i : Int) ≤ 126 by omega)]
     simp only [Bool.true_and, Bool.false_and, Bool.and_false]
     exact Ev.congr (fun k => by rw [if_neg c1, if_pos c2]) (Ev.now _)
    ·rw [decide_eq_true (show bt s (i : Int) ≤ 126 by omega)]
     exact Ev.congr (fun k => by rw [if_neg c1, if_neg c2]) (by simpa using h)
 ·simp only [spec_l4Target.l0]
  rw [if_neg (by omega), l1In_is]
  rfl
theorem pr_spec (s : ByteArray) (hz : s.size ≤ 1125899906842624) : Ev (fun k => spec_l3Printed.f k s) (prT s) := by
 have h0 := all_loop (fun k i => spec_l3Printed.l0 k s i) s prB true (fun i hi r h => ?_) (Ev.step (f := fun _ => some true) (fun k => ?_) (Ev.now _))
 ·rw [Bool.and_true] at h0; exact h0
 ·refine Ev.step (f := fun k => if bt s (i : Int) < 32 then some false else if bt s (i : Int) > 126 then some false else spec_l3Printed.l0 k s ((i + 1 : Nat) : Int)) (fun k => ?_) ?_
  ·simp only [spec_l3Printed.l0]
   rw [if_pos (by omega), if_pos (by omega), show wrap64 ((i : Int) + 1) = ((i + 1 : Nat) : Int) from w2 (Nat.le_of_lt hi) hz 1 (by omega)]
  ·unfold prB
   by_cases c1 : bt s (i : Int) < 32
   ·rw [decide_eq_false (show ¬ 32 ≤ bt s (i : Int) by omega)]
    simp only [Bool.true_and, Bool.false_and, Bool.and_false]
    exact Ev.congr (fun k => by rw [if_pos c1]) (Ev.now _)
   ·rw [decide_eq_true (show 32 ≤ bt s (i : Int) by omega)]
    by_cases c2 : bt s (i : Int) > 126
    ·rw [decide_eq_false (show ¬ bt s (i : Int) ≤ 126 by omega)]
     simp only [Bool.true_and, Bool.false_and, Bool.and_false]
     exact Ev.congr (fun k => by rw [if_neg c1, if_pos c2]) (Ev.now _)
    ·rw [decide_eq_true (show bt s (i : Int) ≤ 126 by omega)]
     exact Ev.congr (fun k => by rw [if_neg c1, if_neg c2]) (by simpa using h)
 ·simp only [spec_l3Printed.l0]
  rw [if_neg (by omega)]

theorem occ1 (l : List UInt8) (c : UInt8) (i : Nat) : Lib.occAt l [c] i = true ↔ l[i]? = some c := by
 unfold Lib.occAt
 cases h : l.drop i with
 | nil =>
  have : l.length ≤ i := by
   have := congrArg List.length h; simp at this; omega
  rw [List.getElem?_eq_none this]; simp [List.isPrefixOf]
 | cons x xs =>
  have hl : i < l.length := by
   rcases Nat.lt_or_ge i l.length with h' | h'
   ·exact h'
   ·rw [List.drop_of_length_le h'] at h; cases h
  have hx : l[i]? = some x := by
   rw [List.getElem?_eq_getElem hl]
   rw [List.drop_eq_getElem_cons hl] at h
   exact congrArg some (List.cons.inj h).1
  rw [hx]
  constructor
  ·intro h1
   simp [List.isPrefixOf] at h1
   rw [h1]
  ·intro h1
   have h2 := Option.some.inj h1
   subst h2
   simp [List.isPrefixOf]
theorem bt_get (s : ByteArray) (i : Nat) (c : UInt8) (hi : i < s.size) : bt s (i : Int) = (c.toNat : Int) ↔ s.data.toList[i]? = some c := by
 have h' : i < s.data.toList.length := by rw [data_length]; exact hi
 rw [← rd_bytesOf]
 show (bytesOf s).getD i 0 = _ ↔ _
 unfold bytesOf
 rw [List.getD_eq_getElem?_getD, List.getElem?_map, List.getElem?_eq_getElem h']
 simp only [Option.map_some, Option.getD_some, Option.some.injEq]
 constructor
 ·intro h; exact UInt8.toNat_inj.mp (by omega)
 ·intro h; rw [h]
theorem ba_ext {a b : ByteArray} (h : a.data.toList = b.data.toList) : a = b := by
 obtain ⟨⟨x⟩⟩ := a
 obtain ⟨⟨y⟩⟩ := b
 simp only at h
 rw [h]
theorem data_mk (l : List UInt8) : (⟨l.toArray⟩ : ByteArray).data.toList = l := rfl
/-- What cutting at the first of a byte tells. -/
theorem cut_at (s : ByteArray) (c : UInt8) (i : Nat) (hi : i < s.size) (h1 : s.data.toList[i]? = some c) (h0 : ∀ j, j < i → s.data.toList[j]? ≠ some c) :
  cutT s ⟨#[c]⟩ = (s.extract 0 i, s.extract (i + 1) s.size, true) := by
 have hx : Lib.index s.data.toList [c] = (i : Int) := Lib.index_first (by rw [data_length]; omega) ((occ1 _ _ _).mpr h1) (fun j hj => by
  rw [Bool.eq_false_iff]; intro h2; exact h0 j hj ((occ1 _ _ _).mp h2))
 unfold cutT Lib.cut
 rw [show (⟨#[c]⟩ : ByteArray).data.toList = [c] from rfl, hx, if_pos (by omega)]
 simp only [Int.toNat_natCast, List.length_singleton]
 refine Prod.ext (ba_ext ?_) (Prod.ext (ba_ext ?_) rfl)
 ·rw [data_mk, Lib.extract_from_zero]
 ·rw [data_mk, Lib.extract_to_end]
theorem cut_no (s : ByteArray) (c : UInt8) (h0 : ∀ j, j < s.size → s.data.toList[j]? ≠ some c) : cutT s ⟨#[c]⟩ = (s, ⟨#[]⟩, false) := by
 have hx : Lib.index s.data.toList [c] = -1 := Lib.index_none (fun j hj => by
  rw [Bool.eq_false_iff]; intro h2
  have h3 := (occ1 _ _ _).mp h2
  rcases Nat.lt_or_ge j s.size with h' | h'
  ·exact h0 j h' h3
  ·rw [List.getElem?_eq_none (by rw [data_length]; exact h')] at h3; cases h3)
 unfold cutT Lib.cut
 rw [show (⟨#[c]⟩ : ByteArray).data.toList = [c] from rfl, hx, if_neg (by omega)]
theorem cut_loop (s : ByteArray) (c : UInt8) (hz : s.size ≤ 1125899906842624) : ∀ (d i : Nat), i + d = s.size → (∀ j, j < i → s.data.toList[j]? ≠ some c) →
  Ev (fun k => spec_l1Cut.l0 k s (c.toNat : Int) (i : Int)) (cutT s ⟨#[c]⟩) := by
 intro d
 induction d with
 | zero =>
  intro i hi h0
  rw [cut_no s c (fun j hj => h0 j (by omega))]
  refine Ev.step (f := fun _ => some (s, (⟨#[]⟩ : ByteArray), false)) (fun k => ?_) (Ev.now _)
  simp only [spec_l1Cut.l0]
  rw [if_neg (by omega)]
 | succ d ih =>
  intro i hi h0
  have hlt : i < s.size := by omega
  have w1 : wrap64 ((i : Int) + 1) = ((i + 1 : Nat) : Int) := w2 (Nat.le_of_lt hlt) hz 1 (by omega)
  by_cases hb : bt s (i : Int) = (c.toNat : Int)
  ·rw [cut_at s c i hlt ((bt_get s i c hlt).mp hb) h0]
   refine Ev.step (f := fun _ => some (s.extract 0 i, s.extract (i + 1) s.size, true)) (fun k => ?_) (Ev.now _)
   simp only [spec_l1Cut.l0]
   rw [if_pos (by omega), if_pos (by omega), if_pos hb, if_pos (by omega), w1, if_pos (by omega), if_pos (by omega), Int.toNat_natCast, Int.toNat_natCast]
  ·refine Ev.step (fun k => ?_) (ih (i + 1) (by omega) (fun j hj => ?_))
   ·simp only [spec_l1Cut.l0]
    rw [if_pos (by omega), if_pos (by omega), if_neg hb, w1]
   ·rcases Nat.lt_or_ge j i with h' | h'
    ·exact h0 j h'
    ·have : j = i := by omega
     subst this
     exact fun h2 => hb ((bt_get s j c hlt).mpr h2)
theorem cut_spec (s : ByteArray) (c : UInt8) (n : Int) (hn : n = (c.toNat : Int)) (hz : s.size ≤ 1125899906842624) : Ev (fun k => spec_l1Cut.f k s n) (cutT s ⟨#[c]⟩) := by
 subst hn
 exact cut_loop s c hz s.size 0 (by omega) (fun j hj => by omega)
theorem cut_size (s : ByteArray) (c : UInt8) : (cutT s ⟨#[c]⟩).1.size ≤ s.size ∧ (cutT s ⟨#[c]⟩).2.1.size ≤ s.size := by
 unfold cutT Lib.cut
 split
 ·constructor
  ·show (List.toArray _).size ≤ _
   rw [List.size_toArray, List.length_take, data_length]; omega
  ·show (List.toArray _).size ≤ _
   rw [List.size_toArray, List.length_drop, data_length]; omega
 ·constructor
  ·show (List.toArray _).size ≤ _
   rw [List.size_toArray, data_length]; omega
  ·show (List.toArray _).size ≤ _
   simp

theorem rt_snoc (l : List UInt8) (x : UInt8) : Lib.trimRightS (l ++ [x]) [32] = if x = 32 then Lib.trimRightS l [32] else l ++ [x] := by
 unfold Lib.trimRightS
 rw [List.reverse_append]
 simp only [List.reverse_cons, List.reverse_nil, List.nil_append, List.singleton_append, List.dropWhile_cons]
 by_cases h : x = 32
 ·rw [if_pos h, if_pos (by subst h; rfl)]
 ·rw [if_neg h, if_neg (by simp [h])]
  simp
theorem rt_cons (x : UInt8) (l : List UInt8) : Lib.trimRightS (x :: l) [32] = if Lib.trimRightS l [32] = [] ∧ x = 32 then [] else x :: Lib.trimRightS l [32] := by
 unfold Lib.trimRightS
 rw [List.reverse_cons, List.dropWhile_append]
 cases h : (l.reverse.dropWhile ([32].contains ·)) with
 | nil =>
  simp only [List.isEmpty_nil, if_true, List.reverse_nil, true_and, List.dropWhile_cons]
  by_cases c : x = 32
  ·rw [if_pos c, if_pos (by subst c; rfl)]; rfl
  ·rw [if_neg c, if_neg (by simp [c])]; rfl
 | cons y ys =>
  simp
theorem lt_cons (x : UInt8) (l : List UInt8) : Lib.trimLeftS (x :: l) [32] = if x = 32 then Lib.trimLeftS l [32] else x :: l := by
 unfold Lib.trimLeftS
 rw [List.dropWhile_cons]
 by_cases c : x = 32
 ·rw [if_pos c, if_pos (by subst c; rfl)]
 ·rw [if_neg c, if_neg (by simp [c])]
theorem trim_comm (l : List UInt8) : Lib.trimS l [32] = Lib.trimRightS (Lib.trimLeftS l [32]) [32] := by
 unfold Lib.trimS
 induction l with
 | nil => rfl
 | cons x l ih =>
  rw [rt_cons, lt_cons]
  by_cases c : x = 32
  ·rw [if_pos c, ← ih]
   by_cases e : Lib.trimRightS l [32] = []
   ·rw [if_pos ⟨e, c⟩, e]
   ·rw [if_neg (fun h => e h.1), lt_cons, if_pos c]
  ·rw [if_neg c, if_neg (fun h => c h.2), lt_cons, if_neg c, rt_cons, if_neg (fun h => c h.2)]
theorem last_split (s : ByteArray) (n : Nat) (hn : s.size = n + 1) : s.data.toList = (s.extract 0 n).data.toList ++ [s.data.toList.getD n 0] := by
 have hl : n < s.data.toList.length := by rw [data_length]; omega
 rw [Lib.extract_from_zero, List.getD_eq_getElem?_getD, List.getElem?_eq_getElem hl]
 simp only [Option.getD_some]
 rw [List.take_append_getElem hl, List.take_of_length_le (by rw [data_length]; omega)]
theorem trimR_loop : ∀ (n : Nat) (s : ByteArray), s.size = n → s.size ≤ 1125899906842624 → Ev (fun k => spec_l3Trim.l1 k s) ⟨(Lib.trimRightS s.data.toList [32]).toArray⟩ := by
 intro n
 induction n with
 | zero =>
  intro s hn hz
  have he : s.data.toList = [] := List.eq_nil_of_length_eq_zero (by rw [data_length]; exact hn)
  have e1 : (⟨(Lib.trimRightS s.data.toList [32]).toArray⟩ : ByteArray) = s := ba_ext (by rw [data_mk, he]; rfl)
  rw [e1]
  refine Ev.step (f := fun _ => some s) (fun k => ?_) (Ev.now _)
  simp only [spec_l3Trim.l1]
  rw [if_neg (by omega)]
 | succ n ih =>
  intro s hn hz
  have hlt : n < s.size := by omega
  have hw : wrap64 ((s.size : Int) - 1) = (n : Int) := by unfold wrap64; omega
  have hl : n < s.data.toList.length := by rw [data_length]; omega
  have hg : s.data.toList.getD n 0 = 32 ↔ bt s (n : Int) = 32 := by
   rw [show (32 : Int) = ((32 : UInt8).toNat : Int) from rfl, bt_get s n 32 hlt, List.getD_eq_getElem?_getD, List.getElem?_eq_getElem hl]
   simp
  have hs := last_split s n hn
  have hst : ∀ k, spec_l3Trim.l1 (k + 1) s = if bt s (n : Int) = 32 then spec_l3Trim.l1 k (s.extract 0 n) else some s := by
   intro k
   simp only [spec_l3Trim.l1]
   rw [hw, if_pos (by omega), if_pos (by omega), if_pos (by omega), Int.toNat_natCast]
   by_cases c : bt s (n : Int) = 32
   ·rw [if_pos c, if_pos c, if_pos (by omega)]
   ·rw [if_neg c, if_neg c]
  rw [hs, rt_snoc]
  by_cases c : bt s (n : Int) = 32
  ·rw [if_pos (hg.mpr c)]
   exact Ev.step (fun k => by rw [hst, if_pos c]) (ih (s.extract 0 n) (by rw [ByteArray.size_extract]; omega) (by rw [ByteArray.size_extract]; omega))
  ·rw [if_neg (fun h => c (hg.mp h)), ← hs]
   exact Ev.step (f := fun _ => some s) (fun k => by rw [hst, if_neg c]) (Ev.congr (fun k => rfl) (Ev.now _))
theorem trim_loop : ∀ (n : Nat) (s : ByteArray), s.size = n → s.size ≤ 1125899906842624 → Ev (fun k => spec_l3Trim.l0 k s) (trimT s) := by
 intro n
 induction n with
 | zero =>
  intro s hn hz
  have he : s.data.toList = [] := List.eq_nil_of_length_eq_zero (by rw [data_length]; exact hn)
  have h := trimR_loop 0 s hn hz
  have e : trimT s = ⟨(Lib.trimRightS s.data.toList [32]).toArray⟩ := by unfold trimT; rw [trim_comm, he]; rfl
  rw [e]
  refine Ev.step (f := fun k => spec_l3Trim.j1 k s) (fun k => ?_) (Ev.step (fun k => by simp only [spec_l3Trim.j1]) h)
  simp only [spec_l3Trim.l0]
  rw [if_neg (by omega)]
 | succ n ih =>
  intro s hn hz
  have hlt : 0 < s.size := by omega
  have hl : 0 < s.data.toList.length := by rw [data_length]; omega
  obtain ⟨x, l, hxl⟩ : ∃ x l, s.data.toList = x :: l := by
   cases h : s.data.toList with
   | nil => rw [h] at hl; simp at hl
   | cons x l => exact ⟨x, l, rfl⟩
  have hg : bt s 0 = 32 ↔ x = 32 := by
   rw [show (32 : Int) = ((32 : UInt8).toNat : Int) from rfl]
   refine (bt_get s 0 32 hlt).trans ?_
   rw [hxl]; simp
  have hst : ∀ k, spec_l3Trim.l0 (k + 1) s = if bt s 0 = 32 then spec_l3Trim.l0 k (s.extract 1 s.size) else spec_l3Trim.j1 k s := by
   intro k
   simp only [spec_l3Trim.l0]
   rw [if_pos (by omega), if_pos (by omega)]
   by_cases c : bt s 0 = 32
   ·rw [if_pos c, if_pos c, if_pos (by omega)]
   ·rw [if_neg c, if_neg c]
  by_cases c : bt s 0 = 32
  ·have e : trimT s = trimT (s.extract 1 s.size) := by
    unfold trimT
    rw [trim_comm, trim_comm, Lib.extract_to_end, hxl, lt_cons, if_pos (hg.mp c)]
    rfl
   rw [e]
   exact Ev.step (fun k => by rw [hst, if_pos c]) (ih (s.extract 1 s.size) (by rw [ByteArray.size_extract]; omega) (by rw [ByteArray.size_extract]; omega))
  ·have e : trimT s = ⟨(Lib.trimRightS s.data.toList [32]).toArray⟩ := by
    unfold trimT
    rw [trim_comm, hxl, lt_cons, if_neg (fun h => c (hg.mpr h))]
   rw [e]
   exact Ev.step (fun k => by rw [hst, if_neg c]) (Ev.step (fun k => by simp only [spec_l3Trim.j1]) (trimR_loop s.size s rfl hz))
theorem trim_spec (s : ByteArray) (hz : s.size ≤ 1125899906842624) : Ev (fun k => spec_l3Trim.f k s) (trimT s) := trim_loop s.size s rfl hz
theorem trim_impl (s : ByteArray) (hz : s.size ≤ 1125899906842624) : strings_Trim.f s (⟨#[32]⟩ : ByteArray) = some (trimT s) := by
 unfold strings_Trim.f
 rw [if_pos ⟨by omega, rfl⟩]
theorem trim_size (s : ByteArray) : (trimT s).size ≤ s.size := by
 show (Lib.trimS s.data.toList [32]).toArray.size ≤ _
 rw [List.size_toArray, ← data_length]
 unfold Lib.trimS Lib.trimLeftS Lib.trimRightS
 refine Nat.le_trans ((List.dropWhile_sublist _).length_le) ?_
 rw [List.length_reverse]
 exact Nat.le_trans ((List.dropWhile_sublist _).length_le) (by rw [List.length_reverse]; exact Nat.le_refl _)

theorem rt_len (l : List UInt8) : (Lib.trimRightS l [32]).length ≤ l.length := by
 unfold Lib.trimRightS
 rw [List.length_reverse]
 exact Nat.le_trans ((List.dropWhile_sublist _).length_le) (by rw [List.length_reverse]; exact Nat.le_refl _)
theorem lt_len (l : List UInt8) : (Lib.trimLeftS l [32]).length ≤ l.length := (List.dropWhile_sublist _).length_le
theorem trim_same (v : ByteArray) (hz : v.size ≤ 1125899906842624) : ((trimT v).toList == v.toList) = (decide (v.size = 0) || (!decide (bt v 0 = 32) && !decide (bt v ((v.size - 1 : Nat) : Int) = 32))) := by
 rw [ByteArray.toList_eq, ByteArray.toList_eq]
 show (Lib.trimS v.data.toList [32] == v.data.toList) = _
 rw [trim_comm]
 by_cases h0 : v.size = 0
 ·have he : v.data.toList = [] := List.eq_nil_of_length_eq_zero (by rw [data_length]; exact h0)
  rw [he, decide_eq_true h0]; rfl
 rw [decide_eq_false h0, Bool.false_or]
 have hl : 0 < v.data.toList.length := by rw [data_length]; omega
 obtain ⟨x, l, hxl⟩ : ∃ x l, v.data.toList = x :: l := by
  cases h : v.data.toList with
  | nil => rw [h] at hl; simp at hl
  | cons x l => exact ⟨x, l, rfl⟩
 have hg : bt v 0 = 32 ↔ x = 32 := by
  rw [show (32 : Int) = ((32 : UInt8).toNat : Int) from rfl]
  refine (bt_get v 0 32 (by omega)).trans ?_
  rw [hxl]; simp
 by_cases c : bt v 0 = 32
 ·rw [decide_eq_true c, Bool.not_true, Bool.false_and, beq_eq_false_iff_ne]
  intro h
  rw [hxl, lt_cons, if_pos (hg.mp c)] at h
  have h1 := congrArg List.length h
  have h2 := rt_len (Lib.trimLeftS l [32])
  have h3 := lt_len l
  simp only [List.length_cons] at h1
  omega
 ·have hlt : Lib.trimLeftS v.data.toList [32] = v.data.toList := by rw [hxl, lt_cons, if_neg (fun h => c (hg.mpr h))]
  rw [hlt, decide_eq_false c, Bool.not_false, Bool.true_and]
  obtain ⟨n, hn⟩ : ∃ n, v.size = n + 1 := ⟨v.size - 1, by omega⟩
  have hs := last_split v n hn
  have hln : n < v.data.toList.length := by rw [data_length]; omega
  have hgl : v.data.toList.getD n 0 = 32 ↔ bt v (n : Int) = 32 := by
   rw [show (32 : Int) = ((32 : UInt8).toNat : Int) from rfl, bt_get v n 32 (by omega), List.getD_eq_getElem?_getD, List.getElem?_eq_getElem hln]
   simp
  rw [show v.size - 1 = n by omega]
  by_cases d : bt v (n : Int) = 32
  ·rw [decide_eq_true d, Bool.not_true, beq_eq_false_iff_ne]
   intro h
   rw [hs, rt_snoc, if_pos (hgl.mpr d)] at h
   have h1 := congrArg List.length h
   have h2 := rt_len (v.extract 0 n).data.toList
   simp only [List.length_append, List.length_singleton] at h1
   omega
  ·rw [decide_eq_false d, Bool.not_false, beq_iff_eq]
   rw [hs, rt_snoc, if_neg (fun h => d (hgl.mp h))]
def goodT (n v : ByteArray) : Bool := tokT n && (decide ((v.size : Int) ≤ 300) && prT v) && ((trimT v).toList == v.toList)
theorem good_impl (n v : ByteArray) (hn : n.size ≤ 1125899906842624) (hv : v.size ≤ 1125899906842624) : impl_GoodField.f n v = some (goodT n v) := by
 unfold impl_GoodField.f goodT
 rw [tok_impl n hn, Option.bind_some, pr_impl v 300 hv, trim_impl v hv]
 cases tokT n with
 | false => rw [if_neg (by simp)]; rfl
 | true =>
  rw [if_pos rfl, Option.bind_some, Bool.true_and]
  generalize (decide ((v.size : Int) ≤ 300) && prT v) = z
  cases z with
  | false => rw [if_neg (by simp)]; rfl
  | true => rw [if_pos rfl, Option.bind_some, Bool.true_and]
theorem good_spec (n v : ByteArray) (hn : n.size ≤ 1125899906842624) (hv : v.size ≤ 1125899906842624) : Ev (fun k => spec_GoodField.f k n v) (goodT n v) := by
 unfold spec_GoodField.f goodT
 refine Ev.bind (tok_spec n hn) ?_
 cases tokT n with
 | false => simp only [Bool.false_and]; exact Ev.congr (fun k => by rw [if_neg (by simp)]) (Ev.now _)
 | true =>
  simp only [if_true, Bool.true_and]
  refine Ev.bind (pr_spec v hv) ?_
  cases prT v with
  | false => simp only [Bool.and_false, Bool.false_and]; exact Ev.congr (fun k => by rw [if_neg (by simp)]) (Ev.now _)
  | true =>
   simp only [if_true, Bool.and_true]
   by_cases c : (v.size : Int) ≤ 300
   ·rw [decide_eq_true c, Bool.true_and, trim_same v hv]
    simp only [if_pos c]
    by_cases h0 : v.size = 0
    ·rw [decide_eq_true h0, Bool.true_or]
     exact Ev.congr (fun k => by rw [if_pos (by omega)]) (Ev.now _)
    ·rw [decide_eq_false h0, Bool.false_or]
     have hw : wrap64 ((v.size : Int) - 1) = ((v.size - 1 : Nat) : Int) := by unfold wrap64; omega
     by_cases d : bt v 0 = 32
     ·rw [decide_eq_true d, Bool.not_true, Bool.false_and]
      exact Ev.congr (fun k => by rw [if_neg (by omega), if_pos (by omega), if_pos d]) (Ev.now _)
     ·rw [decide_eq_false d, Bool.not_false, Bool.true_and]
      refine Ev.congr (f := fun _ => some (bt v ((v.size - 1 : Nat) : Int) != 32)) (fun k => by rw [if_neg (by omega), if_pos (by omega), if_neg d, hw, if_pos (by omega), if_pos (by omega)]) ?_
      rw [show (bt v ((v.size - 1 : Nat) : Int) != 32) = !decide (bt v ((v.size - 1 : Nat) : Int) = 32) from rfl]
      exact Ev.now _
   ·rw [decide_eq_false c, Bool.false_and]
    exact Ev.congr (fun k => by rw [if_neg c]) (Ev.now _)
theorem low_impl (s : ByteArray) (hz : s.size ≤ 1125899906842624) : impl_small.f s = some (lowT s) := by unfold impl_small.f; rw [if_pos (by omega)]
theorem low_spec (s : ByteArray) (hz : s.size ≤ 1125899906842624) : spec_l1Lower.f s = some (lowT s) := by unfold spec_l1Lower.f; rw [if_pos (by omega)]
theorem is_spec (n v t : ByteArray) (hn : n.size ≤ 1125899906842624) (ht : t.size ≤ 1125899906842624) : spec_l3Is.f n v t = some ((lowT n).toList == (lowT t).toList) := by
 unfold spec_l3Is.f
 rw [low_spec n hn, low_spec t ht]; rfl

theorem list_both (s : ByteArray) (hz : s.size ≤ 1000000000) : ∀ (d i b : Nat) (acc : List ByteArray) (q : Bool), s.size + 1 - i ≤ d → i ≤ s.size + 1 → b ≤ i → acc.length ≤ i → (∀ x ∈ acc, x.size ≤ s.size) →
  ∃ R : List ByteArray × Bool, Ev (fun k => spec_l3List.l0 k s acc (b : Int) q (i : Int)) R ∧ Ev (fun k => impl_listOf.l0 k s acc (b : Int) q (i : Int)) R ∧ (∀ x ∈ R.1, x.size ≤ s.size) ∧ R.1.length ≤ s.size + 1 := by
 intro d
 induction d with
 | zero =>
  intro i b acc q hd hi hb ha hx
  have he : i = s.size + 1 := by omega
  exact ⟨(acc, !q), Ev.step (f := fun _ => some (acc, !q)) (fun k => by simp only [spec_l3List.l0]; rw [if_neg (by omega)]) (Ev.now _), Ev.step (f := fun _ => some (acc, !q)) (fun k => by simp only [impl_listOf.l0]; rw [if_neg (by omega)]) (Ev.now _), hx, by show acc.length ≤ _; omega⟩
 | succ d ih =>
  intro i b acc q hd hi hb ha hx
  by_cases hle : i ≤ s.size
  rotate_left
  ·exact ⟨(acc, !q), Ev.step (f := fun _ => some (acc, !q)) (fun k => by simp only [spec_l3List.l0]; rw [if_neg (by omega)]) (Ev.now _), Ev.step (f := fun _ => some (acc, !q)) (fun k => by simp only [impl_listOf.l0]; rw [if_neg (by omega)]) (Ev.now _), hx, by show acc.length ≤ _; omega⟩
  have w1 : wrap64 ((i : Int) + 1) = ((i + 1 : Nat) : Int) := w2 hle (by omega) 1 (by omega)
  have w12 : wrap64 (((i + 1 : Nat) : Int) + 1) = ((i + 2 : Nat) : Int) := by unfold wrap64; omega
  obtain ⟨fl, hfl⟩ : ∃ fl : Bool, fl = if (i : Int) = (s.size : Int) then true else if bt s (i : Int) = 44 then !q else false := ⟨_, rfl⟩
  have sp : ∀ R, Ev (fun k => spec_l3List.j1 k s acc (b : Int) q (i : Int) fl) R → Ev (fun k => spec_l3List.l0 k s acc (b : Int) q (i : Int)) R := by
   intro R h
   refine Ev.step (fun k => ?_) h
   simp only [spec_l3List.l0]
   rw [if_pos (by omega), hfl]
   by_cases c : (i : Int) = (s.size : Int)
   ·rw [if_pos c, if_pos c]
   ·rw [if_neg c, if_neg c, if_pos (by omega), if_pos (by omega)]
    by_cases e : bt s (i : Int) = 44
    ·rw [if_pos e, if_pos e]
    ·rw [if_neg e, if_neg e]
  have im : ∀ R, Ev (fun k => impl_listOf.j1 k s acc (b : Int) q (i : Int) fl) R → Ev (fun k => impl_listOf.l0 k s acc (b : Int) q (i : Int)) R := by
   intro R h
   refine Ev.step (fun k => ?_) h
   simp only [impl_listOf.l0]
   rw [if_pos (by omega), hfl]
   by_cases c : (i : Int) = (s.size : Int)
   ·rw [if_pos c, if_pos c]
   ·rw [if_neg c, if_neg c, if_pos (by omega), if_pos (by omega)]
    by_cases e : bt s (i : Int) = 44
    ·rw [if_pos e, if_pos e]
    ·rw [if_neg e, if_neg e]
  cases fl with
  | true =>
   have hps : (s.extract b i).size ≤ s.size := by rw [ByteArray.size_extract]; omega
   have hts := trim_size (s.extract b i)
   have s1 : ∀ R, Ev (fun k => if (trimT (s.extract b i)).toList = ([] : List UInt8) then spec_l3List.l0 k s acc ((i + 1 : Nat) : Int) q ((i + 1 : Nat) : Int) else spec_l3List.l0 k s (acc ++ [trimT (s.extract b i)]) ((i + 1 : Nat) : Int) q ((i + 1 : Nat) : Int)) R → Ev (fun k => spec_l3List.j1 k s acc (b : Int) q (i : Int) true) R := by
    intro R h
    refine Ev.step (f := fun k => (spec_l3Trim.f k (s.extract b i)).bind fun t => if t.toList = ([] : List UInt8) then spec_l3List.l0 k s acc ((i + 1 : Nat) : Int) q ((i + 1 : Nat) : Int) else spec_l3List.l0 k s (acc ++ [t]) ((i + 1 : Nat) : Int) q ((i + 1 : Nat) : Int)) (fun k => ?_) (Ev.bind (trim_spec _ (by omega)) h)
    simp only [spec_l3List.j1]
    rw [if_pos trivial, if_pos (by omega), if_pos (by omega), if_pos (by omega), w1, Int.toNat_natCast, Int.toNat_natCast]
    simp only [if_pos (show acc.length < 8796093022208 by omega)]
   have i1 : ∀ R, Ev (fun k => if (trimT (s.extract b i)).toList = ([] : List UInt8) then impl_listOf.l0 k s acc ((i + 1 : Nat) : Int) q ((i + 1 : Nat) : Int) else impl_listOf.l0 k s (acc ++ [trimT (s.extract b i)]) ((i + 1 : Nat) : Int) q ((i + 1 : Nat) : Int)) R → Ev (fun k => impl_listOf.j1 k s acc (b : Int) q (i : Int) true) R := by
    intro R h
    refine Ev.step (fun k => ?_) h
    simp only [impl_listOf.j1]
    rw [if_pos trivial, if_pos (by omega), if_pos (by omega), if_pos (by omega), w1, Int.toNat_natCast, Int.toNat_natCast, trim_impl _ (by omega), Option.bind_some, if_pos (show acc.length < 8796093022208 by omega)]
   by_cases c : (trimT (s.extract b i)).toList = ([] : List UInt8)
   ·obtain ⟨R, r1, r2, r3, r4⟩ := ih (i + 1) (i + 1) acc q (by omega) (by omega) (by omega) (by omega) hx
    exact ⟨R, sp R (s1 R (Ev.congr (fun k => by rw [if_pos c]) r1)), im R (i1 R (Ev.congr (fun k => by rw [if_pos c]) r2)), r3, r4⟩
   ·obtain ⟨R, r1, r2, r3, r4⟩ := ih (i + 1) (i + 1) (acc ++ [trimT (s.extract b i)]) q (by omega) (by omega) (by omega) (by simp; omega) (fun x h => by
     rcases List.mem_append.mp h with h | h
     ·exact hx x h
     ·rw [List.mem_singleton.mp h]; omega)
    exact ⟨R, sp R (s1 R (Ev.congr (fun k => by rw [if_neg c]) r1)), im R (i1 R (Ev.congr (fun k => by rw [if_neg c]) r2)), r3, r4⟩
  | false =>
   have hlt : i < s.size := by
    rcases Nat.lt_or_ge i s.size with h | h
    ·exact h
    ·rw [if_pos (by omega)] at hfl; cases hfl
   by_cases e34 : bt s (i : Int) = 34
   ·obtain ⟨R, r1, r2, r3, r4⟩ := ih (i + 1) b acc (!q) (by omega) (by omega) (by omega) (by omega) hx
    refine ⟨R, sp R (Ev.step (f := fun k => spec_l3List.j2 k s acc (b : Int) (!q) (i : Int)) (fun k => ?_) (Ev.step (f := fun k => spec_l3List.j3 k s acc (b : Int) (!q) (i : Int) false) (fun k => ?_) (Ev.step (fun k => ?_) r1))), im R (Ev.step (fun k => ?_) r2), r3, r4⟩
    ·simp only [spec_l3List.j1]
     rw [if_neg (by simp), if_pos (by omega), if_pos (by omega), if_pos e34]
    ·simp only [spec_l3List.j2]
     rw [if_pos (by omega), if_pos (by omega), if_neg (by omega)]
    ·simp only [spec_l3List.j3]
     rw [if_neg (by simp), w1]
    ·simp only [impl_listOf.j1]
     rw [if_neg (by simp), if_pos (by omega), if_pos (by omega), if_pos e34, w1]
   ·obtain ⟨g, hg⟩ : ∃ g : Bool, g = if bt s (i : Int) = 92 then q else false := ⟨_, rfl⟩
    have sp3 : ∀ R, Ev (fun k => spec_l3List.j3 k s acc (b : Int) q (i : Int) g) R → Ev (fun k => spec_l3List.j1 k s acc (b : Int) q (i : Int) false) R := by
     intro R h
     refine Ev.step (f := fun k => spec_l3List.j2 k s acc (b : Int) q (i : Int)) (fun k => ?_) (Ev.step (fun k => ?_) h)
     ·simp only [spec_l3List.j1]
      rw [if_neg (by simp), if_pos (by omega), if_pos (by omega), if_neg e34]
     ·simp only [spec_l3List.j2]
      rw [if_pos (by omega), if_pos (by omega), hg]
      by_cases c : bt s (i : Int) = 92
      ·rw [if_pos c, if_pos c]
      ·rw [if_neg c, if_neg c]
    have im2 : ∀ R, Ev (fun k => impl_listOf.j2 k s acc (b : Int) q (i : Int) g) R → Ev (fun k => impl_listOf.j1 k s acc (b : Int) q (i : Int) false) R := by
     intro R h
     refine Ev.step (fun k => ?_) h
     simp only [impl_listOf.j1]
     rw [if_neg (by simp), if_pos (by omega), if_pos (by omega), if_neg e34, hg]
     by_cases c : bt s (i : Int) = 92
     ·rw [if_pos c, if_pos c]
     ·rw [if_neg c, if_neg c]
    cases g with
    | false =>
     obtain ⟨R, r1, r2, r3, r4⟩ := ih (i + 1) b acc q (by omega) (by omega) (by omega) (by omega) hx
     refine ⟨R, sp R (sp3 R (Ev.step (fun k => ?_) r1)), im R (im2 R (Ev.step (fun k => ?_) r2)), r3, r4⟩
     ·simp only [spec_l3List.j3]
      rw [if_neg (by simp), w1]
     ·simp only [impl_listOf.j2]
      rw [if_neg (by simp), w1]
    | true =>
     by_cases c : ((i + 1 : Nat) : Int) = (s.size : Int)
     ·refine ⟨([], false), sp _ (sp3 _ (Ev.step (f := fun _ => some ([], false)) (fun k => ?_) (Ev.now _))), im _ (im2 _ (Ev.step (f := fun _ => some ([], false)) (fun k => ?_) (Ev.now _))), by simp, by simp⟩
      ·simp only [spec_l3List.j3]
       rw [if_pos trivial, w1, if_pos c]
      ·simp only [impl_listOf.j2]
       rw [if_pos trivial, w1, if_pos c]
     ·obtain ⟨R, r1, r2, r3, r4⟩ := ih (i + 2) b acc q (by omega) (by omega) (by omega) (by omega) hx
      refine ⟨R, sp R (sp3 R (Ev.step (fun k => ?_) r1)), im R (im2 R (Ev.step (fun k => ?_) r2)), r3, r4⟩
      ·simp only [spec_l3List.j3]
       rw [if_pos trivial, w1, if_neg c, w12]
      ·simp only [impl_listOf.j2]
       rw [if_pos trivial, w1, if_neg c, w12]
theorem List_both (s : ByteArray) (hz : s.size ≤ 1000000000) : ∃ R : List ByteArray × Bool, Ev (fun k => spec_l3List.f k s) R ∧ Ev (fun k => impl_listOf.f k s) R ∧ (∀ x ∈ R.1, x.size ≤ s.size) ∧ R.1.length ≤ s.size + 1 :=
 list_both s hz (s.size + 1) 0 0 [] false (by omega) (by omega) (by omega) (by simp) (by simp)

def isN (f : S75) (t : ByteArray) : Bool := (lowT f.f0).toList == (lowT t).toList
def valT (l : List S75) (t : ByteArray) : List ByteArray := (l.filter (fun f => isN f t)).map (·.f1)
theorem rd75 (l : List S75) (j : Nat) (h : j < l.length) : rd_T75 l (j : Int) = l[j] := getD_at h _
theorem vals_loop (l : List S75) (t : ByteArray) (hl : l.length ≤ 1000000) (ht : t.size ≤ 1125899906842624) (hs : ∀ f ∈ l, f.f0.size ≤ 1125899906842624) : ∀ (d j : Nat) (acc : List ByteArray), j + d = l.length → acc.length ≤ j →
  Ev (fun k => spec_l3Values.l0 k t acc l (l.length : Int) (j : Int)) (acc ++ valT (l.drop j) t) ∧ Ev (fun k => impl_valuesOf.l0 k t acc l (l.length : Int) (j : Int)) (acc ++ valT (l.drop j) t) := by
 intro d
 induction d with
 | zero =>
  intro j acc hj ha
  rw [List.drop_of_length_le (by omega)]
  rw [show acc ++ valT [] t = acc by simp [valT]]
  exact ⟨Ev.step (f := fun _ => some acc) (fun k => by simp only [spec_l3Values.l0]; rw [if_neg (by omega)]) (Ev.now _), Ev.step (f := fun _ => some acc) (fun k => by simp only [impl_valuesOf.l0]; rw [if_neg (by omega)]) (Ev.now _)⟩
 | succ d ih =>
  intro j acc hj ha
  have hlt : j < l.length := by omega
  have w1 : wrap64 ((j : Int) + 1) = ((j + 1 : Nat) : Int) := w2 (Nat.le_of_lt hlt) (by omega) 1 (by omega)
  have hf := hs _ (List.getElem_mem hlt)
  have hS : ∀ k, spec_l3Values.l0 (k + 1) t acc l (l.length : Int) (j : Int) = if isN l[j] t = true then spec_l3Values.l0 k t (acc ++ [l[j].f1]) l (l.length : Int) ((j + 1 : Nat) : Int) else spec_l3Values.l0 k t acc l (l.length : Int) ((j + 1 : Nat) : Int) := by
   intro k
   simp only [spec_l3Values.l0]
   rw [if_pos (by omega), if_pos (by omega), if_pos (by omega), rd75 l j hlt, is_spec _ _ _ hf ht, Option.bind_some, w1, if_pos (show acc.length < 8796093022208 by omega)]
   rfl
  have hI : ∀ k, impl_valuesOf.l0 (k + 1) t acc l (l.length : Int) (j : Int) = if isN l[j] t = true then impl_valuesOf.l0 k t (acc ++ [l[j].f1]) l (l.length : Int) ((j + 1 : Nat) : Int) else impl_valuesOf.l0 k t acc l (l.length : Int) ((j + 1 : Nat) : Int) := by
   intro k
   simp only [impl_valuesOf.l0]
   rw [if_pos (by omega), if_pos (by omega), if_pos (by omega), rd75 l j hlt, low_impl _ hf, low_impl _ ht, Option.bind_some, Option.bind_some, w1, if_pos (show acc.length < 8796093022208 by omega)]
   unfold isN
   by_cases c : (lowT l[j].f0).toList = (lowT t).toList
   ·rw [if_pos c, if_pos (beq_iff_eq.mpr c)]
   ·rw [if_neg c, if_neg (fun h => c (beq_iff_eq.mp h))]
  rw [List.drop_eq_getElem_cons hlt]
  cases c : isN l[j] t with
  | true =>
   have e : acc ++ valT (l[j] :: l.drop (j + 1)) t = (acc ++ [l[j].f1]) ++ valT (l.drop (j + 1)) t := by
    unfold valT
    rw [List.filter_cons, if_pos c, List.map_cons, List.append_assoc]; rfl
   rw [e]
   obtain ⟨a, b⟩ := ih (j + 1) (acc ++ [l[j].f1]) (by omega) (by simp; omega)
   exact ⟨Ev.step (fun k => by rw [hS, if_pos c]) a, Ev.step (fun k => by rw [hI, if_pos c]) b⟩
  | false =>
   have e : acc ++ valT (l[j] :: l.drop (j + 1)) t = acc ++ valT (l.drop (j + 1)) t := by
    unfold valT
    rw [List.filter_cons, if_neg (by rw [c]; exact Bool.false_ne_true)]
   rw [e]
   obtain ⟨a, b⟩ := ih (j + 1) acc (by omega) (by omega)
   exact ⟨Ev.step (fun k => by rw [hS, if_neg (by simp [c])]) a, Ev.step (fun k => by rw [hI, if_neg (by simp [c])]) b⟩
theorem vals_both (l : List S75) (t : ByteArray) (hl : l.length ≤ 1000000) (ht : t.size ≤ 1125899906842624) (hs : ∀ f ∈ l, f.f0.size ≤ 1125899906842624) : Ev (fun k => spec_l3Values.f k l t) (valT l t) ∧ Ev (fun k => impl_valuesOf.f k l t) (valT l t) := by
 have h := vals_loop l t hl ht hs l.length 0 [] (by omega) (by simp)
 rw [List.drop_zero, List.nil_append] at h
 exact h
theorem valT_mem (l : List S75) (t : ByteArray) (x : ByteArray) (h : x ∈ valT l t) : ∃ f ∈ l, x = f.f1 := by
 unfold valT at h
 obtain ⟨f, hf, rfl⟩ := List.mem_map.mp h
 exact ⟨f, (List.mem_filter.mp hf).1, rfl⟩
theorem valT_len (l : List S75) (t : ByteArray) : (valT l t).length ≤ l.length := by
 unfold valT
 rw [List.length_map]
 exact List.length_filter_le _ _
/-- A number in digits. -/
def digU (c : UInt8) : Bool := decide (48 ≤ c.toNat) && decide (c.toNat ≤ 57)
def nv (acc : Nat) : List UInt8 → Nat
 | [] => acc
 | c :: r => nv (acc * 10 + (c.toNat - 48)) r
theorem dig_u (c : UInt8) (h : digU c = true) : 48 ≤ c.toNat ∧ c.toNat ≤ 57 := by
 unfold digU at h
 rw [Bool.and_eq_true] at h
 exact ⟨of_decide_eq_true h.1, of_decide_eq_true h.2⟩
def p10 : Nat → Nat
 | 0 => 1
 | n + 1 => p10 n * 10
theorem p10_mono (a b : Nat) (h : a ≤ b) : p10 a ≤ p10 b := by
 induction h with
 | refl => exact Nat.le_refl _
 | step _ ih => exact Nat.le_trans ih (Nat.le_mul_of_pos_right _ (by omega))
theorem ten9 (a x : Nat) (h : a ≤ 9) (hx : x < p10 a) : x < 1000000000 :=
 Nat.lt_of_lt_of_le hx (Nat.le_trans (p10_mono a 9 h) (by decide))
theorem nv_step (c : UInt8) (acc B : Nat) (h : digU c = true) (hb : acc < B) : acc * 10 + (c.toNat - 48) < B * 10 := by
 have := dig_u c h
 omega
theorem nv_lt (l : List UInt8) : ∀ (acc a : Nat), l.all digU = true → acc < p10 a → nv acc l < p10 (a + l.length) := by
 induction l with
 | nil => intro acc a _ h; exact h
 | cons c r ih =>
  intro acc a hd h
  rw [List.all_cons, Bool.and_eq_true] at hd
  have h1 : acc * 10 + (c.toNat - 48) < p10 (a + 1) := by exact nv_step c acc _ hd.1 h
  have h2 := ih _ (a + 1) hd.2 h1
  rw [List.length_cons, show a + (r.length + 1) = a + 1 + r.length by omega]
  exact h2
theorem nv_lt9 (l : List UInt8) (hd : l.all digU = true) (h9 : l.length ≤ 9) : nv 0 l < 1000000000 :=
 ten9 (0 + l.length) _ (by omega) (nv_lt l 0 0 hd Nat.one_pos)
theorem parse_ok (l : List UInt8) : ∀ (acc a : Nat), l.all digU = true → acc < p10 a → a + l.length ≤ 9 → Lib.parseUint10 acc l = .ok (nv acc l) := by
 induction l with
 | nil => intro acc a _ _ _; rfl
 | cons c r ih =>
  intro acc a hd h hl
  rw [List.all_cons, Bool.and_eq_true] at hd
  rw [List.length_cons] at hl
  have hc := dig_u c hd.1
  have h1 : acc * 10 + (c.toNat - 48) < p10 (a + 1) := by exact nv_step c acc _ hd.1 h
  have h2 := ten9 (a + 1) _ (by omega) h1
  rw [Lib.parseUint10, if_pos hc, if_neg (by omega), if_neg (by omega)]
  exact ih _ (a + 1) hd.2 h1 (by omega)
theorem atoi_ok (s : ByteArray) (h1 : 1 ≤ s.size) (h9 : s.size ≤ 9) (hd : s.data.toList.all digU = true) : atoiF s = false ∧ atoiN s = (nv 0 s.data.toList : Int) := by
 have hp := parse_ok s.data.toList 0 0 hd (by exact Nat.one_pos) (by rw [data_length]; omega)
 have hb := nv_lt9 s.data.toList hd (by rw [data_length]; omega)
 have ha : Lib.atoiAll s.data.toList = .ok (nv 0 s.data.toList : Int) := by
  cases h : s.data.toList with
  | nil => have := data_length s; rw [h] at this; simp at this; omega
  | cons c r =>
   rw [h] at hp hb hd
   rw [List.all_cons, Bool.and_eq_true] at hd
   have hc := dig_u c hd.1
   have e1 : ¬ (c.toNat = 43 ∨ c.toNat = 45) := by omega
   have e2 : ¬ c.toNat = 45 := by omega
   have hm : Lib.parseMag (c :: r) = .ok (nv 0 (c :: r)) := by unfold Lib.parseMag; rw [if_neg (by simp)]; exact hp
   simp only [Lib.atoiAll]
   rw [if_neg e1, hm]
   simp only [e2, not_false_eq_true, true_and, false_and, if_false]
   rw [if_neg (by omega)]
 unfold atoiF atoiN
 rw [ha]
 exact ⟨rfl, rfl⟩

def digI (c : Int) : Bool := decide (48 ≤ c) && decide (c ≤ 57)
theorem digS_is (c : Int) : spec_l1Digit.f c = some (digI c) := by
 unfold spec_l1Digit.f digI
 by_cases h : c ≥ 48
 ·rw [if_pos h, decide_eq_true (show 48 ≤ c from h)]; rfl
 ·rw [if_neg h, decide_eq_false (show ¬ 48 ≤ c from h)]; rfl
theorem digI_is (c : Int) : impl_isDigit.f c = some (digI c) := by
 unfold impl_isDigit.f digI
 by_cases h : c ≥ 48
 ·rw [if_pos h, decide_eq_true (show 48 ≤ c from h)]; rfl
 ·rw [if_neg h, decide_eq_false (show ¬ 48 ≤ c from h)]; rfl
theorem bt_at (s : ByteArray) (i : Nat) (h : i < s.data.toList.length) : bt s (i : Int) = ((s.data.toList[i]).toNat : Int) :=
 (bt_get s i _ (by rw [data_length] at h; exact h)).mpr (List.getElem?_eq_getElem h)
theorem dig_u2 (c : UInt8) : digI (c.toNat : Int) = digU c := by
 unfold digI digU
 congr 1 <;> exact decide_eq_decide.mpr (by omega)
theorem dig_all (s : ByteArray) : (bytesOf s).all digI = s.data.toList.all digU := by
 have h : bytesOf s = s.data.toList.map (fun c => (c.toNat : Int)) := by unfold bytesOf; rfl
 rw [h, List.all_map]
 congr 1
 funext c
 exact dig_u2 c
theorem num_any (s : ByteArray) (hz : s.size ≤ 1125899906842624) : ∀ (d i : Nat) (acc : Int), i + d = s.size →
  ∃ r, Ev (fun k => spec_l2Number.l0 k s 0 (s.size : Int) acc (i : Int)) r ∧ ((s.data.toList.drop i).all digU = false → r = -1) := by
 intro d
 induction d with
 | zero =>
  intro i acc hi
  refine ⟨acc, Ev.step (f := fun _ => some acc) (fun k => ?_) (Ev.now _), fun h => ?_⟩
  ·simp only [spec_l2Number.l0]
   rw [show wrap64 (0 + (s.size : Int)) = (s.size : Int) by unfold wrap64; omega, if_neg (by omega)]
  ·rw [List.drop_of_length_le (by rw [data_length]; omega)] at h; cases h
 | succ d ih =>
  intro i acc hi
  have hlt : i < s.data.toList.length := by rw [data_length]; omega
  have w1 : wrap64 ((i : Int) + 1) = ((i + 1 : Nat) : Int) := w2 (by omega) hz 1 (by omega)
  have hst : ∀ k, spec_l2Number.l0 (k + 1) s 0 (s.size : Int) acc (i : Int) = if digU (s.data.toList[i]) = true then spec_l2Number.l0 k s 0 (s.size : Int) (wrap64 (wrap64 (10 * acc) + ((bt s (i : Int) - 48) % 256))) ((i + 1 : Nat) : Int) else some (-1) := by
   intro k
   simp only [spec_l2Number.l0]
   rw [show wrap64 (0 + (s.size : Int)) = (s.size : Int) by unfold wrap64; omega, if_pos (by omega), if_pos (by omega), if_pos (by omega), digS_is, Option.bind_some, w1, bt_at s i hlt, dig_u2]
  rw [List.drop_eq_getElem_cons hlt, List.all_cons]
  cases c : digU (s.data.toList[i]) with
  | true =>
   obtain ⟨r, h1, h2⟩ := ih (i + 1) (wrap64 (wrap64 (10 * acc) + ((bt s (i : Int) - 48) % 256))) (by omega)
   refine ⟨r, Ev.step (fun k => by rw [hst, if_pos c]) h1, fun h => h2 ?_⟩
   rw [Bool.true_and] at h; exact h
  | false =>
   exact ⟨-1, Ev.step (f := fun _ => some (-1)) (fun k => by rw [hst, if_neg (by rw [c]; exact Bool.false_ne_true)]) (Ev.now _), fun _ => rfl⟩
theorem num_w (acc c : Nat) (h2 : acc * 10 + (c - 48) < 1000000000) (hc : 48 ≤ c ∧ c ≤ 57) : wrap64 (wrap64 (10 * (acc : Int)) + (((c : Int) - 48) % 256)) = ((acc * 10 + (c - 48) : Nat) : Int) := by
 have h1 : wrap64 (10 * (acc : Int)) = 10 * (acc : Int) := by unfold wrap64; omega
 have h3 : ((c : Int) - 48) % 256 = (c : Int) - 48 := by omega
 rw [h1, h3, w64 (by omega) (by omega)]
 omega
theorem num_val (s : ByteArray) (hz : s.size ≤ 1125899906842624) : ∀ (d i acc a : Nat), i + d = s.size → (s.data.toList.drop i).all digU = true → acc < p10 a → a + d ≤ 9 →
  Ev (fun k => spec_l2Number.l0 k s 0 (s.size : Int) (acc : Int) (i : Int)) ((nv acc (s.data.toList.drop i) : Nat) : Int) := by
 intro d
 induction d with
 | zero =>
  intro i acc a hi _ _ _
  rw [List.drop_of_length_le (by rw [data_length]; omega)]
  refine Ev.step (f := fun _ => some (acc : Int)) (fun k => ?_) (Ev.now _)
  simp only [spec_l2Number.l0]
  rw [show wrap64 (0 + (s.size : Int)) = (s.size : Int) by unfold wrap64; omega, if_neg (by omega)]
 | succ d ih =>
  intro i acc a hi hd ha hl
  have hlt : i < s.data.toList.length := by rw [data_length]; omega
  rw [List.drop_eq_getElem_cons hlt] at hd ⊢
  rw [List.all_cons, Bool.and_eq_true] at hd
  have h1 : acc * 10 + ((s.data.toList[i]).toNat - 48) < p10 (a + 1) := by exact nv_step _ acc _ hd.1 ha
  have h2 := ten9 (a + 1) _ (by omega) h1
  have h3 := ih (i + 1) (acc * 10 + ((s.data.toList[i]).toNat - 48)) (a + 1) (by omega) hd.2 h1 (by omega)
  clear ih ha h1
  have hc := dig_u _ hd.1
  have hb := bt_at s i hlt
  refine Ev.step (fun k => ?_) h3
  clear h3
  simp only [spec_l2Number.l0]
  generalize (s.data.toList[i]).toNat = c at *
  rw [show wrap64 (0 + (s.size : Int)) = (s.size : Int) by unfold wrap64; omega, if_pos (by omega), if_pos (by omega), if_pos (by omega), digS_is, Option.bind_some, hb, show digI (c : Int) = true by unfold digI; rw [decide_eq_true (by omega), decide_eq_true (by omega)]; rfl, if_pos rfl, show wrap64 ((i : Int) + 1) = ((i + 1 : Nat) : Int) from w2 (by omega) hz 1 (by omega)]
  exact congrArg (fun z => spec_l2Number.l0 k s 0 (s.size : Int) z ((i + 1 : Nat) : Int)) (num_w acc c h2 hc)
/-- What a number's text tells. -/
def numT (s : ByteArray) : Option Nat := if 1 ≤ s.size ∧ s.size ≤ 9 ∧ s.data.toList.all digU = true then some (nv 0 s.data.toList) else none
theorem numT_lt (s : ByteArray) (n : Nat) (h : numT s = some n) : n < 1000000000 := by
 unfold numT at h
 by_cases c : 1 ≤ s.size ∧ s.size ≤ 9 ∧ s.data.toList.all digU = true
 ·rw [if_pos c] at h
  rw [← Option.some.inj h]
  exact nv_lt9 _ c.2.2 (by rw [data_length]; exact c.2.1)
 ·rw [if_neg c] at h; cases h
theorem num_spec (s : ByteArray) (hz : s.size ≤ 1125899906842624) : ∃ r, Ev (fun k => spec_l2Number.f k s 0 (s.size : Int)) r ∧
  (numT s = none → r < 0 ∨ (s.size : Int) > 9 ∨ s.size = 0) ∧ (∀ n, numT s = some n → r = (n : Int)) := by
 have hf : ∀ r, Ev (fun k => spec_l2Number.l0 k s 0 (s.size : Int) 0 0) r → Ev (fun k => spec_l2Number.f k s 0 (s.size : Int)) r := by
  intro r h
  refine Ev.congr (fun k => ?_) h
  unfold spec_l2Number.f
  rw [if_neg (by unfold wrap64; omega)]
 by_cases c : s.data.toList.all digU = true
 ·by_cases h9 : s.size ≤ 9
  ·have h := num_val s hz s.size 0 0 0 (by omega) (by rw [List.drop_zero]; exact c) (Nat.one_pos) (by omega)
   rw [List.drop_zero] at h
   refine ⟨_, hf _ h, fun hn => ?_, fun n hn => ?_⟩
   ·by_cases h1 : 1 ≤ s.size
    ·unfold numT at hn; rw [if_pos ⟨h1, h9, c⟩] at hn; cases hn
    ·exact Or.inr (Or.inr (by omega))
   ·unfold numT at hn
    by_cases h1 : 1 ≤ s.size
    ·rw [if_pos ⟨h1, h9, c⟩] at hn; rw [Option.some.inj hn]
    ·rw [if_neg (fun h => h1 h.1)] at hn; cases hn
  ·obtain ⟨r, h1, _⟩ := num_any s hz s.size 0 0 (by omega)
   refine ⟨r, hf _ h1, fun _ => Or.inr (Or.inl (by omega)), fun n hn => ?_⟩
   unfold numT at hn
   rw [if_neg (fun h => h9 h.2.1)] at hn; cases hn
 ·obtain ⟨r, h1, h2⟩ := num_any s hz s.size 0 0 (by omega)
  rw [List.drop_zero] at h2
  have hr := h2 (Bool.eq_false_iff.mpr c)
  refine ⟨r, hf _ h1, fun _ => Or.inl (by omega), fun n hn => ?_⟩
  unfold numT at hn
  rw [if_neg (fun h => c h.2.2)] at hn; cases hn
theorem empty_list (s : ByteArray) : s.toList = ([] : List UInt8) ↔ s.size = 0 := by
 rw [ByteArray.toList_eq, ← data_length]
 exact List.length_eq_zero_iff.symm
def outS : Option (Option Nat) → Int
 | none => -2
 | some none => -1
 | some (some n) => (n : Int)
def outI : Option (Option Nat) → Int × Bool × Bool
 | none => (0, false, false)
 | some none => (0, false, true)
 | some (some n) => ((n : Int), true, true)
def stS : Option Nat → Int
 | none => -1
 | some n => (n : Int)
def stI : Option Nat → Int
 | none => 0
 | some n => (n : Int)
def bnd (st : Option Nat) : Prop := ∀ n, st = some n → n < 1000000000
theorem stS_n : stS none = -1 := rfl
theorem stS_s (m : Nat) : stS (some m) = (m : Int) := rfl
theorem stI_s (m : Nat) : stI (some m) = (m : Int) := rfl
/-- One more number. -/
def meet (st : Option Nat) (n : Nat) : Bool := match st with
 | none => true
 | some m => m == n
theorem len_in (vals l : List ByteArray) (vn i : Nat) (hl : l.length ≤ 1000000000) (hx : ∀ x ∈ l, x.size ≤ 1000000000) : ∀ (d j : Nat) (st : Option Nat), j + d = l.length → bnd st →
  (∀ st', bnd st' → ∃ q, Ev (fun k => spec_l4Length.l0 k (stS st') vals (vn : Int) (wrap64 ((i : Int) + 1))) (outS q) ∧ Ev (fun k => impl_lengthOf.l0 k (stI st') st'.isSome vals (vn : Int) (wrap64 ((i : Int) + 1))) (outI q) ∧ (∀ m, q = some (some m) → m < 1000000000)) →
  ∃ q, Ev (fun k => spec_l4Length.l1 k (stS st) vals (vn : Int) (i : Int) l (l.length : Int) (j : Int)) (outS q) ∧ Ev (fun k => impl_lengthOf.l1 k (stI st) st.isSome vals (vn : Int) (i : Int) l (l.length : Int) (j : Int)) (outI q) ∧ (∀ m, q = some (some m) → m < 1000000000) := by
 intro d
 induction d with
 | zero =>
  intro j st hj hb K
  obtain ⟨q, h1, h2, h3⟩ := K st hb
  exact ⟨q, Ev.step (fun k => by simp only [spec_l4Length.l1]; rw [if_neg (by omega)]) h1, Ev.step (fun k => by simp only [impl_lengthOf.l1]; rw [if_neg (by omega)]) h2, h3⟩
 | succ d ih =>
  intro j st hj hb K
  have hlt : j < l.length := by omega
  have w1 : wrap64 ((j : Int) + 1) = ((j + 1 : Nat) : Int) := w2 (Nat.le_of_lt hlt) (by omega) 1 (by omega)
  have hrd : rdOf ByteArray.empty l (j : Int) = l[j] := getD_at hlt _
  have hz := hx _ (List.getElem_mem hlt)
  obtain ⟨x, hxe⟩ : ∃ x, x = l[j] := ⟨_, rfl⟩
  rw [← hxe] at hrd hz
  obtain ⟨r, hr, hn0, hn1⟩ := num_spec x (by omega)
  have hS : ∀ k, spec_l4Length.l1 (k + 1) (stS st) vals (vn : Int) (i : Int) l (l.length : Int) (j : Int) = (spec_l2Number.f k x 0 (x.size : Int)).bind fun t138 => (if t138 < 0 then (some (-2)) else (if (x.size : Int) > 9 then (some (-2)) else (if x.toList = ([] : List UInt8) then (some (-2)) else (if stS st ≥ 0 then (if stS st = t138 then (spec_l4Length.l1 k t138 vals (vn : Int) (i : Int) l (l.length : Int) ((j + 1 : Nat) : Int)) else (some (-2))) else (spec_l4Length.l1 k t138 vals (vn : Int) (i : Int) l (l.length : Int) ((j + 1 : Nat) : Int)))))) := by
   intro k
   simp only [spec_l4Length.l1]
   rw [if_pos (by omega), if_pos (by omega), if_pos (by omega), hrd, w1]
  have hI : ∀ k, impl_lengthOf.l1 (k + 1) (stI st) st.isSome vals (vn : Int) (i : Int) l (l.length : Int) (j : Int) = if atoiF x = false then (if (x.size : Int) > 9 then (some (0, false, false)) else (if x.data.toList.all digU = true then (if st.isSome = true then (if atoiN x = stI st then (impl_lengthOf.l1 k (atoiN x) true vals (vn : Int) (i : Int) l (l.length : Int) ((j + 1 : Nat) : Int)) else (some (0, false, false))) else (impl_lengthOf.l1 k (atoiN x) true vals (vn : Int) (i : Int) l (l.length : Int) ((j + 1 : Nat) : Int))) else (some (0, false, false)))) else (some (0, false, false)) := by
   intro k
   have ha : impl_areBytes_100.f x = some (x.data.toList.all digU) := by
    unfold impl_areBytes_100.f
    rw [if_pos (by omega), ← dig_all]
    exact allO_all' (bytesOf x) (fun c _ => digI_is c)
   simp only [impl_lengthOf.l1]
   rw [if_pos (by omega), if_pos (by omega), if_pos (by omega), hrd, w1, ha]
   unfold strconv_Atoi.f
   rw [if_pos (by omega), Option.bind_some, Option.bind_some]
   cases atoiF x <;> simp
  cases hn : numT x with
  | none =>
   refine ⟨none, Ev.step (fun k => hS k) (Ev.bind hr ?_), Ev.step (f := fun _ => some (0, false, false)) (fun k => ?_) (Ev.now _), fun m h => by cases h⟩
   ·refine Ev.congr (f := fun _ => some (-2)) (fun k => ?_) (Ev.now _)
    rcases hn0 hn with c | c | c
    ·rw [if_pos c]
    ·by_cases c1 : r < 0
     ·rw [if_pos c1]
     ·rw [if_neg c1, if_pos c]
    ·by_cases c1 : r < 0
     ·rw [if_pos c1]
     ·rw [if_neg c1, if_neg (by omega), if_pos ((empty_list x).mpr c)]
   ·rw [hI]
    by_cases c0 : atoiF x = false
    ·rw [if_pos c0]
     by_cases c1 : (x.size : Int) > 9
     ·rw [if_pos c1]
     ·rw [if_neg c1]
      by_cases c2 : x.data.toList.all digU = true
      ·exfalso
       by_cases c3 : 1 ≤ x.size
       ·unfold numT at hn; rw [if_pos ⟨c3, by omega, c2⟩] at hn; cases hn
       ·have he : x.data.toList = [] := List.eq_nil_of_length_eq_zero (by rw [data_length]; omega)
        unfold atoiF at c0
        rw [he] at c0
        exact absurd c0 (by decide)
      ·rw [if_neg c2]
    ·rw [if_neg c0]
  | some n =>
   have hlt9 := numT_lt x n hn
   have hr' := hn1 n hn
   have hx3 : 1 ≤ x.size ∧ x.size ≤ 9 ∧ x.data.toList.all digU = true := by
    unfold numT at hn
    by_cases c : 1 ≤ x.size ∧ x.size ≤ 9 ∧ x.data.toList.all digU = true
    ·exact c
    ·rw [if_neg c] at hn; cases hn
   obtain ⟨a1, a2⟩ := atoi_ok x hx3.1 hx3.2.1 hx3.2.2
   have a3 : atoiN x = (n : Int) := by
    unfold numT at hn
    rw [if_pos hx3] at hn
    rw [a2, Option.some.inj hn]
   subst hr'
   have hSS : ∀ k, (if (n : Int) < 0 then (some (-2)) else (if (x.size : Int) > 9 then (some (-2)) else (if x.toList = ([] : List UInt8) then (some (-2)) else (if stS st ≥ 0 then (if stS st = (n : Int) then (spec_l4Length.l1 k (n : Int) vals (vn : Int) (i : Int) l (l.length : Int) ((j + 1 : Nat) : Int)) else (some (-2))) else (spec_l4Length.l1 k (n : Int) vals (vn : Int) (i : Int) l (l.length : Int) ((j + 1 : Nat) : Int)))))) = if meet st n = true then spec_l4Length.l1 k (stS (some n)) vals (vn : Int) (i : Int) l (l.length : Int) ((j + 1 : Nat) : Int) else some (-2) := by
    intro k
    rw [if_neg (by omega), if_neg (by omega), if_neg (fun h => by have := (empty_list x).mp h; omega)]
    cases st with
    | none => rw [if_neg (by rw [stS_n]; omega), if_pos (by rfl)]; rfl
    | some m =>
     rw [if_pos (by rw [stS_s]; omega)]
     by_cases c : m = n
     ·subst c; rw [if_pos (by rfl), if_pos (by unfold meet; exact beq_self_eq_true _)]; rfl
     ·rw [if_neg (by rw [stS_s]; omega), if_neg (by unfold meet; simp [c])]
   have hII : ∀ k, impl_lengthOf.l1 (k + 1) (stI st) st.isSome vals (vn : Int) (i : Int) l (l.length : Int) (j : Int) = if meet st n = true then impl_lengthOf.l1 k (stI (some n)) (some n).isSome vals (vn : Int) (i : Int) l (l.length : Int) ((j + 1 : Nat) : Int) else some (0, false, false) := by
    intro k
    rw [hI, if_pos a1, if_neg (by omega), if_pos hx3.2.2, a3]
    cases st with
    | none => rw [if_neg (by simp), if_pos (by rfl)]; rfl
    | some m =>
     rw [if_pos (by rfl)]
     by_cases c : m = n
     ·subst c; rw [if_pos (by rfl), if_pos (by unfold meet; exact beq_self_eq_true _)]; rfl
     ·rw [if_neg (by rw [stI_s]; omega), if_neg (by unfold meet; simp [c])]
   cases hm : meet st n with
   | true =>
    obtain ⟨q, h1, h2, h3⟩ := ih (j + 1) (some n) (by omega) (fun m h => by rw [← Option.some.inj h]; exact hlt9) K
    refine ⟨q, Ev.step (fun k => hS k) (Ev.bind hr (Ev.congr (fun k => by rw [hSS, if_pos hm]) h1)), Ev.step (fun k => by rw [hII, if_pos hm]) h2, h3⟩
   | false =>
    refine ⟨none, Ev.step (fun k => hS k) (Ev.bind hr (Ev.congr (f := fun _ => some (-2)) (fun k => by rw [hSS, if_neg (by rw [hm]; exact Bool.false_ne_true)]) (Ev.now _))), Ev.step (f := fun _ => some (0, false, false)) (fun k => by rw [hII, if_neg (by rw [hm]; exact Bool.false_ne_true)]) (Ev.now _), fun m h => by cases h⟩

theorem len_out (vals : List ByteArray) (hl : vals.length ≤ 1000000) (hx : ∀ x ∈ vals, x.size ≤ 100000000) : ∀ (d i : Nat) (st : Option Nat), i + d = vals.length → bnd st →
  ∃ q, Ev (fun k => spec_l4Length.l0 k (stS st) vals (vals.length : Int) (i : Int)) (outS q) ∧ Ev (fun k => impl_lengthOf.l0 k (stI st) st.isSome vals (vals.length : Int) (i : Int)) (outI q) ∧ (∀ m, q = some (some m) → m < 1000000000) := by
 intro d
 induction d with
 | zero =>
  intro i st hi hb
  refine ⟨some st, ?_, ?_, fun m h => hb m (Option.some.inj h)⟩
  ·refine Ev.step (f := fun _ => some (stS st)) (fun k => ?_) (Ev.congr (fun k => ?_) (Ev.now _))
   ·simp only [spec_l4Length.l0]
    rw [if_neg (by omega)]
   ·cases st <;> rfl
  ·refine Ev.step (f := fun _ => some (stI st, st.isSome, true)) (fun k => ?_) (Ev.congr (fun k => ?_) (Ev.now _))
   ·simp only [impl_lengthOf.l0]
    rw [if_neg (by omega)]
   ·cases st <;> rfl
 | succ d ih =>
  intro i st hi hb
  have hlt : i < vals.length := by omega
  have w1 : wrap64 ((i : Int) + 1) = ((i + 1 : Nat) : Int) := w2 (Nat.le_of_lt hlt) (by omega) 1 (by omega)
  have hrd : rdOf ByteArray.empty vals (i : Int) = vals[i] := getD_at hlt _
  obtain ⟨R, r1, r2, r3, r4⟩ := List_both vals[i] (by have := hx _ (List.getElem_mem hlt); omega)
  have hz := hx _ (List.getElem_mem hlt)
  obtain ⟨fl, hfl⟩ : ∃ fl : Bool, fl = if R.2 = true then ((R.1.length : Int) == 0) else true := ⟨_, rfl⟩
  have sp : ∀ q, Ev (fun k => spec_l4Length.j1 k (stS st) R.1 vals (vals.length : Int) (i : Int) fl) q → Ev (fun k => spec_l4Length.l0 k (stS st) vals (vals.length : Int) (i : Int)) q := by
   intro q h
   refine Ev.step (f := fun k => (spec_l3List.f k vals[i]).bind fun bt133 => (if bt133.2 = true then (spec_l4Length.j1 k (stS st) bt133.1 vals (vals.length : Int) (i : Int) ((bt133.1.length : Int) == 0)) else (spec_l4Length.j1 k (stS st) bt133.1 vals (vals.length : Int) (i : Int) true))) (fun k => ?_) (Ev.bind r1 ?_)
   ·simp only [spec_l4Length.l0]
    rw [if_pos (by omega), if_pos (by omega), if_pos (by omega), hrd]
   ·refine Ev.congr (fun k => ?_) h
    rw [hfl]
    by_cases c : R.2 = true
    ·rw [if_pos c, if_pos c]
    ·rw [if_neg c, if_neg c]
  have im : ∀ q, Ev (fun k => impl_lengthOf.j1 k (stI st) st.isSome R.1 vals (vals.length : Int) (i : Int) fl) q → Ev (fun k => impl_lengthOf.l0 k (stI st) st.isSome vals (vals.length : Int) (i : Int)) q := by
   intro q h
   refine Ev.step (f := fun k => (impl_listOf.f k vals[i]).bind fun bt258 => (if bt258.2 = true then (impl_lengthOf.j1 k (stI st) st.isSome bt258.1 vals (vals.length : Int) (i : Int) ((bt258.1.length : Int) == 0)) else (impl_lengthOf.j1 k (stI st) st.isSome bt258.1 vals (vals.length : Int) (i : Int) true))) (fun k => ?_) (Ev.bind r2 ?_)
   ·simp only [impl_lengthOf.l0]
    rw [if_pos (by omega), if_pos (by omega), if_pos (by omega), hrd]
   ·refine Ev.congr (fun k => ?_) h
    rw [hfl]
    by_cases c : R.2 = true
    ·rw [if_pos c, if_pos c]
    ·rw [if_neg c, if_neg c]
  cases fl with
  | true =>
   exact ⟨none, sp _ (Ev.step (f := fun _ => some (-2)) (fun k => by simp only [spec_l4Length.j1]; rw [if_pos trivial]) (Ev.now _)), im _ (Ev.step (f := fun _ => some (0, false, false)) (fun k => by simp only [impl_lengthOf.j1]; rw [if_pos trivial]) (Ev.now _)), fun m h => by cases h⟩
  | false =>
   obtain ⟨q, q1, q2, q3⟩ := len_in vals R.1 vals.length i (by omega) (fun x h => by have := r3 x h; omega) R.1.length 0 st (by omega) hb (fun st' hb' => by
    rw [w1]; exact ih (i + 1) st' (by omega) hb')
   exact ⟨q, sp _ (Ev.step (fun k => by simp only [spec_l4Length.j1]; rw [if_neg (by simp)]; rfl) q1), im _ (Ev.step (fun k => by simp only [impl_lengthOf.j1]; rw [if_neg (by simp)]; rfl) q2), q3⟩
theorem len_both (l : List S75) (hl : l.length ≤ 1000000) (hs : ∀ f ∈ l, f.f0.size ≤ 100000000 ∧ f.f1.size ≤ 100000000) :
  ∃ q, Ev (fun k => spec_l4Length.f k l) (outS q) ∧ Ev (fun k => impl_lengthOf.f k l) (outI q) ∧ (∀ m, q = some (some m) → m < 1000000000) := by
 obtain ⟨v1, v2⟩ := vals_both l ⟨#[99, 111, 110, 116, 101, 110, 116, 45, 108, 101, 110, 103, 116, 104]⟩ (by omega) (by decide) (fun f hf => by have := (hs f hf).1; omega)
 obtain ⟨q, h1, h2, h3⟩ := len_out (valT l ⟨#[99, 111, 110, 116, 101, 110, 116, 45, 108, 101, 110, 103, 116, 104]⟩) (by have := valT_len l ⟨#[99, 111, 110, 116, 101, 110, 116, 45, 108, 101, 110, 103, 116, 104]⟩; omega) (fun x hx => by obtain ⟨f, hf, rfl⟩ := valT_mem _ _ _ hx; exact (hs f hf).2) (valT l ⟨#[99, 111, 110, 116, 101, 110, 116, 45, 108, 101, 110, 103, 116, 104]⟩).length 0 none (by omega) (fun n h => by cases h)
 exact ⟨q, Ev.bind v1 h1, Ev.bind v2 h2, h3⟩
/-- A header's fields out of its lines. -/
def teB : ByteArray := ⟨#[116, 114, 97, 110, 115, 102, 101, 114, 45, 101, 110, 99, 111, 100, 105, 110, 103]⟩
theorem low_te : lowT teB = teB := by decide +kernel
def okF (f : S75) : Bool := goodT f.f0 f.f1 && !isN f teB
/-- What is read of the lines: the fields, or none. -/
def fieldT (acc : List S75) : List ByteArray → Option (List S75)
 | [] => some acc
 | x :: r =>
  let c := cutT x ⟨#[58]⟩
  let v := trimT c.2.1
  if c.2.2 = true ∧ goodT c.1 v = true ∧ acc.length ≠ 40 ∧ isN ⟨c.1, v⟩ teB = false then fieldT (acc ++ [⟨c.1, v⟩]) r else none
theorem fieldT_ok : ∀ (l : List ByteArray) (acc r : List S75) (B : Nat), (∀ x ∈ l, x.size ≤ B) → acc.length ≤ 40 → (∀ f ∈ acc, okF f = true ∧ f.f0.size ≤ B ∧ f.f1.size ≤ B) → fieldT acc l = some r → r.length ≤ 40 ∧ ∀ f ∈ r, okF f = true ∧ f.f0.size ≤ B ∧ f.f1.size ≤ B := by
 intro l
 induction l with
 | nil =>
  intro acc r B hB ha hok h
  unfold fieldT at h
  rw [← Option.some.inj h]
  exact ⟨ha, hok⟩
 | cons x l ih =>
  intro acc r B hB ha hok h
  unfold fieldT at h
  by_cases c : (cutT x ⟨#[58]⟩).2.2 = true ∧ goodT (cutT x ⟨#[58]⟩).1 (trimT (cutT x ⟨#[58]⟩).2.1) = true ∧ acc.length ≠ 40 ∧ isN ⟨(cutT x ⟨#[58]⟩).1, trimT (cutT x ⟨#[58]⟩).2.1⟩ teB = false
  ·simp only [if_pos c] at h
   refine ih _ r B (fun y hy => hB y (List.mem_cons_of_mem _ hy)) (by rw [List.length_append, List.length_singleton]; omega) (fun f hf => ?_) h
   rcases List.mem_append.mp hf with h1 | h1
   ·exact hok f h1
   ·rw [List.mem_singleton.mp h1]
    have hb := hB x (List.mem_cons_self ..)
    have hc := cut_size x 58
    have ht := trim_size (cutT x ⟨#[58]⟩).2.1
    refine ⟨?_, by simp only; omega, by simp only; omega⟩
    unfold okF
    rw [c.2.1, c.2.2.2]; rfl
  ·simp only [if_neg c] at h
   cases h
theorem fieldsI_loop (l : List ByteArray) (hl : l.length ≤ 1000000000) (hx : ∀ x ∈ l, x.size ≤ 1000000000) : ∀ (d j : Nat) (acc : List S75), j + d = l.length → acc.length ≤ 40 →
  Ev (fun k => impl_fieldsOf.l0 k acc l (l.length : Int) (j : Int)) (match fieldT acc (l.drop j) with | some r => (r, true) | none => ([], false)) := by
 intro d
 induction d with
 | zero =>
  intro j acc hj ha
  rw [List.drop_of_length_le (by omega)]
  refine Ev.step (f := fun _ => some (acc, true)) (fun k => ?_) (Ev.now _)
  simp only [impl_fieldsOf.l0]
  rw [if_neg (by omega)]
 | succ d ih =>
  intro j acc hj ha
  have hlt : j < l.length := by omega
  have w1 : wrap64 ((j : Int) + 1) = ((j + 1 : Nat) : Int) := w2 (Nat.le_of_lt hlt) (by omega) 1 (by omega)
  have hrd : rdOf ByteArray.empty l (j : Int) = l[j] := getD_at hlt _
  have hz := hx _ (List.getElem_mem hlt)
  obtain ⟨x, hxe⟩ : ∃ x, x = l[j] := ⟨_, rfl⟩
  rw [List.drop_eq_getElem_cons hlt]
  rw [← hxe] at hrd hz ⊢
  have hc := cut_size x 58
  have ht := trim_size (cutT x ⟨#[58]⟩).2.1
  have hf : impl_fieldOf.f x = some ((cutT x ⟨#[58]⟩).1, trimT (cutT x ⟨#[58]⟩).2.1, (cutT x ⟨#[58]⟩).2.2 && goodT (cutT x ⟨#[58]⟩).1 (trimT (cutT x ⟨#[58]⟩).2.1)) := by
   unfold impl_fieldOf.f strings_Cut.f
   rw [if_pos (by omega), Option.bind_some, trim_impl _ (by omega), Option.bind_some]
   cases (cutT x ⟨#[58]⟩).2.2 with
   | true => rw [if_pos rfl, good_impl _ _ (by omega) (by omega), Option.bind_some, Bool.true_and]
   | false => rw [if_neg (by simp), Bool.false_and]
  have hI : ∀ k, impl_fieldsOf.l0 (k + 1) acc l (l.length : Int) (j : Int) = if (cutT x ⟨#[58]⟩).2.2 = true ∧ goodT (cutT x ⟨#[58]⟩).1 (trimT (cutT x ⟨#[58]⟩).2.1) = true ∧ acc.length ≠ 40 ∧ isN ⟨(cutT x ⟨#[58]⟩).1, trimT (cutT x ⟨#[58]⟩).2.1⟩ teB = false then impl_fieldsOf.l0 k (acc ++ [⟨(cutT x ⟨#[58]⟩).1, trimT (cutT x ⟨#[58]⟩).2.1⟩]) l (l.length : Int) ((j + 1 : Nat) : Int) else some ([], false) := by
   intro k
   simp only [impl_fieldsOf.l0]
   rw [if_pos (by omega), if_pos (by omega), if_pos (by omega), hrd, hf, Option.bind_some, w1]
   simp only
   generalize (cutT x ⟨#[58]⟩).2.2 = b1
   generalize hg : goodT (cutT x ⟨#[58]⟩).1 (trimT (cutT x ⟨#[58]⟩).2.1) = b2
   rw [low_impl _ (by omega), Option.bind_some]
   have hn : (lowT (cutT x ⟨#[58]⟩).1).toList = ([116, 114, 97, 110, 115, 102, 101, 114, 45, 101, 110, 99, 111, 100, 105, 110, 103] : List UInt8) ↔ isN ⟨(cutT x ⟨#[58]⟩).1, trimT (cutT x ⟨#[58]⟩).2.1⟩ teB = true := by
    unfold isN
    rw [low_te, beq_iff_eq, show teB.toList = ([116, 114, 97, 110, 115, 102, 101, 114, 45, 101, 110, 99, 111, 100, 105, 110, 103] : List UInt8) by rw [ByteArray.toList_eq]; rfl]
   cases b1 with
   | false => rw [if_neg (by simp), if_neg (by simp)]
   | true =>
    cases b2 with
    | false => rw [if_neg (by simp), if_neg (by simp)]
    | true =>
     rw [if_pos (by simp)]
     by_cases c4 : acc.length = 40
     ·rw [if_pos (by omega), if_neg (by simp [c4])]
     ·rw [if_neg (by omega)]
      cases c5 : isN ⟨(cutT x ⟨#[58]⟩).1, trimT (cutT x ⟨#[58]⟩).2.1⟩ teB with
      | true => rw [if_pos (hn.mpr c5), if_neg (by simp)]
      | false => rw [if_neg (fun h => by have := hn.mp h; rw [c5] at this; cases this), if_pos (by omega), if_pos (by simp [c4])]
  unfold fieldT
  by_cases c : (cutT x ⟨#[58]⟩).2.2 = true ∧ goodT (cutT x ⟨#[58]⟩).1 (trimT (cutT x ⟨#[58]⟩).2.1) = true ∧ acc.length ≠ 40 ∧ isN ⟨(cutT x ⟨#[58]⟩).1, trimT (cutT x ⟨#[58]⟩).2.1⟩ teB = false
  ·simp only [if_pos c]
   exact Ev.step (fun k => by rw [hI, if_pos c]) (ih (j + 1) _ (by omega) (by rw [List.length_append, List.length_singleton]; omega))
  ·simp only [if_neg c]
   exact Ev.step (f := fun _ => some ([], false)) (fun k => by rw [hI, if_neg c]) (Ev.now _)

def lenN : Option (Option Nat) → Option Nat
 | none => none
 | some none => some 0
 | some (some n) => if n ≤ 300 then some n else none
def restT (x : ByteArray) (a : Nat) (r : List S75) (q : Option (Option Nat)) : List S75 × ByteArray × Int × Int :=
 match lenN q with
 | none => ([], ⟨#[]⟩, 0, 4)
 | some n => if x.size < a + n then ([], ⟨#[]⟩, 0, 1) else (r, x.extract a (a + n), ((a + n : Nat) : Int), 0)
theorem rest_end (x : ByteArray) (a : Nat) (r : List S75) (q : Option (Option Nat)) (hz : x.size ≤ 1000000000) (ha : a ≤ x.size) (hb : ∀ m, q = some (some m) → m < 1000000000) :
  Ev (fun k => if outS q = -1 then spec_l4Rest.j1 k x (a : Int) r 0 else spec_l4Rest.j1 k x (a : Int) r (outS q)) (restT x a r q) := by
 have go : ∀ n : Nat, n < 1000000000 → Ev (fun k => spec_l4Rest.j1 k x (a : Int) r (n : Int)) (if n ≤ 300 then (if x.size < a + n then ([], ⟨#[]⟩, 0, 1) else (r, x.extract a (a + n), ((a + n : Nat) : Int), 0)) else ([], ⟨#[]⟩, 0, 4)) := by
  intro n hn
  have w1 : wrap64 ((x.size : Int) - (a : Int)) = (x.size : Int) - (a : Int) := w64 (by omega) (by omega)
  have w3 : wrap64 ((a : Int) + (n : Int)) = ((a + n : Nat) : Int) := by unfold wrap64; omega
  by_cases c : n ≤ 300
  ·rw [if_pos c]
   by_cases d : x.size < a + n
   ·rw [if_pos d]
    refine Ev.step (f := fun _ => some ([], ⟨#[]⟩, 0, 1)) (fun k => ?_) (Ev.now _)
    simp only [spec_l4Rest.j1]
    rw [l1In_is, Option.bind_some, if_pos (by rw [decide_eq_true (by omega), decide_eq_true (by omega)]; rfl), w1, if_pos (by omega)]
   ·rw [if_neg d]
    refine Ev.step (f := fun _ => some (r, x.extract a (a + n), ((a + n : Nat) : Int), 0)) (fun k => ?_) (Ev.now _)
    simp only [spec_l4Rest.j1]
    rw [l1In_is, Option.bind_some, if_pos (by rw [decide_eq_true (by omega), decide_eq_true (by omega)]; rfl), w1, if_neg (by omega), w3, if_pos (by omega), if_pos (by omega), if_pos (by omega), Int.toNat_natCast, Int.toNat_natCast]
  ·rw [if_neg c]
   refine Ev.step (f := fun _ => some ([], ⟨#[]⟩, 0, 4)) (fun k => ?_) (Ev.now _)
   simp only [spec_l4Rest.j1]
   rw [l1In_is, Option.bind_some, if_neg (by rw [decide_eq_false (show ¬ (n : Int) ≤ 300 by omega), Bool.and_false]; exact Bool.false_ne_true)]
 match q, hb with
 | none, _ =>
  refine Ev.congr (f := fun k => spec_l4Rest.j1 k x (a : Int) r (-2)) (fun k => by rw [if_neg (show ¬ outS none = -1 by decide)]; rfl) ?_
  refine Ev.step (f := fun _ => some ([], ⟨#[]⟩, 0, 4)) (fun k => ?_) (Ev.now _)
  simp only [spec_l4Rest.j1]
  rw [l1In_is, Option.bind_some, if_neg (by decide)]
 | some none, _ =>
  refine Ev.congr (f := fun k => spec_l4Rest.j1 k x (a : Int) r ((0 : Nat) : Int)) (fun k => by rw [if_pos (show outS (some none) = -1 by rfl)]; rfl) ?_
  have h := go 0 (by omega)
  rw [if_pos (by omega)] at h
  exact h
 | some (some n), hb =>
  refine Ev.congr (f := fun k => spec_l4Rest.j1 k x (a : Int) r (n : Int)) (fun k => by rw [if_neg (show ¬ outS (some (some n)) = -1 by show ¬ (n : Int) = -1; omega)]; rfl) ?_
  have h := go n (hb n rfl)
  unfold restT lenN
  by_cases c : n ≤ 300
  ·rw [if_pos c] at h
   simp only [if_pos c]
   exact h
  ·rw [if_neg c] at h
   simp only [if_neg c]
   exact h
theorem rest_loop (x : ByteArray) (a : Nat) (l : List ByteArray) (hl : l.length ≤ 1000000000) (hx : ∀ x ∈ l, x.size ≤ 100000000) (V : Option (List S75)) (R : List S75 × ByteArray × Int × Int)
  (K : ∀ r, V = some r → Ev (fun k => (spec_l4Length.f k r).bind fun t => if t = -1 then spec_l4Rest.j1 k x (a : Int) r 0 else spec_l4Rest.j1 k x (a : Int) r t) R) (K0 : V = none → R = ([], ⟨#[]⟩, 0, 3)) :
  ∀ (d j : Nat) (acc : List S75), j + d = l.length → acc.length ≤ 40 → fieldT acc (l.drop j) = V →
  Ev (fun k => spec_l4Rest.l0 k x (a : Int) acc l (l.length : Int) (j : Int)) R := by
 intro d
 induction d with
 | zero =>
  intro j acc hj ha he
  rw [List.drop_of_length_le (by omega)] at he
  refine Ev.step (fun k => ?_) (K acc he.symm)
  simp only [spec_l4Rest.l0]
  rw [if_neg (by omega)]
 | succ d ih =>
  intro j acc hj ha he
  have hlt : j < l.length := by omega
  have w1 : wrap64 ((j : Int) + 1) = ((j + 1 : Nat) : Int) := w2 (Nat.le_of_lt hlt) (by omega) 1 (by omega)
  have hrd : rdOf ByteArray.empty l (j : Int) = l[j] := getD_at hlt _
  have hz := hx _ (List.getElem_mem hlt)
  obtain ⟨y, hye⟩ : ∃ y, y = l[j] := ⟨_, rfl⟩
  rw [List.drop_eq_getElem_cons hlt] at he
  rw [← hye] at hrd hz he
  have hc := cut_size y 58
  have ht := trim_size (cutT y ⟨#[58]⟩).2.1
  have hsp := cut_spec y 58 58 rfl (by omega)
  have hst : ∀ k, spec_l4Rest.l0 (k + 1) x (a : Int) acc l (l.length : Int) (j : Int) = (spec_l1Cut.f k y 58).bind fun bt140 => ((spec_l3Trim.f k bt140.2.1).bind fun t143 => (if bt140.2.2 = true then ((spec_GoodField.f k bt140.1 t143).bind fun t145 => (if t145 = true then (if (acc.length : Int) = 40 then (some (([] : List (S75)), (⟨#[]⟩ : ByteArray), 0, 3)) else ((spec_l3Is.f bt140.1 t143 (⟨#[116, 114, 97, 110, 115, 102, 101, 114, 45, 101, 110, 99, 111, 100, 105, 110, 103]⟩ : ByteArray)).bind fun t146 => (if t146 = true then (some (([] : List (S75)), (⟨#[]⟩ : ByteArray), 0, 3)) else (if acc.length < 4398046511104 then (spec_l4Rest.l0 k x (a : Int) (acc ++ [(⟨bt140.1, t143⟩ : S75)]) l (l.length : Int) ((j + 1 : Nat) : Int)) else (none))))) else (some (([] : List (S75)), (⟨#[]⟩ : ByteArray), 0, 3)))) else (some (([] : List (S75)), (⟨#[]⟩ : ByteArray), 0, 3)))) := by
   intro k
   simp only [spec_l4Rest.l0]
   rw [if_pos (by omega), if_pos (by omega), if_pos (by omega), hrd, w1]
  refine Ev.step hst (Ev.bind hsp (Ev.bind (trim_spec _ (by omega)) ?_))
  have hbad : V = none → Ev (fun _ => some (([] : List (S75)), (⟨#[]⟩ : ByteArray), (0 : Int), (3 : Int))) R := fun h => by rw [K0 h]; exact Ev.now _
  unfold fieldT at he
  by_cases b1 : (cutT y ⟨#[58]⟩).2.2 = true
  rotate_left
  ·rw [show (fun k => if (cutT y ⟨#[58]⟩).2.2 = true then _ else some (([] : List (S75)), (⟨#[]⟩ : ByteArray), (0 : Int), (3 : Int))) = fun k => some (([] : List (S75)), (⟨#[]⟩ : ByteArray), (0 : Int), (3 : Int)) from funext fun k => if_neg b1]
   simp only [if_neg (show ¬ ((cutT y ⟨#[58]⟩).2.2 = true ∧ goodT (cutT y ⟨#[58]⟩).1 (trimT (cutT y ⟨#[58]⟩).2.1) = true ∧ acc.length ≠ 40 ∧ isN ⟨(cutT y ⟨#[58]⟩).1, trimT (cutT y ⟨#[58]⟩).2.1⟩ teB = false) from fun h => b1 h.1)] at he
   exact hbad he.symm
  rw [show (fun k => if (cutT y ⟨#[58]⟩).2.2 = true then _ else some (([] : List (S75)), (⟨#[]⟩ : ByteArray), (0 : Int), (3 : Int))) = _ from funext fun k => if_pos b1]
  refine Ev.bind (good_spec _ _ (by omega) (by omega)) ?_
  cases b2 : goodT (cutT y ⟨#[58]⟩).1 (trimT (cutT y ⟨#[58]⟩).2.1) with
  | false =>
   simp only [if_neg (show ¬ ((cutT y ⟨#[58]⟩).2.2 = true ∧ goodT (cutT y ⟨#[58]⟩).1 (trimT (cutT y ⟨#[58]⟩).2.1) = true ∧ acc.length ≠ 40 ∧ isN ⟨(cutT y ⟨#[58]⟩).1, trimT (cutT y ⟨#[58]⟩).2.1⟩ teB = false) from fun h => by have := h.2.1; rw [b2] at this; cases this)] at he
   exact Ev.congr (fun k => by rw [if_neg (by simp)]) (hbad he.symm)
  | true =>
   by_cases b3 : acc.length = 40
   ·simp only [if_neg (show ¬ ((cutT y ⟨#[58]⟩).2.2 = true ∧ goodT (cutT y ⟨#[58]⟩).1 (trimT (cutT y ⟨#[58]⟩).2.1) = true ∧ acc.length ≠ 40 ∧ isN ⟨(cutT y ⟨#[58]⟩).1, trimT (cutT y ⟨#[58]⟩).2.1⟩ teB = false) from fun h => h.2.2.1 b3)] at he
    exact Ev.congr (fun k => by rw [if_pos rfl, if_pos (by omega)]) (hbad he.symm)
   ·cases b4 : isN ⟨(cutT y ⟨#[58]⟩).1, trimT (cutT y ⟨#[58]⟩).2.1⟩ teB with
    | true =>
     simp only [if_neg (show ¬ ((cutT y ⟨#[58]⟩).2.2 = true ∧ goodT (cutT y ⟨#[58]⟩).1 (trimT (cutT y ⟨#[58]⟩).2.1) = true ∧ acc.length ≠ 40 ∧ isN ⟨(cutT y ⟨#[58]⟩).1, trimT (cutT y ⟨#[58]⟩).2.1⟩ teB = false) from fun h => by have := h.2.2.2; rw [b4] at this; cases this)] at he
     refine Ev.congr (fun k => ?_) (hbad he.symm)
     rw [if_pos rfl, if_neg (by omega), is_spec _ _ _ (by omega) (by decide), Option.bind_some, if_pos (by exact b4)]
    | false =>
     simp only [if_pos (show (cutT y ⟨#[58]⟩).2.2 = true ∧ goodT (cutT y ⟨#[58]⟩).1 (trimT (cutT y ⟨#[58]⟩).2.1) = true ∧ acc.length ≠ 40 ∧ isN ⟨(cutT y ⟨#[58]⟩).1, trimT (cutT y ⟨#[58]⟩).2.1⟩ teB = false from ⟨b1, b2, b3, b4⟩)] at he
     refine Ev.congr (fun k => ?_) (ih (j + 1) (acc ++ [⟨(cutT y ⟨#[58]⟩).1, trimT (cutT y ⟨#[58]⟩).2.1⟩]) (by omega) (by rw [List.length_append, List.length_singleton]; omega) he)
     rw [if_pos rfl, if_neg (by omega), is_spec _ _ _ (by omega) (by decide), Option.bind_some, if_neg (fun h => by have h2 : isN ⟨(cutT y ⟨#[58]⟩).1, trimT (cutT y ⟨#[58]⟩).2.1⟩ teB = true := h; rw [b4] at h2; cases h2), if_pos (by omega)]
theorem rest_spec (x : ByteArray) (a : Nat) (l : List ByteArray) (hz : x.size ≤ 100000000) (ha : a ≤ x.size) (hl : l.length ≤ 1000000000) (hx : ∀ y ∈ l, y.size ≤ 100000000) :
  (∀ r, fieldT [] l = some r → ∃ q, Ev (fun k => spec_l4Length.f k r) (outS q) ∧ Ev (fun k => impl_lengthOf.f k r) (outI q) ∧ (∀ m, q = some (some m) → m < 1000000000) ∧ Ev (fun k => spec_l4Rest.f k x l (a : Int)) (restT x a r q)) ∧
  (fieldT [] l = none → Ev (fun k => spec_l4Rest.f k x l (a : Int)) ([], ⟨#[]⟩, 0, 3)) := by
 constructor
 ·intro r hr
  obtain ⟨h40, hok⟩ := fieldT_ok l [] r 100000000 hx (by simp) (by simp) hr
  obtain ⟨q, h1, h2, h3⟩ := len_both r (by omega) (fun f hf => (hok f hf).2)
  refine ⟨q, h1, h2, h3, ?_⟩
  exact rest_loop x a l hl hx (fieldT [] l) _ (fun r' hr' => by
   have e : r' = r := Option.some.inj (hr'.symm.trans hr)
   subst e
   exact Ev.bind h1 (rest_end x a r' q (by omega) ha h3)) (fun h => by rw [hr] at h; cases h) l.length 0 [] (by omega) (by simp) (by rw [List.drop_zero])
 ·intro hr
  exact rest_loop x a l hl hx (fieldT [] l) _ (fun r' hr' => by rw [hr] at hr'; cases hr') (fun _ => rfl) l.length 0 [] (by omega) (by simp) (by rw [List.drop_zero])

def lineF (f : S75) : ByteArray := ((f.f0 ++ (⟨#[58, 32]⟩ : ByteArray)) ++ f.f1) ++ (⟨#[13, 10]⟩ : ByteArray)
theorem size_lit2 (a b : UInt8) : (⟨#[a, b]⟩ : ByteArray).size = 2 := rfl
theorem line_size (f : S75) (h : f.f0.size ≤ 100000000 ∧ f.f1.size ≤ 100000000) : (f.f0 ++ (⟨#[58, 32]⟩ : ByteArray)).size ≤ 100000002 ∧ ((f.f0 ++ (⟨#[58, 32]⟩ : ByteArray)) ++ f.f1).size ≤ 200000002 ∧ (lineF f).size ≤ 200000004 := by
 unfold lineF
 simp only [ByteArray.size_append, size_lit2]
 omega
theorem head_loop (l : List S75) (hl : l.length ≤ 1000) (hs : ∀ f ∈ l, f.f0.size ≤ 100000000 ∧ f.f1.size ≤ 100000000) : ∀ (d j : Nat) (acc : ByteArray), j + d = l.length → acc.size ≤ 2000000000 * (j + 1) →
  ∃ R, Ev (fun k => spec_l4Head.l0 k acc l (l.length : Int) (j : Int)) R ∧ Ev (fun k => impl_headText.l0 k acc l (l.length : Int) (j : Int)) R := by
 intro d
 induction d with
 | zero =>
  intro j acc hj ha
  exact ⟨acc ++ (⟨#[13, 10]⟩ : ByteArray), Ev.step (f := fun _ => some (acc ++ (⟨#[13, 10]⟩ : ByteArray))) (fun k => by simp only [spec_l4Head.l0]; rw [if_neg (by omega), if_pos (by omega)]) (Ev.now _), Ev.step (f := fun _ => some (acc ++ (⟨#[13, 10]⟩ : ByteArray))) (fun k => by simp only [impl_headText.l0]; rw [if_neg (by omega), if_pos (by omega)]) (Ev.now _)⟩
 | succ d ih =>
  intro j acc hj ha
  have hlt : j < l.length := by omega
  have w1 : wrap64 ((j : Int) + 1) = ((j + 1 : Nat) : Int) := w2 (Nat.le_of_lt hlt) (by omega) 1 (by omega)
  have hf := hs _ (List.getElem_mem hlt)
  have hz := line_size l[j] hf
  obtain ⟨R, h1, h2⟩ := ih (j + 1) (acc ++ lineF l[j]) (by omega) (by rw [ByteArray.size_append]; omega)
  have e : (((l[j].f0 ++ (⟨#[58, 32]⟩ : ByteArray)) ++ l[j].f1) ++ (⟨#[13, 10]⟩ : ByteArray)) = lineF l[j] := rfl
  refine ⟨R, Ev.step (fun k => ?_) h1, Ev.step (fun k => ?_) h2⟩
  ·simp only [spec_l4Head.l0]
   rw [if_pos (by omega), if_pos (by omega), if_pos (by omega), rd75 l j hlt, if_pos (by omega), if_pos (by omega), if_pos (by omega), e, if_pos (by omega), w1]
  ·simp only [impl_headText.l0]
   rw [if_pos (by omega), if_pos (by omega), if_pos (by omega), rd75 l j hlt, if_pos (by omega), if_pos (by omega), if_pos (by omega), e, if_pos (by omega), w1]
theorem head_both (s : ByteArray) (l : List S75) (hz : s.size ≤ 1000000000) (hl : l.length ≤ 1000) (hs : ∀ f ∈ l, f.f0.size ≤ 100000000 ∧ f.f1.size ≤ 100000000) :
  ∃ R, Ev (fun k => spec_l4Head.f k s l) R ∧ Ev (fun k => impl_headText.f k s l) R := by
 obtain ⟨R, h1, h2⟩ := head_loop l hl hs l.length 0 (s ++ (⟨#[13, 10]⟩ : ByteArray)) (by omega) (by rw [ByteArray.size_append, size_lit2]; omega)
 refine ⟨R, Ev.congr (fun k => ?_) h1, Ev.congr (fun k => ?_) h2⟩
 ·unfold spec_l4Head.f
  rw [if_pos (by omega)]
  rfl
 ·unfold impl_headText.f
  rw [if_pos (by omega)]
  rfl
theorem fields_loop (l : List S75) (hl : l.length ≤ 40) (hs : ∀ f ∈ l, okF f = true ∧ f.f0.size ≤ 100000000 ∧ f.f1.size ≤ 100000000) : ∀ (d j : Nat), j + d = l.length → Ev (fun k => spec_l3Fields.l0 k l l (l.length : Int) (j : Int)) true := by
 intro d
 induction d with
 | zero =>
  intro j hj
  refine Ev.step (f := fun _ => some true) (fun k => ?_) (Ev.now _)
  simp only [spec_l3Fields.l0]
  rw [if_neg (by omega), decide_eq_true (by omega)]
 | succ d ih =>
  intro j hj
  have hlt : j < l.length := by omega
  have w1 : wrap64 ((j : Int) + 1) = ((j + 1 : Nat) : Int) := w2 (Nat.le_of_lt hlt) (by omega) 1 (by omega)
  have hf := hs _ (List.getElem_mem hlt)
  have hg : goodT l[j].f0 l[j].f1 = true := by
   have := hf.1
   unfold okF at this
   rw [Bool.and_eq_true] at this
   exact this.1
  have h1 := good_spec l[j].f0 l[j].f1 (by omega) (by omega)
  rw [hg] at h1
  have hst : ∀ k, spec_l3Fields.l0 (k + 1) l l (l.length : Int) (j : Int) = (spec_GoodField.f k l[j].f0 l[j].f1).bind fun t157 => (if t157 = true then (spec_l3Fields.l0 k l l (l.length : Int) ((j + 1 : Nat) : Int)) else (some false)) := by
   intro k
   simp only [spec_l3Fields.l0]
   rw [if_pos (by omega), if_pos (by omega), if_pos (by omega), rd75 l j hlt, w1]
  exact Ev.step hst (Ev.bind h1 (Ev.congr (fun k => by rw [if_pos rfl]) (ih (j + 1) (by omega))))
theorem no_te (l : List S75) (hs : ∀ f ∈ l, okF f = true ∧ f.f0.size ≤ 100000000 ∧ f.f1.size ≤ 100000000) : valT l teB = [] := by
 unfold valT
 rw [List.map_eq_nil_iff, List.filter_eq_nil_iff]
 intro f hf
 have := (hs f hf).1
 unfold okF at this
 rw [Bool.and_eq_true, Bool.not_eq_true'] at this
 rw [this.2]
 exact Bool.false_ne_true
theorem framed (l : List S75) (b : ByteArray) (n : Nat) (q : Option (Option Nat)) (hl : l.length ≤ 40) (hs : ∀ f ∈ l, okF f = true ∧ f.f0.size ≤ 100000000 ∧ f.f1.size ≤ 100000000) (hq : Ev (fun k => spec_l4Length.f k l) (outS q)) (hn : lenN q = some n) (hb : b.size = n) :
  Ev (fun k => spec_l4Framed.f k l b) true := by
 have hv := (vals_both l teB (by omega) (by decide) (fun f hf => by have := (hs f hf).2.1; omega)).1
 rw [no_te l hs] at hv
 have hn3 : n ≤ 300 ∧ (outS q = -1 ∧ n = 0 ∨ outS q = (n : Int)) := by
  match q, hn with
  | some none, hn =>
   have : 0 = n := Option.some.inj hn
   exact ⟨by omega, Or.inl ⟨rfl, this.symm⟩⟩
  | some (some m), hn =>
   unfold lenN at hn
   by_cases c : m ≤ 300
   ·simp only [if_pos c] at hn
    have : m = n := Option.some.inj hn
    subst this
    exact ⟨c, Or.inr rfl⟩
   ·simp only [if_neg c] at hn
    cases hn
 refine Ev.bind hq ?_
 have hend : Ev (fun k => (spec_l3Values.f k l teB).bind fun t => some ((t.length : Int) == 0)) true := Ev.bind hv (Ev.now _)
 rcases hn3.2 with ⟨c1, c2⟩ | c1
 ·refine Ev.congr (fun k => ?_) hend
  rw [if_pos c1, if_pos (by omega), if_pos (by omega)]
  rfl
 ·refine Ev.congr (fun k => ?_) hend
  rw [if_neg (by omega), if_pos (by omega), if_pos (by omega)]
  rfl
def firstT (m t : ByteArray) : ByteArray := ((m ++ (⟨#[32]⟩ : ByteArray)) ++ t) ++ (⟨#[32, 72, 84, 84, 80, 47, 49, 46, 49]⟩ : ByteArray)
theorem size_lit1 (a : UInt8) : (⟨#[a]⟩ : ByteArray).size = 1 := rfl
theorem first_size (m t : ByteArray) (hm : m.size ≤ 10000) (ht : t.size ≤ 10000) : (m ++ (⟨#[32]⟩ : ByteArray)).size ≤ 10001 ∧ ((m ++ (⟨#[32]⟩ : ByteArray)) ++ t).size ≤ 20001 ∧ (firstT m t).size ≤ 20010 := by
 unfold firstT
 simp only [ByteArray.size_append, size_lit1]
 refine ⟨by omega, by omega, ?_⟩
 rw [show (⟨#[32, 72, 84, 84, 80, 47, 49, 46, 49]⟩ : ByteArray).size = 9 from rfl]
 omega
theorem good_req (m t b R : ByteArray) (l : List S75) (n : Nat) (q : Option (Option Nat)) (hm : tokT m = true) (hm1 : m.size ≤ 10) (ht : tgtT t = true) (hl : l.length ≤ 40) (hs : ∀ f ∈ l, okF f = true ∧ f.f0.size ≤ 100000000 ∧ f.f1.size ≤ 100000000) (hq : Ev (fun k => spec_l4Length.f k l) (outS q)) (hn : lenN q = some n) (hb : b.size = n)
  (hR : Ev (fun k => spec_l4Head.f k (firstT m t) l) R) : Ev (fun k => spec_GoodRequest.f k m t l b) (decide ((R.size : Int) ≤ 2000)) := by
 have htz : t.size ≤ 200 := by
  unfold tgtT at ht
  rw [Bool.and_eq_true, Bool.and_eq_true] at ht
  have := of_decide_eq_true ht.2.2
  omega
 have hz := first_size m t (by omega) (by omega)
 have h1 := tok_spec m (by omega)
 rw [hm] at h1
 have h2 := tgt_spec t (by omega)
 rw [ht] at h2
 have hmeth : Ev (fun k => spec_l4Method.f k m) true := Ev.bind h1 (Ev.congr (f := fun _ => some true) (fun k => by rw [if_pos rfl, decide_eq_true (by omega)]) (Ev.now _))
 unfold spec_GoodRequest.f
 have h3 : Ev (fun k => spec_l3Fields.f k l) true := fields_loop l hl hs l.length 0 (by omega)
 refine Ev.bind hmeth ?_
 simp only [if_true]
 refine Ev.bind h2 ?_
 simp only [if_true]
 refine Ev.bind h3 ?_
 simp only [if_true]
 refine Ev.bind (framed l b n q hl hs hq hn hb) ?_
 simp only [if_true]
 have h4 : spec_l4First.f m t l b = some (firstT m t) := by
  unfold spec_l4First.f
  rw [if_pos (by omega), if_pos (by omega), if_pos (by omega)]
  rfl
 simp only [h4, Option.bind_some]
 exact Ev.bind hR (Ev.now _)

/-- A line's end at j. -/
def crAt (s : ByteArray) (j : Nat) : Prop := j + 1 < s.size ∧ bt s (j : Int) = 13 ∧ bt s ((j + 1 : Nat) : Int) = 10
def ccAt (s : ByteArray) (j : Nat) : Prop := crAt s j ∧ crAt s (j + 2)
theorem cr_apart {s : ByteArray} {j : Nat} (h : crAt s j) : ¬ crAt s (j + 1) := by
 intro h1
 have := h.2.2
 have := h1.2.1
 omega
theorem end_hit (s : ByteArray) (hz : s.size ≤ 1000000000) (c : Nat) (hc : crAt s c) : ∀ (d i : Nat), i + d = c → (∀ j, i ≤ j → j < c → ¬ crAt s j) → Ev (fun k => spec_l4End.l0 k s (i : Int)) (c : Int) := by
 intro d
 induction d with
 | zero =>
  intro i hi _
  have : i = c := by omega
  subst this
  refine Ev.step (f := fun _ => some (i : Int)) (fun k => ?_) (Ev.now _)
  have hc1 := hc.1
  have w1 : wrap64 ((i : Int) + 1) = ((i + 1 : Nat) : Int) := w2 (n := i) (Nat.le_refl _) (by omega) 1 (by omega)
  simp only [spec_l4End.l0]
  rw [w1, if_pos (by omega), if_pos (by omega), if_pos (by omega), if_pos hc.2.1, if_pos (by omega), if_pos hc.2.2]
 | succ d ih =>
  intro i hi hno
  have hc1 := hc.1
  have w1 : wrap64 ((i : Int) + 1) = ((i + 1 : Nat) : Int) := w2 (n := i) (Nat.le_refl _) (by omega) 1 (by omega)
  refine Ev.step (fun k => ?_) (ih (i + 1) (by omega) (fun j h1 h2 => hno j (by omega) h2))
  have hn := hno i (Nat.le_refl _) (by omega)
  simp only [spec_l4End.l0]
  rw [w1, if_pos (by omega), if_pos (by omega), if_pos (by omega)]
  by_cases a : bt s (i : Int) = 13
  ·rw [if_pos a, if_pos (by omega), if_neg (fun b => hn ⟨by omega, a, b⟩)]
  ·rw [if_neg a]
theorem end_none (s : ByteArray) (hz : s.size ≤ 1000000000) : ∀ (d i : Nat), s.size ≤ i + d → i ≤ s.size → (∀ j, i ≤ j → ¬ crAt s j) → Ev (fun k => spec_l4End.l0 k s (i : Int)) (-1) := by
 intro d
 induction d with
 | zero =>
  intro i hi hi2 _
  have w1 : wrap64 ((i : Int) + 1) = ((i + 1 : Nat) : Int) := w2 (n := i) (Nat.le_refl _) (by omega) 1 (by omega)
  refine Ev.step (f := fun _ => some (-1)) (fun k => ?_) (Ev.now _)
  simp only [spec_l4End.l0]
  rw [w1, if_neg (by omega)]
 | succ d ih =>
  intro i hi hi2 hno
  have w1 : wrap64 ((i : Int) + 1) = ((i + 1 : Nat) : Int) := w2 (n := i) (Nat.le_refl _) (by omega) 1 (by omega)
  by_cases hlt : i + 1 < s.size
  ·refine Ev.step (fun k => ?_) (ih (i + 1) (by omega) (by omega) (fun j h1 => hno j (by omega)))
   have hn := hno i (Nat.le_refl _)
   simp only [spec_l4End.l0]
   rw [w1, if_pos (by omega), if_pos (by omega), if_pos (by omega)]
   by_cases a : bt s (i : Int) = 13
   ·rw [if_pos a, if_pos (by omega), if_neg (fun b => hn ⟨by omega, a, b⟩)]
   ·rw [if_neg a]
  ·refine Ev.step (f := fun _ => some (-1)) (fun k => ?_) (Ev.now _)
   simp only [spec_l4End.l0]
   rw [w1, if_neg (by omega)]
/-- The first of what holds, or none. -/
theorem first_or (p : Nat → Prop) [DecidablePred p] (i n : Nat) (hn : ∀ j, n ≤ j → ¬ p j) : (∀ j, i ≤ j → ¬ p j) ∨ (∃ c, i ≤ c ∧ p c ∧ ∀ j, i ≤ j → j < c → ¬ p j) := by
 have go : ∀ (d i : Nat), n ≤ i + d → (∀ j, i ≤ j → ¬ p j) ∨ (∃ c, i ≤ c ∧ p c ∧ ∀ j, i ≤ j → j < c → ¬ p j) := by
  intro d
  induction d with
  | zero => intro i hi; exact Or.inl (fun j hj => hn j (by omega))
  | succ d ih =>
   intro i hi
   by_cases h : p i
   ·exact Or.inr ⟨i, Nat.le_refl _, h, fun j h1 h2 => by omega⟩
   ·rcases ih (i + 1) (by omega) with h1 | ⟨c, h1, h2, h3⟩
    ·refine Or.inl (fun j hj => ?_)
     by_cases e : j = i
     ·subst e; exact h
     ·exact h1 j (by omega)
    ·refine Or.inr ⟨c, by omega, h2, fun j h4 h5 => ?_⟩
     by_cases e : j = i
     ·subst e; exact h
     ·exact h3 j (by omega) h5
 exact go n i (by omega)
instance (s : ByteArray) : DecidablePred (crAt s) := fun j => by unfold crAt; infer_instance
instance (s : ByteArray) : DecidablePred (ccAt s) := fun j => by unfold ccAt; infer_instance
theorem cr_room {s : ByteArray} (j : Nat) (h : s.size ≤ j) : ¬ crAt s j := fun h1 => by have := h1.1; omega
def codeT (s : ByteArray) : List ByteArray × Int × Int := if (s.size : Int) > 2000 then ([], 0, 5) else ([], 0, 1)
def linesT (out : List ByteArray) (e : Nat) : List ByteArray × Int × Int := if e + 4 > 2000 then ([], 0, 5) else (out, ((e + 4 : Nat) : Int), 0)
theorem bt_ext (s : ByteArray) (a b j : Nat) (hb : b ≤ s.size) (hj : a + j < b) : bt (s.extract a b) (j : Int) = bt s ((a + j : Nat) : Int) := by
 have h1 : j < (s.extract a b).data.toList.length := by rw [data_length, ByteArray.size_extract]; omega
 have h2 : a + j < s.data.toList.length := by rw [data_length]; omega
 rw [bt_at _ _ h1, bt_at _ _ h2]
 congr 2
 simp [Lib.extract_data]
theorem occ_cons (l : List UInt8) (c : UInt8) (t : List UInt8) (i : Nat) : Lib.occAt l (c :: t) i = true ↔ l[i]? = some c ∧ Lib.occAt l t (i + 1) = true := by
 unfold Lib.occAt
 rcases Nat.lt_or_ge i l.length with h | h
 ·rw [List.drop_eq_getElem_cons h, List.getElem?_eq_getElem h]
  simp only [List.isPrefixOf, Bool.and_eq_true, beq_iff_eq, Option.some.injEq]
  constructor
  ·rintro ⟨a, b⟩; exact ⟨a.symm, b⟩
  ·rintro ⟨a, b⟩; exact ⟨a.symm, b⟩
 ·rw [List.drop_of_length_le h, List.getElem?_eq_none h]
  simp [List.isPrefixOf]
theorem occ_nil (l : List UInt8) (i : Nat) : Lib.occAt l [] i = true := by unfold Lib.occAt; simp [List.isPrefixOf]
theorem get_bt (s : ByteArray) (i : Nat) (c : UInt8) : s.data.toList[i]? = some c ↔ i < s.size ∧ bt s (i : Int) = (c.toNat : Int) := by
 rcases Nat.lt_or_ge i s.size with h | h
 ·constructor
  ·intro h1; exact ⟨h, (bt_get s i c h).mpr h1⟩
  ·intro h1; exact (bt_get s i c h).mp h1.2
 ·rw [List.getElem?_eq_none (by rw [data_length]; exact h)]
  constructor
  ·intro h1; cases h1
  ·intro h1; omega
theorem occ_cr (s : ByteArray) (j : Nat) : Lib.occAt s.data.toList crlf.data.toList j = true ↔ crAt s j := by
 show Lib.occAt s.data.toList [13, 10] j = true ↔ _
 rw [occ_cons, occ_cons, get_bt, get_bt]
 unfold crAt
 constructor
 ·rintro ⟨⟨a, b⟩, ⟨c, d⟩, _⟩; exact ⟨c, b, d⟩
 ·rintro ⟨a, b, c⟩; exact ⟨⟨by omega, b⟩, ⟨a, c⟩, occ_nil _ _⟩
theorem occ_cc (s : ByteArray) (j : Nat) : Lib.occAt s.data.toList crlf2.data.toList j = true ↔ ccAt s j := by
 show Lib.occAt s.data.toList [13, 10, 13, 10] j = true ↔ _
 rw [occ_cons, occ_cons, occ_cons, occ_cons, get_bt, get_bt, get_bt, get_bt]
 unfold ccAt crAt
 constructor
 ·rintro ⟨⟨a, b⟩, ⟨c, d⟩, ⟨e, f⟩, ⟨g, h⟩, _⟩; exact ⟨⟨c, b, d⟩, ⟨g, f, h⟩⟩
 ·rintro ⟨⟨a, b, c⟩, d, e, f⟩; exact ⟨⟨by omega, b⟩, ⟨a, c⟩, ⟨by omega, e⟩, ⟨d, f⟩, occ_nil _ _⟩
theorem cr_ext (s : ByteArray) (a b j : Nat) (hb : b ≤ s.size) : crAt (s.extract a b) j ↔ a + j + 1 < b ∧ crAt s (a + j) := by
 have hsz : (s.extract a b).size = b - a := by rw [ByteArray.size_extract]; omega
 constructor
 ·rintro ⟨h1, h2, h3⟩
  rw [hsz] at h1
  rw [bt_ext s a b j hb (by omega)] at h2
  rw [bt_ext s a b (j + 1) hb (by omega)] at h3
  exact ⟨by omega, by omega, h2, h3⟩
 ·rintro ⟨h0, h1, h2, h3⟩
  refine ⟨by rw [hsz]; omega, ?_, ?_⟩
  ·rw [bt_ext s a b j hb (by omega)]; exact h2
  ·rw [bt_ext s a b (j + 1) hb (by omega)]; exact h3
theorem idx_cr (s : ByteArray) (i : Nat) (h : crAt s i) (h0 : ∀ j, j < i → ¬ crAt s j) : Lib.indexB s crlf = (i : Int) := by
 have := h.1
 exact Lib.index_first (by rw [data_length]; omega) ((occ_cr _ _).mpr h) (fun j hj => by rw [Bool.eq_false_iff]; intro h2; exact h0 j hj ((occ_cr _ _).mp h2))
theorem idx_no (s : ByteArray) (h0 : ∀ j, ¬ crAt s j) : Lib.indexB s crlf = -1 :=
 Lib.index_none (fun j hj => by rw [Bool.eq_false_iff]; intro h2; exact h0 j ((occ_cr _ _).mp h2))
theorem split_hit (s : ByteArray) (i : Nat) (h : crAt s i) (h0 : ∀ j, j < i → ¬ crAt s j) : splitL s crlf = s.extract 0 i :: splitL (s.extract (i + 2) s.size) crlf := by
 have hx := idx_cr s i h h0
 unfold splitL
 rw [Lib.countB_hit s crlf i (by decide) hx, Nat.add_comm 1, Lib.splitB_hit _ _ _ _ i hx]
 rfl
theorem split_no (s : ByteArray) (h0 : ∀ j, ¬ crAt s j) : splitL s crlf = [s] := by
 unfold splitL
 exact Lib.splitB_miss _ _ _ _ (idx_no s h0)
theorem ext_ext (s : ByteArray) (a b c d : Nat) (h1 : a + d ≤ b) (hb : b ≤ s.size) : (s.extract a b).extract c d = s.extract (a + c) (a + d) := by
 apply ba_ext
 rw [Lib.extract_data, Lib.extract_data, Lib.extract_data, List.drop_take, List.take_take, List.drop_drop]
 congr 1
 omega
theorem lines_hit (s : ByteArray) (hz : s.size ≤ 1000000000) (out : List ByteArray) (a c : Nat) (hc : crAt s c) (hac : a ≤ c) (hno : ∀ j, a ≤ j → j < c → ¬ crAt s j) (b : Bool) (hb : b = if c = a then decide ((out.length : Int) > 0) else false) (R : List ByteArray × Int × Int)
  (h : Ev (fun k => spec_l4Lines.j1 k s out ((c + 2 : Nat) : Int) (s.extract a c) b) R) : Ev (fun k => spec_l4Lines.l0 k s out (a : Int)) R := by
 have he := end_hit s hz c hc (c - a) a (by omega) hno
 have hc1 := hc.1
 refine Ev.step (f := fun k => (spec_l4End.f k s (a : Int)).bind fun t101 => (if t101 < 0 then (if (s.size : Int) > 2000 then (some (([] : List ByteArray), 0, 5)) else (some (([] : List ByteArray), 0, 1))) else (if 0 ≤ (a : Int) then (if (a : Int) ≤ t101 then (if t101 ≤ (s.size : Int) then (if (s.extract a (t101 : Int).toNat).toList = ([] : List UInt8) then (spec_l4Lines.j1 k s out (wrap64 (t101 + 2)) (s.extract a (t101 : Int).toNat) (decide ((out.length : Int) > 0))) else (spec_l4Lines.j1 k s out (wrap64 (t101 + 2)) (s.extract a (t101 : Int).toNat) false)) else (none)) else (none)) else (none)))) (fun k => ?_) (Ev.bind (show Ev (fun k => spec_l4End.f k s (a : Int)) (c : Int) from he) ?_)
 ·simp only [spec_l4Lines.l0, Int.toNat_natCast]
 ·refine Ev.congr (fun k => ?_) h
  rw [if_neg (by omega), if_pos (by omega), if_pos (by omega), if_pos (by omega), Int.toNat_natCast, show wrap64 ((c : Int) + 2) = ((c + 2 : Nat) : Int) by unfold wrap64; omega, hb]
  have hl : (s.extract a c).toList = ([] : List UInt8) ↔ c = a := by rw [empty_list, ByteArray.size_extract]; omega
  by_cases e : c = a
  ·rw [if_pos (hl.mpr e), if_pos e]
  ·rw [if_neg (fun x => e (hl.mp x)), if_neg e]
theorem lines_go (s : ByteArray) (hz : s.size ≤ 1000000000) : ∀ (n a : Nat) (out : List ByteArray), s.size ≤ a + n → a ≤ s.size → out.length ≤ a → ((a = 0 ∧ out = []) ∨ (2 ≤ a ∧ crAt s (a - 2) ∧ out ≠ [])) →
  ((∀ j, a ≤ j + 2 → ¬ ccAt s j) → Ev (fun k => spec_l4Lines.l0 k s out (a : Int)) (codeT s)) ∧
  (∀ e, ccAt s e → a ≤ e + 2 → (∀ j, a ≤ j + 2 → j < e → ¬ ccAt s j) → Ev (fun k => spec_l4Lines.l0 k s out (a : Int)) (linesT (if e + 2 = a then out else out ++ splitL (s.extract a e) crlf) e)) := by
 intro n
 induction n with
 | zero =>
  intro a out hn ha _ _
  have hno : ∀ j, a ≤ j → ¬ crAt s j := fun j hj => cr_room j (by omega)
  constructor
  ·intro _
   refine Ev.step (f := fun k => (spec_l4End.f k s (a : Int)).bind fun t101 => (if t101 < 0 then (if (s.size : Int) > 2000 then (some (([] : List ByteArray), 0, 5)) else (some (([] : List ByteArray), 0, 1))) else (if 0 ≤ (a : Int) then (if (a : Int) ≤ t101 then (if t101 ≤ (s.size : Int) then (if (s.extract a (t101 : Int).toNat).toList = ([] : List UInt8) then (spec_l4Lines.j1 k s out (wrap64 (t101 + 2)) (s.extract a (t101 : Int).toNat) (decide ((out.length : Int) > 0))) else (spec_l4Lines.j1 k s out (wrap64 (t101 + 2)) (s.extract a (t101 : Int).toNat) false)) else (none)) else (none)) else (none)))) (fun k => ?_) (Ev.bind (show Ev (fun k => spec_l4End.f k s (a : Int)) (-1) from end_none s hz (s.size - a) a (by omega) ha hno) ?_)
   ·simp only [spec_l4Lines.l0, Int.toNat_natCast]
   ·refine Ev.congr (f := fun _ => some (codeT s)) (fun k => ?_) (Ev.now _)
    rw [if_pos (by omega)]
    unfold codeT
    by_cases c : (s.size : Int) > 2000
    ·rw [if_pos c, if_pos c]
    ·rw [if_neg c, if_neg c]
  ·intro e he h2 _
   exact absurd he.2 (hno _ h2)
 | succ n ih =>
  intro a out hn ha hlen hinv
  rcases first_or (crAt s) a s.size (fun j hj => cr_room j hj) with hno | ⟨c, hac, hc, hno⟩
  ·constructor
   ·intro _
    refine Ev.step (f := fun k => (spec_l4End.f k s (a : Int)).bind fun t101 => (if t101 < 0 then (if (s.size : Int) > 2000 then (some (([] : List ByteArray), 0, 5)) else (some (([] : List ByteArray), 0, 1))) else (if 0 ≤ (a : Int) then (if (a : Int) ≤ t101 then (if t101 ≤ (s.size : Int) then (if (s.extract a (t101 : Int).toNat).toList = ([] : List UInt8) then (spec_l4Lines.j1 k s out (wrap64 (t101 + 2)) (s.extract a (t101 : Int).toNat) (decide ((out.length : Int) > 0))) else (spec_l4Lines.j1 k s out (wrap64 (t101 + 2)) (s.extract a (t101 : Int).toNat) false)) else (none)) else (none)) else (none)))) (fun k => ?_) (Ev.bind (show Ev (fun k => spec_l4End.f k s (a : Int)) (-1) from end_none s hz (s.size - a) a (by omega) ha hno) ?_)
    ·simp only [spec_l4Lines.l0, Int.toNat_natCast]
    ·refine Ev.congr (f := fun _ => some (codeT s)) (fun k => ?_) (Ev.now _)
     rw [if_pos (by omega)]
     unfold codeT
     by_cases c : (s.size : Int) > 2000
     ·rw [if_pos c, if_pos c]
     ·rw [if_neg c, if_neg c]
   ·intro e he h2 _
    exact absurd he.2 (hno _ h2)
  ·have hc1 := hc.1
   by_cases hend : c = a ∧ out ≠ []
   ·obtain ⟨e1, e2⟩ := hend
    subst e1
    have h2 : 2 ≤ c ∧ crAt s (c - 2) := by
     rcases hinv with ⟨_, h⟩ | ⟨h, h', _⟩
     ·exact absurd h e2
     ·exact ⟨h, h'⟩
    have hcc : ccAt s (c - 2) := ⟨h2.2, by rw [show c - 2 + 2 = c by omega]; exact hc⟩
    constructor
    ·intro h
     exact absurd hcc (h (c - 2) (by omega))
    ·intro e he h3 h4
     have : e = c - 2 := by
      rcases Nat.lt_or_ge (c - 2) e with h5 | h5
      ·exact absurd hcc (h4 (c - 2) (by omega) h5)
      ·omega
     rw [if_pos (show e + 2 = c by omega)]
     have hpos : 0 < out.length := List.length_pos_iff.mpr e2
     refine lines_hit s hz out c c hc (Nat.le_refl _) hno true (by rw [if_pos rfl, decide_eq_true (by omega)]) _ (Ev.step (f := fun _ => some (linesT out e)) (fun k => ?_) (Ev.now _))
     simp only [spec_l4Lines.j1]
     rw [if_pos trivial]
     unfold linesT
     by_cases h6 : e + 4 > 2000
     ·rw [if_pos (by omega), if_pos h6]
     ·rw [if_neg (by omega), if_neg h6, show c + 2 = e + 4 by omega]
   ·have hfl : (false : Bool) = if c = a then decide ((out.length : Int) > 0) else false := by
     by_cases e1 : c = a
     ·have e2 : out = [] := by
       rcases Classical.em (out = []) with h | h
       ·exact h
       ·exact absurd ⟨e1, h⟩ hend
      rw [if_pos e1, e2]
      rfl
     ·rw [if_neg e1]
    have hnx : ∀ R, Ev (fun k => spec_l4Lines.l0 k s (out ++ [s.extract a c]) ((c + 2 : Nat) : Int)) R → Ev (fun k => spec_l4Lines.l0 k s out (a : Int)) R := by
     intro R h
     refine lines_hit s hz out a c hc hac hno false hfl R (Ev.step (fun k => ?_) h)
     simp only [spec_l4Lines.j1]
     rw [if_neg (by simp), if_pos (by omega)]
    obtain ⟨i1, i2⟩ := ih (c + 2) (out ++ [s.extract a c]) (by omega) (by omega) (by rw [List.length_append, List.length_singleton]; omega) (Or.inr ⟨by omega, by rw [show c + 2 - 2 = c by omega]; exact hc, by simp⟩)
    constructor
    ·intro h
     exact hnx _ (i1 (fun j hj => h j (by omega)))
    ·intro e he h3 h4
     have hce : c ≤ e := by
      rcases Nat.lt_or_ge e c with h5 | h5
      ·exfalso
       rcases Nat.lt_or_ge e a with h6 | h6
       ·rcases hinv with ⟨h7, _⟩ | ⟨h7, h8, h9⟩
        ·omega
        ·by_cases h10 : e + 2 = a
         ·have h11 := he.2
          rw [h10] at h11
          by_cases h12 : c = a
          ·exact hend ⟨h12, h9⟩
          ·exact hno a (Nat.le_refl _) (by omega) h11
         ·have h11 : e = a - 2 + 1 := by omega
          rw [h11] at he
          exact cr_apart h8 he.1
       ·exact hno e h6 h5 he.1
      ·exact h5
     have h5 := hnx _ (i2 e he (by omega) (fun j h6 h7 => h4 j (by omega) h7))
     have hee := he.1.1
     have hea : ¬ e + 2 = a := by omega
     rw [if_neg hea]
     by_cases hce2 : e = c
     ·subst hce2
      rw [if_pos rfl] at h5
      rw [split_no (s.extract a e) (fun j h6 => by
       have h7 := (cr_ext s a e j (by omega)).mp h6
       exact hno (a + j) (by omega) (by omega) h7.2)]
      exact h5
     ·have hc2 : c + 2 ≤ e := by
       rcases Nat.lt_or_ge e (c + 2) with h6 | h6
       ·have h7 : e = c + 1 := by omega
        rw [h7] at he
        exact absurd he.1 (cr_apart hc)
       ·exact h6
      rw [if_neg (by omega)] at h5
      rw [split_hit (s.extract a e) (c - a) ((cr_ext s a e (c - a) (by omega)).mpr ⟨by omega, by rw [show a + (c - a) = c by omega]; exact hc⟩) (fun j hj h6 => by
       have h7 := (cr_ext s a e j (by omega)).mp h6
       exact hno (a + j) (by omega) (by omega) h7.2)]
      rw [ByteArray.size_extract, show min e s.size - a = e - a by omega, ext_ext s a e 0 (c - a) (by omega) (by omega), ext_ext s a e (c - a + 2) (e - a) (by omega) (by omega), show a + 0 = a from rfl, show a + (c - a) = c by omega, show a + (c - a + 2) = c + 2 by omega, show a + (e - a) = e by omega]
      rw [List.append_assoc] at h5
      exact h5
theorem split_mem (sep : ByteArray) : ∀ (k : Nat) (s : ByteArray), ∀ x ∈ Lib.splitB sep 0 k s, x.size ≤ s.size := by
 intro k
 induction k with
 | zero => intro s x hx; rw [Lib.splitB_zero] at hx; rw [List.mem_singleton.mp hx]; exact Nat.le_refl _
 | succ k ih =>
  intro s x hx
  rcases Lib.indexB_cases s sep with h | ⟨i, h, hi⟩
  ·rw [Lib.splitB_miss _ _ _ _ h] at hx; rw [List.mem_singleton.mp hx]; exact Nat.le_refl _
  ·rw [Lib.splitB_hit _ _ _ _ i h] at hx
   rcases List.mem_cons.mp hx with h1 | h1
   ·rw [h1, ByteArray.size_extract]; omega
   ·have := ih _ x h1
    rw [ByteArray.size_extract] at this
    omega
/-- The head's lines as both see them. -/
def cutHead (s : ByteArray) : List ByteArray × Int × Int := if headEnd s < 0 then codeT s else if headEnd s + 4 > 2000 then ([], 0, 5) else (headLines s, headEnd s + 4, 0)
theorem head_cases (s : ByteArray) : (headEnd s = -1 ∧ ∀ j, ¬ ccAt s j) ∨ (∃ e : Nat, headEnd s = (e : Int) ∧ ccAt s e ∧ ∀ j, j < e → ¬ ccAt s j) := by
 rcases Lib.index_spec s.data.toList crlf2.data.toList with ⟨h1, h2⟩ | ⟨i, h1, h2, h3, h4⟩
 ·refine Or.inl ⟨h1, fun j h => ?_⟩
  have h5 := (occ_cc s j).mpr h
  have h6 := h.1.1
  rw [h2 j (by rw [data_length]; omega)] at h5
  cases h5
 ·refine Or.inr ⟨i, h1, (occ_cc s i).mp h3, fun j hj h => ?_⟩
  have h5 := (occ_cc s j).mpr h
  rw [h4 j hj] at h5
  cases h5
theorem lines_spec (s : ByteArray) (hz : s.size ≤ 1000000000) : Ev (fun k => spec_l4Lines.f k s) (cutHead s) := by
 obtain ⟨i1, i2⟩ := lines_go s hz s.size 0 [] (by omega) (by omega) (by simp) (Or.inl ⟨rfl, rfl⟩)
 unfold cutHead
 rcases head_cases s with ⟨h1, h2⟩ | ⟨e, h1, h2, h3⟩
 ·rw [if_pos (by omega)]
  exact i1 (fun j _ => h2 j)
 ·have h := i2 e h2 (by omega) (fun j _ hj => h3 j hj)
  rw [if_neg (by omega)] at h
  rw [if_neg (by omega)]
  unfold linesT at h
  unfold headLines
  rw [h1, Int.toNat_natCast]
  by_cases c : e + 4 > 2000
  ·rw [if_pos c] at h
   rw [if_pos (by omega)]
   exact h
  ·rw [if_neg c] at h
   rw [if_neg (by omega)]
   exact h

theorem cut_cases (s : ByteArray) (c : UInt8) : (cutT s ⟨#[c]⟩ = (s, ⟨#[]⟩, false) ∧ splitL s ⟨#[c]⟩ = [s] ∧ c ∉ s.data.toList) ∨
  (∃ a b, cutT s ⟨#[c]⟩ = (a, b, true) ∧ splitL s ⟨#[c]⟩ = a :: splitL b ⟨#[c]⟩ ∧ s.data.toList = a.data.toList ++ c :: b.data.toList ∧ a.size ≤ s.size ∧ b.size ≤ s.size) := by
 rcases Lib.index_spec s.data.toList [c] with ⟨h1, h2⟩ | ⟨i, h1, h2, h3, h4⟩
 ·have h0 : ∀ j : Nat, s.data.toList[j]? ≠ some c := by
   intro j h
   have h5 := (occ1 _ _ _).mpr h
   rcases Nat.lt_or_ge j s.data.toList.length with h6 | h6
   ·rw [h2 j (by omega)] at h5; cases h5
   ·rw [List.getElem?_eq_none h6] at h; cases h
  refine Or.inl ⟨cut_no s c (fun j _ => h0 j), ?_, fun h => ?_⟩
  ·unfold splitL
   exact Lib.splitB_miss _ _ _ _ h1
  ·obtain ⟨j, hj, hj2⟩ := List.getElem_of_mem h
   exact h0 j (by rw [List.getElem?_eq_getElem hj, hj2])
 ·have h5 := (occ1 _ _ _).mp h3
  have hlt : i < s.data.toList.length := by
   rcases Nat.lt_or_ge i s.data.toList.length with h6 | h6
   ·exact h6
   ·rw [List.getElem?_eq_none h6] at h5; cases h5
  have h0 : ∀ j : Nat, j < i → s.data.toList[j]? ≠ some c := fun j hj h => by
   have h6 := (occ1 _ _ _).mpr h
   rw [h4 j hj] at h6; cases h6
  have hi : i < s.size := by rw [data_length] at hlt; exact hlt
  refine Or.inr ⟨s.extract 0 i, s.extract (i + 1) s.size, cut_at s c i hi h5 h0, ?_, ?_, by rw [ByteArray.size_extract]; omega, by rw [ByteArray.size_extract]; omega⟩
  ·have hx : Lib.indexB s ⟨#[c]⟩ = (i : Int) := h1
   unfold splitL
   rw [Lib.countB_hit s ⟨#[c]⟩ i (by show 1 ≤ (⟨#[c]⟩ : ByteArray).size; rw [size_lit1]; exact Nat.le_refl _) hx, Nat.add_comm 1, Lib.splitB_hit _ _ _ _ i hx]
   rfl
  ·rw [Lib.extract_from_zero, Lib.extract_to_end]
   have e : s.data.toList[i] = c := by rw [List.getElem?_eq_getElem hlt] at h5; exact Option.some.inj h5
   rw [← e, ← List.drop_eq_getElem_cons hlt, List.take_append_drop]
abbrev verL : List UInt8 := [72, 84, 84, 80, 47, 49, 46, 49]

def goodL (L : ByteArray) : Bool :=
 (cutT L ⟨#[32]⟩).2.2 && ((cutT (cutT L ⟨#[32]⟩).2.1 ⟨#[32]⟩).2.2 && (decide ((cutT (cutT L ⟨#[32]⟩).2.1 ⟨#[32]⟩).2.1.toList = verL) && (tokT (cutT L ⟨#[32]⟩).1 && decide (((cutT L ⟨#[32]⟩).1.size : Int) ≤ 10) && tgtT (cutT (cutT L ⟨#[32]⟩).2.1 ⟨#[32]⟩).1)))
def methL (L : ByteArray) : ByteArray := (cutT L ⟨#[32]⟩).1
def targL (L : ByteArray) : ByteArray := (cutT (cutT L ⟨#[32]⟩).2.1 ⟨#[32]⟩).1
theorem reqline (m t : ByteArray) (hm : m.size ≤ 1125899906842624) (ht : t.size ≤ 1125899906842624) : impl_isRequestLine.f m t [] ⟨#[]⟩ = some (tokT m && decide ((m.size : Int) ≤ 10) && tgtT t) := by
 unfold impl_isRequestLine.f
 rw [tok_impl m hm, Option.bind_some]
 cases tokT m with
 | false => rw [if_neg (by simp)]; rfl
 | true =>
  rw [if_pos rfl]
  by_cases c : (m.size : Int) ≤ 10
  ·rw [if_pos c, tgt_impl t ht, Option.bind_some, decide_eq_true c]; rfl
  ·rw [if_neg c, decide_eq_false c]; rfl
theorem tr1_is (L : ByteArray) (hz : L.size ≤ 1000000000) : ∃ a st, tr1.f L = some (a, goodL L, st) ∧ (goodL L = true → a = L ∧ st = (methL L, targL L)) := by
 unfold tr1.f goodL methL targL
 rw [if_pos (by omega)]
 rcases cut_cases L 32 with ⟨h1, h2, h3⟩ | ⟨m, r, h1, h2, h3, h4, h5⟩
 ·rw [h1, h2, if_neg (by simp)]
  exact ⟨_, _, rfl, fun h => by simp at h⟩
 ·rw [h1, h2]
  rcases cut_cases r 32 with ⟨g1, g2, g3⟩ | ⟨t, v, g1, g2, g3, g4, g5⟩
  ·rw [g1, g2, if_neg (by simp)]
   exact ⟨_, _, rfl, fun h => by simp at h⟩
  ·rw [g1, g2]
   simp only [Bool.true_and]
   rcases cut_cases v 32 with ⟨k1, k2, k3⟩ | ⟨x, y, k1, k2, k3, k4, k5⟩
   ·rw [k2, if_pos (by rfl), show rdOf ByteArray.empty [m, t, v] 2 = v from rfl, show rdOf ByteArray.empty [m, t, v] 0 = m from rfl, show rdOf ByteArray.empty [m, t, v] 1 = t from rfl]
    by_cases c : v.toList = verL
    ·rw [if_pos c, decide_eq_true c, Bool.true_and, reqline m t (by omega) (by omega), Option.bind_some]
     exact ⟨_, _, rfl, fun _ => ⟨rfl, rfl⟩⟩
    ·rw [if_neg c, decide_eq_false c]
     exact ⟨_, _, rfl, fun h => by simp at h⟩
   ·have hv : ¬ v.toList = verL := by
     intro h
     rw [ByteArray.toList_eq, k3] at h
     have h6 : (32 : UInt8) ∈ verL := by rw [← h]; simp
     exact absurd h6 (by decide)
    have hne : (splitL y ⟨#[32]⟩).length ≠ 0 := by
     rw [splitL_length y ⟨#[32]⟩ (by decide)]; omega
    rw [k2, if_neg (by simp only [List.length_cons]; omega), decide_eq_false hv]
    exact ⟨_, _, rfl, fun h => by simp at h⟩
theorem good_line (L : ByteArray) (h : goodL L = true) : tokT (methL L) = true ∧ (methL L).size ≤ 10 ∧ tgtT (targL L) = true ∧ firstT (methL L) (targL L) = L := by
 unfold goodL at h
 simp only [Bool.and_eq_true] at h
 obtain ⟨h1, h2, h3, ⟨h4, h5⟩, h6⟩ := h
 refine ⟨h4, by have := of_decide_eq_true h5; unfold methL; omega, h6, ?_⟩
 unfold methL targL firstT
 have h7 := of_decide_eq_true h3
 clear h3 h4 h5 h6
 rcases cut_cases L 32 with ⟨k1, _, _⟩ | ⟨m, r, k1, _, k3, _, _⟩
 ·rw [k1] at h1; cases h1
 ·rw [k1] at h2 h7 ⊢
  rcases cut_cases r 32 with ⟨g1, _, _⟩ | ⟨t, v, g1, _, g3, _, _⟩
  ·rw [g1] at h2; cases h2
  ·rw [g1] at h7 ⊢
   rw [ByteArray.toList_eq] at h7
   simp only at h7
   apply ba_ext
   rw [k3, g3, h7]
   simp [ByteArray.data_append, verL]
theorem first_spec (s : ByteArray) (l : List ByteArray) (e : Nat) (L : ByteArray) (hz : L.size ≤ 1000000000) (hl : rdOf ByteArray.empty l 0 = L) (hp : 0 < l.length) (h : Ev (fun k => spec_l4Lines.f k s) (l, (e : Int), 0)) (R : ByteArray × ByteArray × List S75 × ByteArray × Int × Int)
  (h1 : Ev (fun k => spec_TakeRequest.j0 k s l (e : Int) (methL L) (targL L) (!goodL L)) R) : Ev (fun k => spec_TakeRequest.f k s) R := by
 unfold spec_TakeRequest.f
 refine Ev.bind h ?_
 have hc := cut_size L 32
 have hd := cut_size (cutT L ⟨#[32]⟩).2.1 32
 refine Ev.congr (f := fun k => (spec_l1Cut.f k L 32).bind fun bt179 => ((spec_l1Cut.f k bt179.2.1 32).bind fun bt182 => (if bt179.2.2 = true then (if bt182.2.2 = true then (if bt182.2.1.toList = ([72, 84, 84, 80, 47, 49, 46, 49] : List UInt8) then ((spec_l4Method.f k bt179.1).bind fun t185 => (if t185 = true then ((spec_l4Target.f k bt182.1).bind fun t186 => (spec_TakeRequest.j0 k s l (e : Int) bt179.1 bt182.1 (!t186))) else (spec_TakeRequest.j0 k s l (e : Int) bt179.1 bt182.1 true))) else (spec_TakeRequest.j0 k s l (e : Int) bt179.1 bt182.1 true)) else (spec_TakeRequest.j0 k s l (e : Int) bt179.1 bt182.1 true)) else (spec_TakeRequest.j0 k s l (e : Int) bt179.1 bt182.1 true)))) (fun k => by simp only [hl]; rw [if_pos trivial, if_pos (by omega)]) ?_
 refine Ev.bind (cut_spec L 32 32 rfl (by omega)) (Ev.bind (cut_spec _ 32 32 rfl (by omega)) ?_)
 simp only [methL, targL, goodL] at h1
 generalize cutT L ⟨#[32]⟩ = C at *
 generalize cutT C.2.1 ⟨#[32]⟩ = D at *
 obtain ⟨m, r, o1⟩ := C
 obtain ⟨t, v, o2⟩ := D
 simp only at *
 cases o1 with
 | false => exact Ev.congr (fun k => by rw [if_neg (by simp)]) (by simpa using h1)
 | true =>
  cases o2 with
  | false => exact Ev.congr (fun k => by rw [if_pos rfl, if_neg (by simp)]) (by simpa using h1)
  | true =>
   by_cases c : v.toList = verL
   rotate_left
   ·rw [decide_eq_false c] at h1
    exact Ev.congr (fun k => by rw [if_pos rfl, if_pos rfl, if_neg c]) (by simpa using h1)
   rw [decide_eq_true c] at h1
   refine Ev.congr (fun k => by rw [if_pos rfl, if_pos rfl, if_pos c]) ?_
   have hm : Ev (fun k => spec_l4Method.f k m) (tokT m && decide ((m.size : Int) ≤ 10)) := by
    refine Ev.bind (tok_spec m (by omega)) ?_
    cases tokT m with
    | true => exact Ev.congr (fun k => by rw [if_pos rfl, Bool.true_and]) (Ev.now _)
    | false => exact Ev.congr (fun k => by rw [if_neg (by simp), Bool.false_and]) (Ev.now _)
   simp only [Bool.true_and] at h1
   refine Ev.bind hm ?_
   cases hb : (tokT m && decide ((m.size : Int) ≤ 10)) with
   | false =>
    rw [hb] at h1
    exact Ev.congr (fun k => by rw [if_neg (by simp)]) (by simpa using h1)
   | true =>
    rw [hb, Bool.true_and] at h1
    simp only [if_true]
    exact Ev.bind (tgt_spec t (by omega)) h1

abbrev ReqT := ByteArray × ByteArray × List S75 × ByteArray × Int × Int
def noReq (c : Int) : ReqT := ((⟨#[]⟩ : ByteArray), (⟨#[]⟩ : ByteArray), ([] : List S75), (⟨#[]⟩ : ByteArray), 0, c)
theorem spec_code (s : ByteArray) (c : Int) (hc : c ≠ 0) (h : Ev (fun k => spec_l4Lines.f k s) ([], 0, c)) : Ev (fun k => spec_TakeRequest.f k s) (noReq c) := by
 refine Ev.bind h (Ev.congr (f := fun _ => some (noReq c)) (fun k => ?_) (Ev.now _))
 rw [if_neg hc]
 rfl
theorem impl_code (s : ByteArray) (c : Int) (hc : c ≠ 0) (b : ByteArray) (n : Int) (l : List S75) (st : ByteArray × ByteArray) (h : Ev (fun k => takeF tr1.f ((⟨#[]⟩ : ByteArray), (⟨#[]⟩ : ByteArray)) k s) (l, b, n, c, st)) : Ev (fun k => impl_TakeRequest.f k s) (noReq c) := by
 refine Ev.bind h (Ev.congr (f := fun _ => some (noReq c)) (fun k => ?_) (Ev.now _))
 rw [if_neg hc]
 rfl
theorem split_pos (s : ByteArray) : 0 < (splitL s crlf).length := by rw [splitL_length s crlf (by decide)]; omega
/-- What the head tells, past the lines. -/
theorem take_head (s : ByteArray) (hz : s.size ≤ 1048576) (e : Nat) (he : headEnd s = (e : Int)) (hc : ccAt s e) (h2000 : ¬ e + 4 > 2000) :
  ∃ R, Ev (fun k => spec_TakeRequest.f k s) R ∧ Ev (fun k => impl_TakeRequest.f k s) R ∧ R.2.2.1.length ≤ 40 := by
 have hes : e + 4 ≤ s.size := by have := hc.2.1; omega
 have hlines := lines_spec s (by omega)
 unfold cutHead at hlines
 rw [he, if_neg (by omega), if_neg (by omega)] at hlines
 have hpos : 0 < (headLines s).length := split_pos _
 have hmem : ∀ x ∈ headLines s, x.size ≤ 1048576 := fun x hx => by
  have := split_mem crlf _ _ x hx
  rw [ByteArray.size_extract] at this
  omega
 have hlen : (headLines s).length ≤ 1048577 := by
  have h1 := splitL_length (s.extract 0 (headEnd s).toNat) crlf (by decide)
  have h2 := Lib.countB_le crlf (by decide) _ (s.extract 0 (headEnd s).toNat) (Nat.le_refl _)
  have h3 : (s.extract 0 (headEnd s).toNat).size ≤ s.size := by rw [ByteArray.size_extract]; omega
  unfold headLines
  omega
 obtain ⟨L, hL⟩ : ∃ L, rdOf ByteArray.empty (headLines s) 0 = L := ⟨_, rfl⟩
 have hLz : L.size ≤ 1048576 := by
  have h1 : rdOf ByteArray.empty (headLines s) 0 = (headLines s)[0] := getD_at hpos _
  rw [← hL, h1]
  exact hmem _ (List.getElem_mem hpos)
 obtain ⟨a, st, ha, hgood⟩ := tr1_is L (by omega)
 have hI : ∀ k, takeF tr1.f ((⟨#[]⟩ : ByteArray), (⟨#[]⟩ : ByteArray)) k s = if goodL L = true then ((impl_fieldsOf.f k ((headLines s).drop 1)).bind fun b => if b.2 = true then ((impl_lengthOf.f k b.1).bind fun c => if c.2.2 = true then (if c.1 > 300 then some ([], ⟨#[]⟩, 0, 4, st) else if ((s.size : Int) - ((e : Int) + 4)) < c.1 then some ([], ⟨#[]⟩, 0, 1, st) else (impl_headText.f k a b.1).bind fun t => if (t.size : Int) > 2000 then some ([], ⟨#[]⟩, 0, 5, st) else if 0 ≤ c.1 then some (b.1, (s.extract (e + 4) s.size).extract 0 c.1.toNat, (e : Int) + 4 + c.1, 0, st) else none) else some ([], ⟨#[]⟩, 0, 4, st)) else some ([], ⟨#[]⟩, 0, 3, st)) else some ([], ⟨#[]⟩, 0, 2, st) := by
  intro k
  unfold takeF
  rw [if_pos (by omega), he, if_neg (by omega), if_neg (by omega), if_pos (by omega), hL, ha, Option.bind_some, Int.toNat_natCast]
 have hfs := first_spec s (headLines s) (e + 4) L (by omega) hL hpos (show Ev (fun k => spec_l4Lines.f k s) (headLines s, ((e + 4 : Nat) : Int), 0) from hlines)
 by_cases hg : goodL L = true
 rotate_left
 ·have hgf : goodL L = false := Bool.eq_false_iff.mpr hg
  refine ⟨noReq 2, hfs _ ?_, impl_code s 2 (by decide) ⟨#[]⟩ 0 [] st (Ev.congr (fun k => by rw [hI, if_neg hg]) (Ev.now _)), by decide⟩
  rw [hgf]
  refine Ev.step (f := fun _ => some (noReq 2)) (fun k => ?_) (Ev.now _)
  simp only [spec_TakeRequest.j0]
  rw [if_pos (by rfl)]
  rfl
 obtain ⟨e1, e2⟩ := hgood hg
 subst e1 e2
 obtain ⟨g1, g2, g3, g4⟩ := good_line a hg
 have hsp : ∀ R, Ev (fun k => (spec_l4Rest.f k s ((headLines s).drop 1) ((e + 4 : Nat) : Int)).bind fun bt191 => (if bt191.2.2.2 = 0 then ((spec_GoodRequest.f k (methL a) (targL a) bt191.1 bt191.2.1).bind fun t198 => (if t198 = true then (some (methL a, targL a, bt191.1, bt191.2.1, bt191.2.2.1, 0)) else (some (noReq 5)))) else (some (noReq bt191.2.2.2)))) R → Ev (fun k => spec_TakeRequest.f k s) R := by
  intro R h
  refine hfs R ?_
  rw [hg]
  refine Ev.step (fun k => ?_) h
  simp only [spec_TakeRequest.j0]
  rw [if_neg (by simp), if_pos (by omega)]
  rfl
 simp only [if_pos hg] at hI
 have hmem1 : ∀ x ∈ (headLines s).drop 1, x.size ≤ 1048576 := fun x hx => hmem x (List.mem_of_mem_drop hx)
 have hlen1 : ((headLines s).drop 1).length ≤ 1048577 := by rw [List.length_drop]; omega
 obtain ⟨r1, r2⟩ := rest_spec s (e + 4) ((headLines s).drop 1) (by omega) hes (by omega) (fun y hy => by have := hmem1 y hy; omega)
 have hfi := fieldsI_loop ((headLines s).drop 1) (by omega) (fun y hy => by have := hmem1 y hy; omega) ((headLines s).drop 1).length 0 [] (by omega) (by simp)
 rw [List.drop_zero] at hfi
 generalize hD : (headLines s).drop 1 = D at *
 have hfi2 : Ev (fun k => impl_fieldsOf.f k D) (match fieldT [] D with | some r => (r, true) | none => ([], false)) := hfi
 cases hr : fieldT [] D with
 | none =>
  rw [hr] at hfi2
  refine ⟨noReq 3, hsp _ (Ev.bind (r2 hr) (Ev.congr (f := fun _ => some (noReq 3)) (fun k => by rw [if_neg (by decide)]) (Ev.now _))), impl_code s 3 (by decide) ⟨#[]⟩ 0 [] (methL a, targL a) (Ev.congr (fun k => hI k) (Ev.bind hfi2 (Ev.congr (fun k => by rw [if_neg (by simp)]) (Ev.now _)))), by decide⟩
 | some r =>
  rw [hr] at hfi2
  obtain ⟨q, q1, q2, q3, q4⟩ := r1 r hr
  obtain ⟨h40, hok⟩ := fieldT_ok D [] r 1048576 hmem1 (by simp) (by simp) hr
  have hok' : ∀ f ∈ r, okF f = true ∧ f.f0.size ≤ 100000000 ∧ f.f1.size ≤ 100000000 := fun f hf => by have := hok f hf; exact ⟨this.1, by omega, by omega⟩
  have im : ∀ R, Ev (fun k => if (outI q).2.2 = true then (if (outI q).1 > 300 then some ([], ⟨#[]⟩, 0, 4, (methL a, targL a)) else if ((s.size : Int) - ((e : Int) + 4)) < (outI q).1 then some ([], ⟨#[]⟩, 0, 1, (methL a, targL a)) else (impl_headText.f k a r).bind fun t => if (t.size : Int) > 2000 then some ([], ⟨#[]⟩, 0, 5, (methL a, targL a)) else if 0 ≤ (outI q).1 then some (r, (s.extract (e + 4) s.size).extract 0 (outI q).1.toNat, (e : Int) + 4 + (outI q).1, 0, (methL a, targL a)) else none) else some ([], ⟨#[]⟩, 0, 4, (methL a, targL a))) R → Ev (fun k => takeF tr1.f ((⟨#[]⟩ : ByteArray), (⟨#[]⟩ : ByteArray)) k s) R := by
   intro R h
   refine Ev.congr (fun k => hI k) (Ev.bind hfi2 ?_)
   simp only [if_true]
   exact Ev.bind q2 h
  cases hn : lenN q with
  | none =>
   refine ⟨noReq 4, hsp _ (Ev.bind q4 (Ev.congr (f := fun _ => some (noReq 4)) (fun k => ?_) (Ev.now _))), impl_code s 4 (by decide) ⟨#[]⟩ 0 [] (methL a, targL a) (im _ (Ev.congr (f := fun _ => some ([], ⟨#[]⟩, 0, 4, (methL a, targL a))) (fun k => ?_) (Ev.now _))), by decide⟩
   ·unfold restT
    simp only [hn]
    rw [if_neg (by decide)]
   ·match q, hn with
    | none, _ => rw [if_neg (by simp [outI])]
    | some (some n), hn =>
     have h3 : ¬ n ≤ 300 := fun h => by unfold lenN at hn; simp only [if_pos h] at hn; cases hn
     rw [if_pos (by rfl), if_pos (show (outI (some (some n))).1 > 300 by show (n : Int) > 300; omega)]
  | some n =>
   have ho : (outI q).2.2 = true ∧ (outI q).1 = (n : Int) ∧ n ≤ 300 := by
    match q, hn with
    | some none, hn =>
     have h0 : 0 = n := Option.some.inj hn
     subst h0
     exact ⟨rfl, rfl, by omega⟩
    | some (some m), hn =>
     unfold lenN at hn
     by_cases c : m ≤ 300
     ·simp only [if_pos c] at hn
      have h0 : m = n := Option.some.inj hn
      subst h0
      exact ⟨rfl, rfl, c⟩
     ·simp only [if_neg c] at hn
      cases hn
   rw [ho.1, ho.2.1] at im
   by_cases hsh : s.size < e + 4 + n
   ·refine ⟨noReq 1, hsp _ (Ev.bind q4 (Ev.congr (f := fun _ => some (noReq 1)) (fun k => ?_) (Ev.now _))), impl_code s 1 (by decide) ⟨#[]⟩ 0 [] (methL a, targL a) (im _ (Ev.congr (f := fun _ => some ([], ⟨#[]⟩, 0, 1, (methL a, targL a))) (fun k => ?_) (Ev.now _))), by decide⟩
    ·unfold restT
     simp only [hn, if_pos hsh]
     rw [if_neg (by decide)]
    ·rw [if_pos rfl, if_neg (by omega), if_pos (by omega)]
   ·obtain ⟨T, t1, t2⟩ := head_both a r (by omega) (by omega) (fun f hf => (hok' f hf).2)
    have hgr := good_req (methL a) (targL a) (s.extract (e + 4) (e + 4 + n)) T r n q g1 g2 g3 h40 hok' q1 hn (by rw [ByteArray.size_extract]; omega) (by rw [g4]; exact t1)
    have q5 : restT s (e + 4) r q = (r, s.extract (e + 4) (e + 4 + n), ((e + 4 + n : Nat) : Int), 0) := by
     unfold restT
     simp only [hn, if_neg hsh]
    rw [q5] at q4
    have im2 : ∀ R, Ev (fun k => if (T.size : Int) > 2000 then some ([], ⟨#[]⟩, 0, 5, (methL a, targL a)) else if 0 ≤ (n : Int) then some (r, (s.extract (e + 4) s.size).extract 0 (n : Int).toNat, (e : Int) + 4 + (n : Int), 0, (methL a, targL a)) else none) R → Ev (fun k => takeF tr1.f ((⟨#[]⟩ : ByteArray), (⟨#[]⟩ : ByteArray)) k s) R := by
     intro R h
     refine im R ?_
     refine Ev.congr (fun k => by rw [if_pos rfl, if_neg (by omega), if_neg (by omega)]) (Ev.bind t2 h)
    by_cases hT : (T.size : Int) ≤ 2000
    ·refine ⟨(methL a, targL a, r, s.extract (e + 4) (e + 4 + n), ((e + 4 + n : Nat) : Int), 0), hsp _ (Ev.bind q4 ?_), ?_, h40⟩
     ·rw [decide_eq_true hT] at hgr
      simp only [if_true]
      refine Ev.bind hgr (Ev.congr (fun k => by rw [if_pos rfl]) (Ev.now _))
     ·refine Ev.bind (im2 (r, s.extract (e + 4) (e + 4 + n), ((e + 4 + n : Nat) : Int), 0, (methL a, targL a)) (Ev.congr (fun k => ?_) (Ev.now _))) (Ev.congr (fun k => by rw [if_pos (by rfl)]) (Ev.now _))
      rw [if_neg (by omega), if_pos (by omega), Int.toNat_natCast, ext_ext s (e + 4) s.size 0 n (by omega) (Nat.le_refl _)]
      rw [show (e : Int) + 4 + (n : Int) = ((e + 4 + n : Nat) : Int) by omega]
    ·refine ⟨noReq 5, hsp _ (Ev.bind q4 ?_), impl_code s 5 (by decide) ⟨#[]⟩ 0 [] (methL a, targL a) (im2 _ (Ev.congr (fun k => by rw [if_pos (by omega)]) (Ev.now _))), by decide⟩
     rw [decide_eq_false hT] at hgr
     simp only [if_true]
     exact Ev.bind hgr (Ev.congr (fun k => by rw [if_neg (by simp)]) (Ev.now _))
theorem take_both (s : ByteArray) (hz : s.size ≤ 1048576) : ∃ R, Ev (fun k => spec_TakeRequest.f k s) R ∧ Ev (fun k => impl_TakeRequest.f k s) R ∧ R.2.2.1.length ≤ 40 := by
 have hlines := lines_spec s (by omega)
 unfold cutHead at hlines
 rcases head_cases s with ⟨h1, h2⟩ | ⟨e, h1, h2, h3⟩
 ·rw [h1, if_pos (by omega)] at hlines
  unfold codeT at hlines
  by_cases c : (s.size : Int) > 2000
  ·rw [if_pos c] at hlines
   refine ⟨noReq 5, spec_code s 5 (by decide) hlines, impl_code s 5 (by decide) ⟨#[]⟩ 0 [] (⟨#[]⟩, ⟨#[]⟩) (Ev.congr (fun k => ?_) (Ev.now _)), by decide⟩
   unfold takeF
   rw [if_pos (by omega), h1, if_pos (by omega), if_pos c]
  ·rw [if_neg c] at hlines
   refine ⟨noReq 1, spec_code s 1 (by decide) hlines, impl_code s 1 (by decide) ⟨#[]⟩ 0 [] (⟨#[]⟩, ⟨#[]⟩) (Ev.congr (fun k => ?_) (Ev.now _)), by decide⟩
   unfold takeF
   rw [if_pos (by omega), h1, if_pos (by omega), if_neg c]
 ·by_cases c : e + 4 > 2000
  ·rw [h1, if_neg (by omega), if_pos (by omega)] at hlines
   refine ⟨noReq 5, spec_code s 5 (by decide) hlines, impl_code s 5 (by decide) ⟨#[]⟩ 0 [] (⟨#[]⟩, ⟨#[]⟩) (Ev.congr (fun k => ?_) (Ev.now _)), by decide⟩
   unfold takeF
   rw [if_pos (by omega), h1, if_neg (by omega), if_pos (by omega)]
  ·exact take_head s hz e h1 h2 c

theorem u8_48 (k : Nat) (h : k < 10) : (UInt8.ofNat (48 + k)).toNat = 48 + k := by
 rw [UInt8.toNat_ofNat']
 exact Nat.mod_eq_of_lt (by omega)
theorem dec3 (n : Nat) (h1 : 100 ≤ n) (h2 : n < 1000) : Lib.decDigits n = [UInt8.ofNat (48 + n / 100), UInt8.ofNat (48 + n / 10 % 10), UInt8.ofNat (48 + n % 10)] := by
 rw [Lib.decDigits, dif_neg (by omega), Lib.decDigits_two (by omega) (by omega), show n / 10 / 10 = n / 100 by omega]
 rfl
theorem nv_consg (acc : Nat) (c : UInt8) (r : List UInt8) (p : Nat → Prop) (h : p (nv (acc * 10 + (c.toNat - 48)) r)) : p (nv acc (c :: r)) := h
theorem nv_cons (acc : Nat) (c : UInt8) (r : List UInt8) : nv acc (c :: r) = nv (acc * 10 + (c.toNat - 48)) r := nv_consg acc c r (fun z => z = nv (acc * 10 + (c.toNat - 48)) r) rfl
theorem nv_nilg (acc : Nat) (p : Nat → Prop) (h : p acc) : p (nv acc []) := h
theorem nv_nil (acc : Nat) : nv acc [] = acc := nv_nilg acc (fun z => z = acc) rfl
theorem ar3 (a b c : Nat) : ((0 * 10 + a) * 10 + b) * 10 + c = a * 100 + b * 10 + c := by omega
theorem nv3 (x y z : UInt8) : nv 0 [x, y, z] = (x.toNat - 48) * 100 + (y.toNat - 48) * 10 + (z.toNat - 48) := by
 rw [nv_cons, nv_cons, nv_cons, nv_nil, ar3]
theorem dec3_good (n : Nat) (h1 : 100 ≤ n) (h2 : n < 1000) : (Lib.decDigits n).length = 3 ∧ (Lib.decDigits n).all digU = true ∧ (Lib.decDigits n)[0]? ≠ some 48 ∧ nv 0 (Lib.decDigits n) = n := by
 rw [dec3 n h1 h2]
 have a := u8_48 (n / 100) (by omega)
 have b := u8_48 (n / 10 % 10) (by omega)
 have c := u8_48 (n % 10) (by omega)
 refine ⟨rfl, ?_, ?_, ?_⟩
 ·simp only [List.all_cons, List.all_nil, digU, a, b, c, Bool.and_true, Bool.and_eq_true, decide_eq_true_eq]
  omega
 ·intro h
  have h3 : UInt8.ofNat (48 + n / 100) = 48 := Option.some.inj h
  rw [h3] at a
  have : (48 : UInt8).toNat = 48 := rfl
  omega
 ·rw [nv3, a, b, c]
  omega
theorem back3 (l : List UInt8) (h3 : l.length = 3) (hd : l.all digU = true) (h0 : l[0]? ≠ some 48) : 100 ≤ nv 0 l ∧ nv 0 l < 1000 ∧ Lib.decDigits (nv 0 l) = l := by
 obtain ⟨x, y, z, rfl⟩ : ∃ x y z, l = [x, y, z] := by
  match l, h3 with
  | [x, y, z], _ => exact ⟨x, y, z, rfl⟩
 simp only [List.all_cons, List.all_nil, Bool.and_true, Bool.and_eq_true] at hd
 have hx := dig_u x hd.1
 have hy := dig_u y hd.2.1
 have hz := dig_u z hd.2.2
 have hx0 : x.toNat ≠ 48 := fun h => h0 (by rw [show x = 48 from UInt8.toNat_inj.mp h]; rfl)
 rw [nv3]
 refine ⟨by omega, by omega, ?_⟩
 rw [dec3 _ (by omega) (by omega)]
 have e : ∀ (w : UInt8) (k : Nat), 48 + k = w.toNat → UInt8.ofNat (48 + k) = w := fun w k h => by rw [h, UInt8.ofNat_toNat]
 rw [e x _ (by omega), e y _ (by omega), e z _ (by omega)]
theorem nDigits_le (n : Nat) : Lib.nDigits n ≤ n + 1 := by
 induction n using Nat.strongRecOn with
 | _ n ih =>
  rw [Lib.nDigits]
  split
  ·omega
  ·have := ih (n / 10) (by omega)
   omega
theorem num_is (n : Nat) : n ≤ 1000000 → Ev (fun k => spec_l1Num.f k (n : Int)) ⟨(Lib.decDigits n).toArray⟩ := by
 induction n using Nat.strongRecOn with
 | _ n ih =>
  intro hn
  have hm : ∀ k : Nat, k < 10 → strOfNums (([((48 + (k : Int))) % 256] : List Int)) = ⟨#[UInt8.ofNat (48 + k)]⟩ := by
   intro k hk
   unfold strOfNums
   rw [List.map_cons, List.map_nil, show ((48 + (k : Int)) % 256).toNat = 48 + k by omega]
  by_cases c : n < 10
  ·refine Ev.step (f := fun _ => some (strOfNums (([(wrap64 (48 + (n : Int))) % 256] : List Int)))) (fun k => ?_) ?_
   ·simp only [spec_l1Num.f]; rw [if_pos (by omega)]
   ·rw [w64 (x := 48 + (n : Int)) (by omega) (by omega), hm n c, Lib.decDigits, dif_pos c]
    exact Ev.now _
  ·have h1 := ih (n / 10) (by omega) (by omega)
   have hq : wrap64 (Int.tdiv (n : Int) 10) = ((n / 10 : Nat) : Int) := by
    rw [show Int.tdiv (n : Int) 10 = ((n / 10 : Nat) : Int) from by rw [Int.tdiv_eq_ediv_of_nonneg (by omega)]; omega]
    unfold wrap64; omega
   have hr : wrap64 (48 + (Int.tmod (n : Int) 10)) = 48 + ((n % 10 : Nat) : Int) := by
    rw [show Int.tmod (n : Int) 10 = ((n % 10 : Nat) : Int) from by rw [Int.tmod_eq_emod_of_nonneg (by omega)]; omega]
    unfold wrap64; omega
   have hsz : (⟨(Lib.decDigits (n / 10)).toArray⟩ : ByteArray).size ≤ 1000001 := by
    show (Lib.decDigits (n / 10)).toArray.size ≤ _
    rw [List.size_toArray, Lib.decDigits_length]
    have := nDigits_le (n / 10)
    omega
   refine Ev.step (f := fun k => (spec_l1Num.f k ((n / 10 : Nat) : Int)).bind fun t => ((some ([(wrap64 (48 + (Int.tmod (n : Int) 10))) % 256] : List Int)).bind fun y => (if t.size + (strOfNums y).size ≤ 9223372036854775807 then (some (t ++ (strOfNums y))) else (none)))) (fun k => ?_) (Ev.bind h1 ?_)
   ·simp only [spec_l1Num.f]
    rw [if_neg (by omega), hq]
   ·rw [hr, Option.bind_some, hm (n % 10) (by omega)]
    refine Ev.congr (f := fun _ => some (⟨(Lib.decDigits n).toArray⟩ : ByteArray)) (fun k => ?_) (Ev.now _)
    rw [if_pos (by rw [size_lit1]; omega)]
    refine congrArg some (ba_ext ?_)
    rw [ByteArray.data_append, Array.toList_append, data_mk, data_mk, Lib.decDigits.eq_def n, dif_neg c]
/-- What l1Int reads. -/
def intC (s : ByteArray) : Prop := 1 ≤ s.size ∧ s.size ≤ 9 ∧ s.data.toList.all digU = true ∧ ¬ (bt s 0 = 48 ∧ s.size > 1)
instance (s : ByteArray) : Decidable (intC s) := by unfold intC; infer_instance
def intT (s : ByteArray) : Int := if intC s then ((nv 0 s.data.toList : Nat) : Int) else -1
theorem int_step (s : ByteArray) (hz : s.size ≤ 9) (i : Nat) (acc : Int) (hlt : i < s.data.toList.length) : ∀ k, spec_l1Int.l0 (k + 1) s acc (i : Int) = if digU (s.data.toList[i]) = true then spec_l1Int.l0 k s (wrap64 (wrap64 (10 * acc) + ((bt s (i : Int) - 48) % 256))) ((i + 1 : Nat) : Int) else some (-1) := by
 intro k
 have hb := bt_at s i hlt
 have hi : i < s.size := by rw [data_length] at hlt; exact hlt
 have w1 : wrap64 ((i : Int) + 1) = ((i + 1 : Nat) : Int) := w2 (Nat.le_of_lt hi) (by omega) 1 (by omega)
 simp only [spec_l1Int.l0]
 rw [if_pos (by omega), if_pos (by omega), w1, hb, ← dig_u2]
 unfold digI
 by_cases c1 : ((s.data.toList[i]).toNat : Int) < 48
 ·rw [if_pos c1, decide_eq_false (by omega), Bool.false_and, if_neg Bool.false_ne_true]
 ·rw [if_neg c1, decide_eq_true (by omega), Bool.true_and]
  by_cases c2 : ((s.data.toList[i]).toNat : Int) > 57
  ·rw [if_pos c2, decide_eq_false (by omega), if_neg Bool.false_ne_true]
  ·rw [if_neg c2, decide_eq_true (by omega), if_pos rfl]
theorem int_bad (s : ByteArray) (hz : s.size ≤ 9) : ∀ (d i : Nat) (acc : Int), i + d = s.size → (s.data.toList.drop i).all digU = false → Ev (fun k => spec_l1Int.l0 k s acc (i : Int)) (-1) := by
 intro d
 induction d with
 | zero =>
  intro i acc hi h
  rw [List.drop_of_length_le (by rw [data_length]; omega)] at h; cases h
 | succ d ih =>
  intro i acc hi h
  have hlt : i < s.data.toList.length := by rw [data_length]; omega
  rw [List.drop_eq_getElem_cons hlt, List.all_cons] at h
  cases c : digU (s.data.toList[i]) with
  | true =>
   rw [c, Bool.true_and] at h
   exact Ev.step (fun k => by rw [int_step s hz i acc hlt, if_pos c]) (ih (i + 1) _ (by omega) h)
  | false => exact Ev.step (f := fun _ => some (-1)) (fun k => by rw [int_step s hz i acc hlt, if_neg (by rw [c]; exact Bool.false_ne_true)]) (Ev.now _)
theorem int_val (s : ByteArray) (hz : s.size ≤ 9) : ∀ (d i acc a : Nat), i + d = s.size → (s.data.toList.drop i).all digU = true → acc < p10 a → a + d ≤ 9 →
  Ev (fun k => spec_l1Int.l0 k s (acc : Int) (i : Int)) ((nv acc (s.data.toList.drop i) : Nat) : Int) := by
 intro d
 induction d with
 | zero =>
  intro i acc a hi _ _ _
  rw [List.drop_of_length_le (by rw [data_length]; omega)]
  refine Ev.step (f := fun _ => some (acc : Int)) (fun k => ?_) (Ev.now _)
  simp only [spec_l1Int.l0]
  rw [if_neg (by omega)]
 | succ d ih =>
  intro i acc a hi hd ha hl
  have hlt : i < s.data.toList.length := by rw [data_length]; omega
  have hb := bt_at s i hlt
  rw [List.drop_eq_getElem_cons hlt] at hd ⊢
  rw [List.all_cons, Bool.and_eq_true] at hd
  have h1 : acc * 10 + ((s.data.toList[i]).toNat - 48) < p10 (a + 1) := nv_step _ acc _ hd.1 ha
  have h2 := ten9 (a + 1) _ (by omega) h1
  have h3 := ih (i + 1) (acc * 10 + ((s.data.toList[i]).toNat - 48)) (a + 1) (by omega) hd.2 h1 (by omega)
  have hc := dig_u _ hd.1
  refine Ev.step (fun k => ?_) h3
  rw [int_step s hz i acc hlt, if_pos hd.1, hb]
  exact congrArg (fun z => spec_l1Int.l0 k s z ((i + 1 : Nat) : Int)) (num_w acc _ h2 hc)
theorem int_spec (s : ByteArray) (hz : s.size ≤ 1125899906842624) : Ev (fun k => spec_l1Int.f k s) (intT s) := by
 have hj1 : Ev (fun k => spec_l1Int.j0 k s true) (-1) := Ev.step (f := fun _ => some (-1)) (fun k => by simp only [spec_l1Int.j0]; rw [if_pos trivial]) (Ev.now _)
 unfold spec_l1Int.f intT
 simp only [l1In_is, Option.bind_some]
 by_cases c1 : 1 ≤ s.size ∧ s.size ≤ 9
 rotate_left
 ·rw [if_neg (fun h => c1 ⟨h.1, h.2.1⟩)]
  refine Ev.congr (fun k => ?_) hj1
  rw [if_neg]
  intro h
  rw [Bool.and_eq_true] at h
  have h1 := of_decide_eq_true h.1
  have h2 := of_decide_eq_true h.2
  exact c1 ⟨by omega, by omega⟩
 have hb : (decide ((1 : Int) ≤ (s.size : Int)) && decide ((s.size : Int) ≤ 9)) = true := by rw [decide_eq_true (by omega), decide_eq_true (by omega)]; rfl
 simp only [hb, if_true]
 by_cases c2 : bt s 0 = 48 ∧ s.size > 1
 ·rw [if_neg (fun h => h.2.2.2 c2)]
  refine Ev.congr (fun k => ?_) hj1
  rw [if_pos (by omega), if_pos c2.1, decide_eq_true (by omega)]
 have hl : ∀ r, Ev (fun k => spec_l1Int.l0 k s 0 0) r → Ev (fun k => if 0 < (s.size : Int) then (if bt s 0 = 48 then spec_l1Int.j0 k s (decide ((s.size : Int) > 1)) else spec_l1Int.j0 k s false) else none) r := by
  intro r h
  refine Ev.congr (f := fun k => spec_l1Int.j0 k s false) (fun k => ?_) (Ev.step (fun k => by simp only [spec_l1Int.j0]; rw [if_neg (by simp)]) h)
  rw [if_pos (by omega)]
  by_cases e : bt s 0 = 48
  ·rw [if_pos e, decide_eq_false (fun h => c2 ⟨e, by omega⟩)]
  ·rw [if_neg e]
 refine hl _ ?_
 by_cases c3 : s.data.toList.all digU = true
 ·rw [if_pos ⟨c1.1, c1.2, c3, c2⟩]
  have h := int_val s c1.2 s.size 0 0 0 (by omega) (by rw [List.drop_zero]; exact c3) Nat.one_pos (by omega)
  rw [List.drop_zero] at h
  exact h
 ·rw [if_neg (fun h => c3 h.2.2.1)]
  exact int_bad s c1.2 s.size 0 0 (by omega) (by rw [List.drop_zero]; exact Bool.eq_false_iff.mpr c3)
theorem bt0_get (s : ByteArray) (h : 1 ≤ s.size) : bt s 0 = 48 ↔ s.data.toList[0]? = some 48 := bt_get s 0 48 (by omega)
theorem atoi_range (s : ByteArray) : (-9223372036854775808 ≤ atoiN s ∧ atoiN s ≤ 9223372036854775807) ∨ atoiF s = true := by
 unfold atoiN atoiF
 cases h : Lib.atoiAll s.data.toList with
 | ok v =>
  refine Or.inl ?_
  simp only
  cases hl : s.data.toList with
  | nil => rw [hl] at h; cases h
  | cons c r =>
   rw [hl] at h
   simp only [Lib.atoiAll] at h
   generalize Lib.parseMag (if c.toNat = 43 ∨ c.toNat = 45 then r else c :: r) = m at h
   cases m with
   | «syntax» => cases h
   | range => cases h
   | ok u =>
    simp only at h
    by_cases h1 : ¬ c.toNat = 45 ∧ 9223372036854775808 ≤ u
    ·rw [if_pos h1] at h; cases h
    ·rw [if_neg h1] at h
     by_cases h2 : c.toNat = 45 ∧ 9223372036854775808 < u
     ·rw [if_pos h2] at h; cases h
     ·rw [if_neg h2] at h
      by_cases h3 : c.toNat = 45
      ·rw [if_pos h3] at h
       cases h
       omega
      ·rw [if_neg h3] at h
       cases h
       omega
 | range => exact Or.inr rfl
 | «syntax» => exact Or.inr rfl
/-- What number tells of a text. -/
def numOk (s : ByteArray) : Bool := !atoiF s && (decide ((Lib.itoa (atoiN s)) = s.data.toList) && decide (atoiN s ≥ 0))
theorem number_is (s : ByteArray) (hz : s.size ≤ 281474976710656) : impl_number.f s = some (atoiN s, numOk s) := by
 unfold impl_number.f strconv_Atoi.f numOk
 rw [if_pos hz, Option.bind_some]
 rcases atoi_range s with h | h
 ·cases hf : atoiF s with
  | true => rw [if_neg (by simp)]; rfl
  | false =>
   rw [if_pos (by rfl)]
   unfold strconv_Itoa.f
   rw [if_pos h, Option.bind_some, ByteArray.toList_eq, ByteArray.toList_eq, data_mk]
   by_cases c : Lib.itoa (atoiN s) = s.data.toList
   ·rw [if_pos c, decide_eq_true c]; rfl
   ·rw [if_neg c, decide_eq_false c]; rfl
 ·rw [h, if_neg (by simp)]; rfl
theorem itoa_nat (n : Nat) : Lib.itoa (n : Int) = Lib.decDigits n := by
 unfold Lib.itoa
 rw [if_neg (by omega), Int.toNat_natCast]
/-- Both readings of a status. -/
theorem status_both (s : ByteArray) : (numOk s = true ∧ 100 ≤ atoiN s ∧ atoiN s ≤ 599) ↔ (s.size = 3 ∧ 100 ≤ intT s ∧ intT s ≤ 599) := by
 constructor
 ·rintro ⟨h1, h2, h3⟩
  unfold numOk at h1
  rw [Bool.and_eq_true, Bool.and_eq_true] at h1
  have h4 := of_decide_eq_true h1.2.1
  obtain ⟨n, hn⟩ : ∃ n : Nat, atoiN s = (n : Int) := ⟨(atoiN s).toNat, by omega⟩
  rw [hn] at h2 h3 h4
  rw [itoa_nat] at h4
  obtain ⟨g1, g2, g3, g4⟩ := dec3_good n (by omega) (by omega)
  rw [h4] at g1 g2 g3 g4
  have hs : s.size = 3 := by rw [← data_length]; exact g1
  have hi : intT s = (n : Int) := by
   unfold intT
   rw [if_pos ⟨by omega, by omega, g2, fun h => g3 ((bt0_get s (by omega)).mp h.1)⟩, g4]
  rw [hi]
  exact ⟨hs, by omega, by omega⟩
 ·rintro ⟨h1, h2, h3⟩
  have hc : intC s := by
   by_cases h : intC s
   ·exact h
   ·unfold intT at h2; rw [if_neg h] at h2; omega
  have hi : intT s = ((nv 0 s.data.toList : Nat) : Int) := by unfold intT; rw [if_pos hc]
  obtain ⟨a1, a2⟩ := atoi_ok s hc.1 hc.2.1 hc.2.2.1
  obtain ⟨b1, b2, b3⟩ := back3 s.data.toList (by rw [data_length]; exact h1) hc.2.2.1 (fun h => hc.2.2.2 ⟨(bt0_get s (by omega)).mpr h, by omega⟩)
  refine ⟨?_, by rw [a2, ← hi]; exact h2, by rw [a2, ← hi]; exact h3⟩
  unfold numOk
  rw [a1, a2, itoa_nat, b3, decide_eq_true rfl, decide_eq_true (by omega)]
  rfl
theorem status_val (s : ByteArray) (h1 : s.size = 3) (h2 : 100 ≤ intT s) : atoiN s = intT s ∧ (∃ n : Nat, intT s = (n : Int) ∧ n < 1000 ∧ (⟨(Lib.decDigits n).toArray⟩ : ByteArray) = s) := by
 have hc : intC s := by
  by_cases h : intC s
  ·exact h
  ·unfold intT at h2; rw [if_neg h] at h2; omega
 have hi : intT s = ((nv 0 s.data.toList : Nat) : Int) := by unfold intT; rw [if_pos hc]
 obtain ⟨a1, a2⟩ := atoi_ok s hc.1 hc.2.1 hc.2.2.1
 obtain ⟨b1, b2, b3⟩ := back3 s.data.toList (by rw [data_length]; exact h1) hc.2.2.1 (fun h => hc.2.2.2 ⟨(bt0_get s (by omega)).mpr h, by omega⟩)
 refine ⟨by rw [a2, hi], nv 0 s.data.toList, hi, b2, ba_ext ?_⟩
 rw [data_mk, b3]

abbrev verP : ByteArray := ⟨#[72, 84, 84, 80, 47, 49, 46, 49, 32]⟩
theorem size_lit9 : verP.size = 9 := rfl
/-- A line's front, in both ways. -/
theorem pre_both (L : ByteArray) : (Lib.hasPrefix L.data.toList verP.data.toList = true ∧ ∃ b : ByteArray, cutT L ⟨#[32]⟩ = (⟨verL.toArray⟩, b, true) ∧ (⟨(Lib.trimPrefix L.data.toList verP.data.toList).toArray⟩ : ByteArray) = b ∧ L = verP ++ b) ∨
  (Lib.hasPrefix L.data.toList verP.data.toList = false ∧ ¬ ((cutT L ⟨#[32]⟩).2.2 = true ∧ (cutT L ⟨#[32]⟩).1.toList = verL)) := by
 cases h : Lib.hasPrefix L.data.toList verP.data.toList with
 | true =>
  refine Or.inl ⟨rfl, ?_⟩
  have h1 : verP.data.toList <+: L.data.toList := List.isPrefixOf_iff_prefix.mp h
  obtain ⟨X, hX⟩ := h1
  have hD : L.data.toList = verL ++ 32 :: X := by rw [← hX]; rfl
  have hsz : L.size = 9 + X.length := by rw [← data_length, hD]; simp [verL]; omega
  have hc := cut_at L 32 8 (by omega) (by rw [hD]; rfl) (fun j hj h2 => by
   rw [hD, List.getElem?_append_left (by show j < 8; exact hj)] at h2
   have h3 : (32 : UInt8) ∈ verL := List.mem_of_getElem? h2
   exact absurd h3 (by decide))
  refine ⟨L.extract 9 L.size, ?_, ?_, ?_⟩
  ·rw [hc]
   refine Prod.ext (ba_ext ?_) rfl
   show (L.extract 0 8).data.toList = verL
   rw [Lib.extract_from_zero, hD]
   rfl
  ·apply ba_ext
   rw [data_mk, Lib.extract_to_end]
   unfold Lib.trimPrefix
   rw [if_pos h]
   rfl
  ·apply ba_ext
   rw [ByteArray.data_append, Array.toList_append, Lib.extract_to_end, hD]
   rfl
 | false =>
  refine Or.inr ⟨rfl, fun h2 => ?_⟩
  rcases cut_cases L 32 with ⟨k1, _, _⟩ | ⟨a, b, k1, _, k3, _, _⟩
  ·rw [k1] at h2; exact absurd h2.1 (by simp)
  ·rw [k1] at h2
   have h3 : a.data.toList = verL := by rw [← ByteArray.toList_eq]; exact h2.2
   have h4 : Lib.hasPrefix L.data.toList verP.data.toList = true := by
    unfold Lib.hasPrefix
    rw [List.isPrefixOf_iff_prefix, k3, h3]
    exact ⟨b.data.toList, rfl⟩
   rw [h] at h4; cases h4
def statL (L : ByteArray) : ByteArray := (cutT (cutT L ⟨#[32]⟩).2.1 ⟨#[32]⟩).1
def reasL (L : ByteArray) : ByteArray := (cutT (cutT L ⟨#[32]⟩).2.1 ⟨#[32]⟩).2.1
def goodS (L : ByteArray) : Bool :=
 (cutT L ⟨#[32]⟩).2.2 && ((cutT (cutT L ⟨#[32]⟩).2.1 ⟨#[32]⟩).2.2 && (decide ((cutT L ⟨#[32]⟩).1.toList = verL) && (decide (((cutT (cutT L ⟨#[32]⟩).2.1 ⟨#[32]⟩).1.size : Int) = 3) && ((decide (100 ≤ intT (cutT (cutT L ⟨#[32]⟩).2.1 ⟨#[32]⟩).1) && decide (intT (cutT (cutT L ⟨#[32]⟩).2.1 ⟨#[32]⟩).1 ≤ 599)) && (prT (cutT (cutT L ⟨#[32]⟩).2.1 ⟨#[32]⟩).2.1 && decide (((cutT (cutT L ⟨#[32]⟩).2.1 ⟨#[32]⟩).2.1.size : Int) ≤ 40))))))
theorem respline (n : Int) (t : ByteArray) (ht : t.size ≤ 1125899906842624) : impl_isResponseLine.f n t [] ⟨#[]⟩ = some ((decide (100 ≤ n) && decide (n ≤ 599)) && (decide ((t.size : Int) ≤ 40) && prT t)) := by
 unfold impl_isResponseLine.f
 rw [within_is, Option.bind_some]
 cases (decide (100 ≤ n) && decide (n ≤ 599)) with
 | false => rw [if_neg (by simp)]; rfl
 | true => rw [if_pos rfl, pr_impl t 40 ht, Option.bind_some]; rfl
theorem tr2_is (L : ByteArray) (hz : L.size ≤ 1000000000) : ∃ n t, tr2.f L = some (L, goodS L, n, t) ∧ (goodS L = true → n = intT (statL L) ∧ t = reasL L) := by
 have htp : ∀ l p : List UInt8, (Lib.trimPrefix l p).length ≤ l.length := by
  intro l p
  unfold Lib.trimPrefix
  split
  ·rw [List.length_drop]; omega
  ·exact Nat.le_refl _
 have hrz : (⟨(Lib.trimPrefix L.data.toList verP.data.toList).toArray⟩ : ByteArray).size ≤ 1000000000 := by
  show (Lib.trimPrefix L.data.toList verP.data.toList).toArray.size ≤ _
  rw [List.size_toArray]
  have := htp L.data.toList verP.data.toList
  rw [data_length] at this
  omega
 obtain ⟨r, hr⟩ : ∃ r : ByteArray, r = ⟨(Lib.trimPrefix L.data.toList verP.data.toList).toArray⟩ := ⟨_, rfl⟩
 have hc := cut_size r 32
 have e1 : tr2.f L = if Lib.hasPrefix L.data.toList verP.data.toList = true then (if (cutT r ⟨#[32]⟩).2.2 = true then (if numOk (cutT r ⟨#[32]⟩).1 = true then ((impl_isResponseLine.f (atoiN (cutT r ⟨#[32]⟩).1) (cutT r ⟨#[32]⟩).2.1 [] ⟨#[]⟩).bind fun b => some (L, b, atoiN (cutT r ⟨#[32]⟩).1, (cutT r ⟨#[32]⟩).2.1)) else some (L, false, atoiN (cutT r ⟨#[32]⟩).1, (cutT r ⟨#[32]⟩).2.1)) else some (L, false, atoiN (cutT r ⟨#[32]⟩).1, (cutT r ⟨#[32]⟩).2.1)) else some (L, false, atoiN (cutT r ⟨#[32]⟩).1, (cutT r ⟨#[32]⟩).2.1) := by
  unfold tr2.f strings_CutPrefix.f
  rw [Option.bind_some]
  simp only
  rw [← hr]
  unfold strings_Cut.f
  rw [if_pos (by rw [← hr] at hrz; omega), Option.bind_some, number_is _ (by rw [← hr] at hrz; omega), Option.bind_some]
 rw [← hr] at hrz
 rcases pre_both L with ⟨p1, b, p2, p3, p4⟩ | ⟨p1, p2⟩
 ·have hb : b = r := by rw [hr, ← p3]
  subst hb
  rw [e1, if_pos p1]
  unfold goodS statL reasL
  rw [p2]
  simp only [Bool.true_and]
  generalize cutT b ⟨#[32]⟩ = C at hc
  obtain ⟨s, t, o⟩ := C
  simp only at hc ⊢
  cases o with
  | false => exact ⟨_, _, rfl, fun h => by simp at h⟩
  | true =>
   rw [if_pos rfl, Bool.true_and, show decide ((⟨verL.toArray⟩ : ByteArray).toList = verL) = true by rw [ByteArray.toList_eq]; decide, Bool.true_and]
   by_cases hs : s.size = 3 ∧ 100 ≤ intT s ∧ intT s ≤ 599
   ·obtain ⟨n1, n2, n3⟩ := (status_both s).mpr hs
    obtain ⟨v1, _⟩ := status_val s hs.1 hs.2.1
    rw [if_pos n1, respline _ _ (by omega), Option.bind_some]
    refine ⟨_, _, ?_, fun _ => ⟨v1, rfl⟩⟩
    rw [decide_eq_true n2, decide_eq_true n3, decide_eq_true (show ((s.size : Nat) : Int) = 3 by omega), decide_eq_true hs.2.1, decide_eq_true hs.2.2]
    simp only [Bool.true_and]
    rw [Bool.and_comm]
   ·have hgf : (decide ((s.size : Int) = 3) && ((decide (100 ≤ intT s) && decide (intT s ≤ 599)) && (prT t && decide ((t.size : Int) ≤ 40)))) = false := by
     rw [Bool.eq_false_iff]
     intro h
     simp only [Bool.and_eq_true, decide_eq_true_eq] at h
     exact hs ⟨by omega, h.2.1.1, h.2.1.2⟩
    rw [hgf]
    by_cases n1 : numOk s = true
    ·rw [if_pos n1, respline _ _ (by omega), Option.bind_some]
     have hf : (decide (100 ≤ atoiN s) && decide (atoiN s ≤ 599)) = false := by
      rw [Bool.eq_false_iff]
      intro h
      rw [Bool.and_eq_true, decide_eq_true_eq, decide_eq_true_eq] at h
      exact hs ((status_both s).mp ⟨n1, h.1, h.2⟩)
     rw [hf, Bool.false_and]
     exact ⟨_, _, rfl, fun h => by cases h⟩
    ·rw [if_neg n1]
     exact ⟨_, _, rfl, fun h => by cases h⟩
 ·rw [e1, if_neg (by rw [p1]; exact Bool.false_ne_true)]
  have hgf : goodS L = false := by
   rw [Bool.eq_false_iff]
   intro h
   unfold goodS at h
   simp only [Bool.and_eq_true, decide_eq_true_eq] at h
   exact p2 ⟨h.1, h.2.2.1⟩
  rw [hgf]
  exact ⟨_, _, rfl, fun h => by cases h⟩
def firstR (s t : ByteArray) : ByteArray := ((verP ++ s) ++ (⟨#[32]⟩ : ByteArray)) ++ t
theorem good_lineR (L : ByteArray) (h : goodS L = true) : (statL L).size = 3 ∧ 100 ≤ intT (statL L) ∧ intT (statL L) ≤ 599 ∧ prT (reasL L) = true ∧ (reasL L).size ≤ 40 ∧ firstR (statL L) (reasL L) = L := by
 have h0 := h
 unfold goodS at h
 simp only [Bool.and_eq_true, decide_eq_true_eq] at h
 obtain ⟨h1, h2, h3, h4, ⟨h5, h6⟩, h7, h8⟩ := h
 refine ⟨by unfold statL; omega, h5, h6, h7, by unfold reasL; omega, ?_⟩
 unfold firstR statL reasL
 rcases pre_both L with ⟨p1, b, p2, p3, p4⟩ | ⟨p1, p2⟩
 ·rw [p2] at h2 ⊢
  simp only at h2 ⊢
  rcases cut_cases b 32 with ⟨k1, _, _⟩ | ⟨s, t, k1, _, k3, _, _⟩
  ·rw [k1] at h2; cases h2
  ·rw [k1]
   simp only
   rw [p4]
   apply ba_ext
   simp only [ByteArray.data_append, Array.toList_append, k3, List.append_assoc]
   rfl
 ·exact absurd ⟨h1, h3⟩ p2
theorem reason_spec (t : ByteArray) (hz : t.size ≤ 1125899906842624) : Ev (fun k => spec_l4Reason.f k t) (prT t && decide ((t.size : Int) ≤ 40)) := by
 refine Ev.bind (pr_spec t hz) ?_
 cases prT t with
 | true => exact Ev.congr (fun k => by rw [if_pos rfl, Bool.true_and]) (Ev.now _)
 | false => exact Ev.congr (fun k => by rw [if_neg (by simp), Bool.false_and]) (Ev.now _)
theorem firstR_spec (s : ByteArray) (l : List ByteArray) (e : Nat) (L : ByteArray) (hz : L.size ≤ 1000000000) (hl : rdOf ByteArray.empty l 0 = L) (hp : 0 < l.length) (h : Ev (fun k => spec_l4Lines.f k s) (l, (e : Int), 0)) (R : Int × ByteArray × List S75 × ByteArray × Int × Int)
  (h1 : Ev (fun k => spec_TakeResponse.j0 k s l (e : Int) (!goodS L) (intT (statL L)) (reasL L) ⟨#[]⟩) R) : Ev (fun k => spec_TakeResponse.f k s) R := by
 unfold spec_TakeResponse.f
 refine Ev.bind h ?_
 have hc := cut_size L 32
 have hd := cut_size (cutT L ⟨#[32]⟩).2.1 32
 refine Ev.congr (f := fun k => (spec_l1Cut.f k L 32).bind fun bt187 => ((spec_l1Cut.f k bt187.2.1 32).bind fun bt190 => ((spec_l1Int.f k bt190.1).bind fun t193 => (if bt187.2.2 = true then (if bt190.2.2 = true then (if bt187.1.toList = ([72, 84, 84, 80, 47, 49, 46, 49] : List UInt8) then (if (bt190.1.size : Int) = 3 then ((spec_l1In.f t193 100 599).bind fun t195 => (if t195 = true then ((spec_l4Reason.f k bt190.2.1).bind fun t196 => (spec_TakeResponse.j0 k s l (e : Int) (!t196) t193 bt190.2.1 (⟨#[]⟩ : ByteArray))) else (spec_TakeResponse.j0 k s l (e : Int) true t193 bt190.2.1 (⟨#[]⟩ : ByteArray)))) else (spec_TakeResponse.j0 k s l (e : Int) true t193 bt190.2.1 (⟨#[]⟩ : ByteArray))) else (spec_TakeResponse.j0 k s l (e : Int) true t193 bt190.2.1 (⟨#[]⟩ : ByteArray))) else (spec_TakeResponse.j0 k s l (e : Int) true t193 bt190.2.1 (⟨#[]⟩ : ByteArray))) else (spec_TakeResponse.j0 k s l (e : Int) true t193 bt190.2.1 (⟨#[]⟩ : ByteArray)))))) (fun k => by simp only [hl]; rw [if_pos trivial, if_pos (by omega)]) ?_
 refine Ev.bind (cut_spec L 32 32 rfl (by omega)) (Ev.bind (cut_spec _ 32 32 rfl (by omega)) (Ev.bind (int_spec _ (by omega)) ?_))
 simp only [goodS, statL, reasL] at h1
 generalize cutT L ⟨#[32]⟩ = C at *
 generalize cutT C.2.1 ⟨#[32]⟩ = D at *
 obtain ⟨v, r, o1⟩ := C
 obtain ⟨t, u, o2⟩ := D
 simp only at *
 cases o1 with
 | false => exact Ev.congr (fun k => by rw [if_neg (by simp)]) (by simpa using h1)
 | true =>
  cases o2 with
  | false => exact Ev.congr (fun k => by rw [if_pos rfl, if_neg (by simp)]) (by simpa using h1)
  | true =>
   by_cases c : v.toList = verL
   rotate_left
   ·rw [decide_eq_false c] at h1
    exact Ev.congr (fun k => by rw [if_pos rfl, if_pos rfl, if_neg c]) (by simpa using h1)
   rw [decide_eq_true c] at h1
   by_cases c3 : (t.size : Int) = 3
   rotate_left
   ·rw [decide_eq_false c3] at h1
    exact Ev.congr (fun k => by rw [if_pos rfl, if_pos rfl, if_pos c, if_neg c3]) (by simpa using h1)
   rw [decide_eq_true c3] at h1
   simp only [Bool.true_and] at h1
   refine Ev.congr (f := fun k => if (decide (100 ≤ intT t) && decide (intT t ≤ 599)) = true then ((spec_l4Reason.f k u).bind fun t196 => (spec_TakeResponse.j0 k s l (e : Int) (!t196) (intT t) u (⟨#[]⟩ : ByteArray))) else (spec_TakeResponse.j0 k s l (e : Int) true (intT t) u (⟨#[]⟩ : ByteArray))) (fun k => by rw [if_pos rfl, if_pos rfl, if_pos c, if_pos c3, l1In_is, Option.bind_some]) ?_
   cases hb : (decide (100 ≤ intT t) && decide (intT t ≤ 599)) with
   | false =>
    rw [hb] at h1
    exact Ev.congr (fun k => by rw [if_neg (by simp)]) (by simpa using h1)
   | true =>
    rw [hb, Bool.true_and] at h1
    simp only [if_true]
    exact Ev.bind (reason_spec u (by omega)) h1
theorem good_resp (n : Int) (st t b R : ByteArray) (l : List S75) (m : Nat) (q : Option (Option Nat)) (h1 : st.size = 3) (h2 : 100 ≤ intT st) (h3 : intT st ≤ 599) (hn0 : n = intT st) (ht : prT t = true) (ht1 : t.size ≤ 40) (hl : l.length ≤ 40) (hs : ∀ f ∈ l, okF f = true ∧ f.f0.size ≤ 100000000 ∧ f.f1.size ≤ 100000000) (hq : Ev (fun k => spec_l4Length.f k l) (outS q)) (hn : lenN q = some m) (hb : b.size = m)
  (hR : Ev (fun k => spec_l4Head.f k (firstR st t) l) R) : Ev (fun k => spec_GoodResponse.f k n t l b) (decide ((R.size : Int) ≤ 2000)) := by
 subst hn0
 obtain ⟨_, k, hk, hk2, hk3⟩ := status_val st h1 h2
 have hnum := num_is k (by omega)
 rw [hk3] at hnum
 rw [← hk] at hnum
 have hr := reason_spec t (by omega)
 rw [ht, decide_eq_true (by omega), Bool.true_and] at hr
 have h4 : Ev (fun k => spec_l3Fields.f k l) true := fields_loop l hl hs l.length 0 (by omega)
 unfold spec_GoodResponse.f
 simp only [l1In_is, Option.bind_some]
 rw [decide_eq_true h2, decide_eq_true h3]
 simp only [Bool.true_and, if_true]
 refine Ev.bind hr ?_
 simp only [if_true]
 refine Ev.bind h4 ?_
 simp only [if_true]
 refine Ev.bind (framed l b m q hl hs hq hn hb) ?_
 simp only [if_true]
 have hst : Ev (fun k => spec_l4Status.f k (intT st) t l b) (firstR st t) := by
  refine Ev.bind hnum (Ev.congr (f := fun _ => some (firstR st t)) (fun k => ?_) (Ev.now _))
  have z1 : (verP ++ st).size = 12 := by rw [ByteArray.size_append, size_lit9, h1]
  have z2 : ((verP ++ st) ++ (⟨#[32]⟩ : ByteArray)).size = 13 := by rw [ByteArray.size_append, z1]; rfl
  rw [if_pos (by omega), if_pos (by show (verP ++ st).size + 1 ≤ _; omega), if_pos (by show ((verP ++ st) ++ (⟨#[32]⟩ : ByteArray)).size + t.size ≤ _; omega)]
  rfl
 exact Ev.bind hst (Ev.bind hR (Ev.now _))

abbrev RespT := Int × ByteArray × List S75 × ByteArray × Int × Int
def noResp (c : Int) : RespT := ((0 : Int), (⟨#[]⟩ : ByteArray), ([] : List S75), (⟨#[]⟩ : ByteArray), 0, c)
theorem spec_codeR (s : ByteArray) (c : Int) (hc : c ≠ 0) (h : Ev (fun k => spec_l4Lines.f k s) ([], 0, c)) : Ev (fun k => spec_TakeResponse.f k s) (noResp c) := by
 refine Ev.bind h (Ev.congr (f := fun _ => some (noResp c)) (fun k => ?_) (Ev.now _))
 rw [if_neg hc]
 rfl
theorem impl_codeR (s : ByteArray) (c : Int) (hc : c ≠ 0) (b : ByteArray) (n : Int) (l : List S75) (st : Int × ByteArray) (h : Ev (fun k => takeF tr2.f ((0 : Int), (⟨#[]⟩ : ByteArray)) k s) (l, b, n, c, st)) : Ev (fun k => impl_TakeResponse.f k s) (noResp c) := by
 refine Ev.bind h (Ev.congr (f := fun _ => some (noResp c)) (fun k => ?_) (Ev.now _))
 rw [if_neg hc]
 rfl
/-- What the head tells, past the lines. -/
theorem take_headR (s : ByteArray) (hz : s.size ≤ 1048576) (e : Nat) (he : headEnd s = (e : Int)) (hc : ccAt s e) (h2000 : ¬ e + 4 > 2000) :
  ∃ R, Ev (fun k => spec_TakeResponse.f k s) R ∧ Ev (fun k => impl_TakeResponse.f k s) R ∧ R.2.2.1.length ≤ 40 := by
 have hes : e + 4 ≤ s.size := by have := hc.2.1; omega
 have hlines := lines_spec s (by omega)
 unfold cutHead at hlines
 rw [he, if_neg (by omega), if_neg (by omega)] at hlines
 have hpos : 0 < (headLines s).length := split_pos _
 have hmem : ∀ x ∈ headLines s, x.size ≤ 1048576 := fun x hx => by
  have := split_mem crlf _ _ x hx
  rw [ByteArray.size_extract] at this
  omega
 have hlen : (headLines s).length ≤ 1048577 := by
  have h1 := splitL_length (s.extract 0 (headEnd s).toNat) crlf (by decide)
  have h2 := Lib.countB_le crlf (by decide) _ (s.extract 0 (headEnd s).toNat) (Nat.le_refl _)
  have h3 : (s.extract 0 (headEnd s).toNat).size ≤ s.size := by rw [ByteArray.size_extract]; omega
  unfold headLines
  omega
 obtain ⟨L, hL⟩ : ∃ L, rdOf ByteArray.empty (headLines s) 0 = L := ⟨_, rfl⟩
 have hLz : L.size ≤ 1048576 := by
  have h1 : rdOf ByteArray.empty (headLines s) 0 = (headLines s)[0] := getD_at hpos _
  rw [← hL, h1]
  exact hmem _ (List.getElem_mem hpos)
 obtain ⟨n0, t0, ha, hgood⟩ := tr2_is L (by omega)
 obtain ⟨st, hst⟩ : ∃ st : Int × ByteArray, st = (n0, t0) := ⟨_, rfl⟩
 have hI : ∀ k, takeF tr2.f ((0 : Int), (⟨#[]⟩ : ByteArray)) k s = if goodS L = true then ((impl_fieldsOf.f k ((headLines s).drop 1)).bind fun b => if b.2 = true then ((impl_lengthOf.f k b.1).bind fun c => if c.2.2 = true then (if c.1 > 300 then some ([], ⟨#[]⟩, 0, 4, st) else if ((s.size : Int) - ((e : Int) + 4)) < c.1 then some ([], ⟨#[]⟩, 0, 1, st) else (impl_headText.f k L b.1).bind fun t => if (t.size : Int) > 2000 then some ([], ⟨#[]⟩, 0, 5, st) else if 0 ≤ c.1 then some (b.1, (s.extract (e + 4) s.size).extract 0 c.1.toNat, (e : Int) + 4 + c.1, 0, st) else none) else some ([], ⟨#[]⟩, 0, 4, st)) else some ([], ⟨#[]⟩, 0, 3, st)) else some ([], ⟨#[]⟩, 0, 2, st) := by
  intro k
  unfold takeF
  rw [if_pos (by omega), he, if_neg (by omega), if_neg (by omega), if_pos (by omega), hL, ha, Option.bind_some, Int.toNat_natCast, hst]
 have hfs := firstR_spec s (headLines s) (e + 4) L (by omega) hL hpos (show Ev (fun k => spec_l4Lines.f k s) (headLines s, ((e + 4 : Nat) : Int), 0) from hlines)
 by_cases hg : goodS L = true
 rotate_left
 ·have hgf : goodS L = false := Bool.eq_false_iff.mpr hg
  refine ⟨noResp 2, hfs _ ?_, impl_codeR s 2 (by decide) ⟨#[]⟩ 0 [] st (Ev.congr (fun k => by rw [hI, if_neg hg]) (Ev.now _)), by decide⟩
  rw [hgf]
  refine Ev.step (f := fun _ => some (noResp 2)) (fun k => ?_) (Ev.now _)
  simp only [spec_TakeResponse.j0]
  rw [if_pos (by rfl)]
  rfl
 obtain ⟨e1, e2⟩ := hgood hg
 rw [e1, e2] at hst
 subst hst
 obtain ⟨g0, g1, g2, g3, g3', g4⟩ := good_lineR L hg
 have hsp : ∀ R, Ev (fun k => (spec_l4Rest.f k s ((headLines s).drop 1) ((e + 4 : Nat) : Int)).bind fun bt191 => (if bt191.2.2.2 = 0 then ((spec_GoodResponse.f k (intT (statL L)) (reasL L) bt191.1 bt191.2.1).bind fun t198 => (if t198 = true then (some (intT (statL L), reasL L, bt191.1, bt191.2.1, bt191.2.2.1, 0)) else (some (noResp 5)))) else (some (noResp bt191.2.2.2)))) R → Ev (fun k => spec_TakeResponse.f k s) R := by
  intro R h
  refine hfs R ?_
  rw [hg]
  refine Ev.step (fun k => ?_) h
  simp only [spec_TakeResponse.j0]
  rw [if_neg (by simp), if_pos (by omega)]
  rfl
 simp only [if_pos hg] at hI
 have hmem1 : ∀ x ∈ (headLines s).drop 1, x.size ≤ 1048576 := fun x hx => hmem x (List.mem_of_mem_drop hx)
 have hlen1 : ((headLines s).drop 1).length ≤ 1048577 := by rw [List.length_drop]; omega
 obtain ⟨r1, r2⟩ := rest_spec s (e + 4) ((headLines s).drop 1) (by omega) hes (by omega) (fun y hy => by have := hmem1 y hy; omega)
 have hfi := fieldsI_loop ((headLines s).drop 1) (by omega) (fun y hy => by have := hmem1 y hy; omega) ((headLines s).drop 1).length 0 [] (by omega) (by simp)
 rw [List.drop_zero] at hfi
 generalize hD : (headLines s).drop 1 = D at *
 have hfi2 : Ev (fun k => impl_fieldsOf.f k D) (match fieldT [] D with | some r => (r, true) | none => ([], false)) := hfi
 cases hr : fieldT [] D with
 | none =>
  rw [hr] at hfi2
  refine ⟨noResp 3, hsp _ (Ev.bind (r2 hr) (Ev.congr (f := fun _ => some (noResp 3)) (fun k => by rw [if_neg (by decide)]) (Ev.now _))), impl_codeR s 3 (by decide) ⟨#[]⟩ 0 [] (intT (statL L), reasL L) (Ev.congr (fun k => hI k) (Ev.bind hfi2 (Ev.congr (fun k => by rw [if_neg (by simp)]) (Ev.now _)))), by decide⟩
 | some r =>
  rw [hr] at hfi2
  obtain ⟨q, q1, q2, q3, q4⟩ := r1 r hr
  obtain ⟨h40, hok⟩ := fieldT_ok D [] r 1048576 hmem1 (by simp) (by simp) hr
  have hok' : ∀ f ∈ r, okF f = true ∧ f.f0.size ≤ 100000000 ∧ f.f1.size ≤ 100000000 := fun f hf => by have := hok f hf; exact ⟨this.1, by omega, by omega⟩
  have im : ∀ R, Ev (fun k => if (outI q).2.2 = true then (if (outI q).1 > 300 then some ([], ⟨#[]⟩, 0, 4, (intT (statL L), reasL L)) else if ((s.size : Int) - ((e : Int) + 4)) < (outI q).1 then some ([], ⟨#[]⟩, 0, 1, (intT (statL L), reasL L)) else (impl_headText.f k L r).bind fun t => if (t.size : Int) > 2000 then some ([], ⟨#[]⟩, 0, 5, (intT (statL L), reasL L)) else if 0 ≤ (outI q).1 then some (r, (s.extract (e + 4) s.size).extract 0 (outI q).1.toNat, (e : Int) + 4 + (outI q).1, 0, (intT (statL L), reasL L)) else none) else some ([], ⟨#[]⟩, 0, 4, (intT (statL L), reasL L))) R → Ev (fun k => takeF tr2.f ((0 : Int), (⟨#[]⟩ : ByteArray)) k s) R := by
   intro R h
   refine Ev.congr (fun k => hI k) (Ev.bind hfi2 ?_)
   simp only [if_true]
   exact Ev.bind q2 h
  cases hn : lenN q with
  | none =>
   refine ⟨noResp 4, hsp _ (Ev.bind q4 (Ev.congr (f := fun _ => some (noResp 4)) (fun k => ?_) (Ev.now _))), impl_codeR s 4 (by decide) ⟨#[]⟩ 0 [] (intT (statL L), reasL L) (im _ (Ev.congr (f := fun _ => some ([], ⟨#[]⟩, 0, 4, (intT (statL L), reasL L))) (fun k => ?_) (Ev.now _))), by decide⟩
   ·unfold restT
    simp only [hn]
    rw [if_neg (by decide)]
   ·match q, hn with
    | none, _ => rw [if_neg (by simp [outI])]
    | some (some n), hn =>
     have h3 : ¬ n ≤ 300 := fun h => by unfold lenN at hn; simp only [if_pos h] at hn; cases hn
     rw [if_pos (by rfl), if_pos (show (outI (some (some n))).1 > 300 by show (n : Int) > 300; omega)]
  | some n =>
   have ho : (outI q).2.2 = true ∧ (outI q).1 = (n : Int) ∧ n ≤ 300 := by
    match q, hn with
    | some none, hn =>
     have h0 : 0 = n := Option.some.inj hn
     subst h0
     exact ⟨rfl, rfl, by omega⟩
    | some (some m), hn =>
     unfold lenN at hn
     by_cases c : m ≤ 300
     ·simp only [if_pos c] at hn
      have h0 : m = n := Option.some.inj hn
      subst h0
      exact ⟨rfl, rfl, c⟩
     ·simp only [if_neg c] at hn
      cases hn
   rw [ho.1, ho.2.1] at im
   by_cases hsh : s.size < e + 4 + n
   ·refine ⟨noResp 1, hsp _ (Ev.bind q4 (Ev.congr (f := fun _ => some (noResp 1)) (fun k => ?_) (Ev.now _))), impl_codeR s 1 (by decide) ⟨#[]⟩ 0 [] (intT (statL L), reasL L) (im _ (Ev.congr (f := fun _ => some ([], ⟨#[]⟩, 0, 1, (intT (statL L), reasL L))) (fun k => ?_) (Ev.now _))), by decide⟩
    ·unfold restT
     simp only [hn, if_pos hsh]
     rw [if_neg (by decide)]
    ·rw [if_pos rfl, if_neg (by omega), if_pos (by omega)]
   ·obtain ⟨T, t1, t2⟩ := head_both L r (by omega) (by omega) (fun f hf => (hok' f hf).2)
    have hgr := good_resp (intT (statL L)) (statL L) (reasL L) (s.extract (e + 4) (e + 4 + n)) T r n q g0 g1 g2 rfl g3 g3' h40 hok' q1 hn (by rw [ByteArray.size_extract]; omega) (by rw [g4]; exact t1)
    have q5 : restT s (e + 4) r q = (r, s.extract (e + 4) (e + 4 + n), ((e + 4 + n : Nat) : Int), 0) := by
     unfold restT
     simp only [hn, if_neg hsh]
    rw [q5] at q4
    have im2 : ∀ R, Ev (fun k => if (T.size : Int) > 2000 then some ([], ⟨#[]⟩, 0, 5, (intT (statL L), reasL L)) else if 0 ≤ (n : Int) then some (r, (s.extract (e + 4) s.size).extract 0 (n : Int).toNat, (e : Int) + 4 + (n : Int), 0, (intT (statL L), reasL L)) else none) R → Ev (fun k => takeF tr2.f ((0 : Int), (⟨#[]⟩ : ByteArray)) k s) R := by
     intro R h
     refine im R ?_
     refine Ev.congr (fun k => by rw [if_pos rfl, if_neg (by omega), if_neg (by omega)]) (Ev.bind t2 h)
    by_cases hT : (T.size : Int) ≤ 2000
    ·refine ⟨(intT (statL L), reasL L, r, s.extract (e + 4) (e + 4 + n), ((e + 4 + n : Nat) : Int), 0), hsp _ (Ev.bind q4 ?_), ?_, h40⟩
     ·rw [decide_eq_true hT] at hgr
      simp only [if_true]
      refine Ev.bind hgr (Ev.congr (fun k => by rw [if_pos rfl]) (Ev.now _))
     ·refine Ev.bind (im2 (r, s.extract (e + 4) (e + 4 + n), ((e + 4 + n : Nat) : Int), 0, (intT (statL L), reasL L)) (Ev.congr (fun k => ?_) (Ev.now _))) (Ev.congr (fun k => by rw [if_pos (by rfl)]) (Ev.now _))
      rw [if_neg (by omega), if_pos (by omega), Int.toNat_natCast, ext_ext s (e + 4) s.size 0 n (by omega) (Nat.le_refl _)]
      rw [show (e : Int) + 4 + (n : Int) = ((e + 4 + n : Nat) : Int) by omega]
    ·refine ⟨noResp 5, hsp _ (Ev.bind q4 ?_), impl_codeR s 5 (by decide) ⟨#[]⟩ 0 [] (intT (statL L), reasL L) (im2 _ (Ev.congr (fun k => by rw [if_pos (by omega)]) (Ev.now _))), by decide⟩
     rw [decide_eq_false hT] at hgr
     simp only [if_true]
     exact Ev.bind hgr (Ev.congr (fun k => by rw [if_neg (by simp)]) (Ev.now _))
theorem take_bothR (s : ByteArray) (hz : s.size ≤ 1048576) : ∃ R, Ev (fun k => spec_TakeResponse.f k s) R ∧ Ev (fun k => impl_TakeResponse.f k s) R ∧ R.2.2.1.length ≤ 40 := by
 have hlines := lines_spec s (by omega)
 unfold cutHead at hlines
 rcases head_cases s with ⟨h1, h2⟩ | ⟨e, h1, h2, h3⟩
 ·rw [h1, if_pos (by omega)] at hlines
  unfold codeT at hlines
  by_cases c : (s.size : Int) > 2000
  ·rw [if_pos c] at hlines
   refine ⟨noResp 5, spec_codeR s 5 (by decide) hlines, impl_codeR s 5 (by decide) ⟨#[]⟩ 0 [] (0, ⟨#[]⟩) (Ev.congr (fun k => ?_) (Ev.now _)), by decide⟩
   unfold takeF
   rw [if_pos (by omega), h1, if_pos (by omega), if_pos c]
  ·rw [if_neg c] at hlines
   refine ⟨noResp 1, spec_codeR s 1 (by decide) hlines, impl_codeR s 1 (by decide) ⟨#[]⟩ 0 [] (0, ⟨#[]⟩) (Ev.congr (fun k => ?_) (Ev.now _)), by decide⟩
   unfold takeF
   rw [if_pos (by omega), h1, if_pos (by omega), if_neg c]
 ·by_cases c : e + 4 > 2000
  ·rw [h1, if_neg (by omega), if_pos (by omega)] at hlines
   refine ⟨noResp 5, spec_codeR s 5 (by decide) hlines, impl_codeR s 5 (by decide) ⟨#[]⟩ 0 [] (0, ⟨#[]⟩) (Ev.congr (fun k => ?_) (Ev.now _)), by decide⟩
   unfold takeF
   rw [if_pos (by omega), h1, if_neg (by omega), if_pos (by omega)]
  ·exact take_headR s hz e h1 h2 c

def headGo (acc : ByteArray) : List S75 → ByteArray
 | [] => acc ++ (⟨#[13, 10]⟩ : ByteArray)
 | f :: l => headGo (acc ++ lineF f) l
def headX (s : ByteArray) (l : List S75) : ByteArray := headGo (s ++ (⟨#[13, 10]⟩ : ByteArray)) l
def SmG (l : List S75) : Prop := l.length ≤ 44 ∧ ∀ f ∈ l, f.f0.size ≤ 14 ∧ f.f1.size ≤ 20
theorem smG {l : List S75} (h : SmG l) : ∀ f ∈ l, f.f0.size ≤ 100000000 ∧ f.f1.size ≤ 100000000 := fun f hf => by have := h.2 f hf; omega
theorem lineF_size (f : S75) : (lineF f).size = f.f0.size + f.f1.size + 4 := by
 unfold lineF
 simp only [ByteArray.size_append, size_lit2]
 omega
theorem headGo_size (l : List S75) : ∀ (acc : ByteArray), (∀ f ∈ l, f.f0.size ≤ 14 ∧ f.f1.size ≤ 20) → acc.size + 2 ≤ (headGo acc l).size ∧ (headGo acc l).size ≤ acc.size + 38 * l.length + 2 := by
 induction l with
 | nil => intro acc _; simp only [headGo, ByteArray.size_append, size_lit2, List.length_nil]; omega
 | cons f l ih =>
  intro acc h
  have h1 := ih (acc ++ lineF f) (fun g hg => h g (List.mem_cons_of_mem _ hg))
  have h2 := h f (List.mem_cons_self ..)
  rw [ByteArray.size_append, lineF_size] at h1
  simp only [headGo, List.length_cons]
  omega
theorem head_is (l : List S75) (hl : l.length ≤ 1000) (hs : ∀ f ∈ l, f.f0.size ≤ 100000000 ∧ f.f1.size ≤ 100000000) : ∀ (d j : Nat) (acc : ByteArray), j + d = l.length → acc.size ≤ 2000000000 * (j + 1) →
  Ev (fun k => spec_l4Head.l0 k acc l (l.length : Int) (j : Int)) (headGo acc (l.drop j)) ∧ Ev (fun k => impl_headText.l0 k acc l (l.length : Int) (j : Int)) (headGo acc (l.drop j)) := by
 intro d
 induction d with
 | zero =>
  intro j acc hj ha
  rw [List.drop_of_length_le (by omega)]
  exact ⟨Ev.step (f := fun _ => some (acc ++ (⟨#[13, 10]⟩ : ByteArray))) (fun k => by simp only [spec_l4Head.l0]; rw [if_neg (by omega), if_pos (by omega)]) (Ev.now _), Ev.step (f := fun _ => some (acc ++ (⟨#[13, 10]⟩ : ByteArray))) (fun k => by simp only [impl_headText.l0]; rw [if_neg (by omega), if_pos (by omega)]) (Ev.now _)⟩
 | succ d ih =>
  intro j acc hj ha
  have hlt : j < l.length := by omega
  have w1 : wrap64 ((j : Int) + 1) = ((j + 1 : Nat) : Int) := w2 (Nat.le_of_lt hlt) (by omega) 1 (by omega)
  have hf := hs _ (List.getElem_mem hlt)
  have hz := line_size l[j] hf
  obtain ⟨h1, h2⟩ := ih (j + 1) (acc ++ lineF l[j]) (by omega) (by rw [ByteArray.size_append]; omega)
  have e : (((l[j].f0 ++ (⟨#[58, 32]⟩ : ByteArray)) ++ l[j].f1) ++ (⟨#[13, 10]⟩ : ByteArray)) = lineF l[j] := rfl
  rw [List.drop_eq_getElem_cons hlt]
  refine ⟨Ev.step (fun k => ?_) h1, Ev.step (fun k => ?_) h2⟩
  ·simp only [spec_l4Head.l0]
   rw [if_pos (by omega), if_pos (by omega), if_pos (by omega), rd75 l j hlt, if_pos (by omega), if_pos (by omega), if_pos (by omega), e, if_pos (by omega), w1]
  ·simp only [impl_headText.l0]
   rw [if_pos (by omega), if_pos (by omega), if_pos (by omega), rd75 l j hlt, if_pos (by omega), if_pos (by omega), if_pos (by omega), e, if_pos (by omega), w1]
theorem headX_is (s : ByteArray) (l : List S75) (hz : s.size ≤ 1000000000) (h : SmG l) : Ev (fun k => spec_l4Head.f k s l) (headX s l) ∧ Ev (fun k => impl_headText.f k s l) (headX s l) ∧ (headX s l).size ≤ s.size + 1676 ∧ s.size + 4 ≤ (headX s l).size := by
 obtain ⟨h1, h2⟩ := head_is l (by have := h.1; omega) (smG h) l.length 0 (s ++ (⟨#[13, 10]⟩ : ByteArray)) (by omega) (by rw [ByteArray.size_append, size_lit2]; omega)
 have h3 := headGo_size l (s ++ (⟨#[13, 10]⟩ : ByteArray)) h.2
 rw [ByteArray.size_append, size_lit2] at h3
 have h4 := h.1
 refine ⟨Ev.congr (fun k => ?_) h1, Ev.congr (fun k => ?_) h2, by unfold headX; omega, by unfold headX; omega⟩
 ·unfold spec_l4Head.f
  rw [if_pos (by omega)]
  rfl
 ·unfold impl_headText.f
  rw [if_pos (by omega)]
  rfl
theorem first_is (m t b : ByteArray) (l : List S75) (hm : m.size ≤ 1000) (ht : t.size ≤ 1000) : spec_l4First.f m t l b = some (firstT m t) ∧ impl_requestLine.f m t l b = some (firstT m t) := by
 have hz := first_size m t (by omega) (by omega)
 constructor
 ·unfold spec_l4First.f
  rw [if_pos (by omega), if_pos (by omega), if_pos (by omega)]
  rfl
 ·unfold impl_requestLine.f
  rw [if_pos (by omega), if_pos (by omega), if_pos (by omega)]
  rfl
def fieldsB (l : List S75) : Bool := l.all (fun f => goodT f.f0 f.f1) && decide ((l.length : Int) ≤ 40)
theorem fieldsS_is (l : List S75) (hl : l.length ≤ 1000) (hs : ∀ f ∈ l, f.f0.size ≤ 100000000 ∧ f.f1.size ≤ 100000000) : ∀ (d j : Nat), j + d = l.length → Ev (fun k => spec_l3Fields.l0 k l l (l.length : Int) (j : Int)) ((l.drop j).all (fun f => goodT f.f0 f.f1) && decide ((l.length : Int) ≤ 40)) := by
 intro d
 induction d with
 | zero =>
  intro j hj
  rw [List.drop_of_length_le (by omega)]
  refine Ev.step (f := fun _ => some (decide ((l.length : Int) ≤ 40))) (fun k => ?_) (Ev.congr (fun k => by rw [List.all_nil, Bool.true_and]) (Ev.now _))
  simp only [spec_l3Fields.l0]
  rw [if_neg (by omega)]
 | succ d ih =>
  intro j hj
  have hlt : j < l.length := by omega
  have w1 : wrap64 ((j : Int) + 1) = ((j + 1 : Nat) : Int) := w2 (Nat.le_of_lt hlt) (by omega) 1 (by omega)
  have hf := hs _ (List.getElem_mem hlt)
  have h1 := good_spec l[j].f0 l[j].f1 (by omega) (by omega)
  have hst : ∀ k, spec_l3Fields.l0 (k + 1) l l (l.length : Int) (j : Int) = (spec_GoodField.f k l[j].f0 l[j].f1).bind fun t157 => (if t157 = true then (spec_l3Fields.l0 k l l (l.length : Int) ((j + 1 : Nat) : Int)) else (some false)) := by
   intro k
   simp only [spec_l3Fields.l0]
   rw [if_pos (by omega), if_pos (by omega), if_pos (by omega), rd75 l j hlt, w1]
  rw [List.drop_eq_getElem_cons hlt, List.all_cons]
  refine Ev.step hst (Ev.bind h1 ?_)
  cases goodT l[j].f0 l[j].f1 with
  | true => exact Ev.congr (fun k => by rw [if_pos rfl]) (by simpa using ih (j + 1) (by omega))
  | false => exact Ev.congr (fun k => by rw [if_neg (by simp)]) (Ev.congr (f := fun _ => some false) (fun k => rfl) (by simpa using Ev.now false))
theorem allO_good : ∀ l : List S75, (∀ f ∈ l, f.f0.size ≤ 100000000 ∧ f.f1.size ≤ 100000000) → allO (fun x : S75 => impl_GoodField.f x.f0 x.f1) l = some (l.all (fun f => goodT f.f0 f.f1)) :=
 fun l hs => allO_all' l (fun f hf => good_impl f.f0 f.f1 (by have := hs f hf; omega) (by have := hs f hf; omega))
theorem fields_total (l : List S75) (h : SmG l) : Ev (fun k => spec_l3Fields.f k l) (fieldsB l) ∧ impl_areFields.f l = some (fieldsB l) := by
 constructor
 ·have := fieldsS_is l (by have := h.1; omega) (smG h) l.length 0 (by omega)
  rw [List.drop_zero] at this
  exact this
 ·unfold impl_areFields.f impl_Field__124.f fieldsB
  by_cases c : (l.length : Int) ≤ 40
  ·rw [if_pos c, decide_eq_true c, Bool.and_true, allO_good l (smG h), Option.bind_some]
  ·rw [if_neg c, decide_eq_false c, Bool.and_false]
/-- Whether a body is framed. -/
def framedB (q : Option (Option Nat)) (te : List ByteArray) (b : ByteArray) : Bool := match q with
 | none => false
 | some none => decide (b.size = 0) && decide (te.length = 0)
 | some (some n) => decide (n = b.size) && decide (te.length = 0)
theorem framed_total (l : List S75) (b : ByteArray) (h : SmG l) (hb : b.size ≤ 300) : ∃ r, Ev (fun k => spec_l4Framed.f k l b) r ∧ Ev (fun k => impl_isFramed.f k l b) r ∧ ∃ q, Ev (fun k => impl_lengthOf.f k l) (outI q) ∧ (r = true → (outI q).2.2 = true ∧ (outI q).1 = (b.size : Int) ∧ valT l teB = []) := by
 obtain ⟨q, q1, q2, q3⟩ := len_both l (by have := h.1; omega) (smG h)
 obtain ⟨v1, v2⟩ := vals_both l teB (by have := h.1; omega) (by decide) (fun f hf => by have := (smG h f hf).1; omega)
 refine ⟨framedB q (valT l teB) b, Ev.bind q1 ?_, Ev.bind q2 ?_, q, q2, fun hr => ?_⟩
 ·have ev : ∀ r, r = decide ((valT l teB).length = 0) → Ev (fun k => (spec_l3Values.f k l teB).bind fun t => some ((t.length : Int) == 0)) r := by
   intro r hr
   refine Ev.bind v1 (Ev.congr (f := fun _ => some r) (fun k => ?_) (Ev.now _))
   rw [hr]
   by_cases c : (valT l teB).length = 0
   ·rw [decide_eq_true c, c]; rfl
   ·rw [decide_eq_false c, beq_eq_false_iff_ne.mpr (by omega)]
  match q with
  | none =>
   refine Ev.congr (f := fun _ => some false) (fun k => ?_) (Ev.now _)
   show (if outS none = -1 then _ else _) = _
   rw [if_neg (by decide), if_neg (by show ¬ (-2 : Int) = _; omega)]
  | some none =>
   by_cases c : b.size = 0
   ·refine Ev.congr (fun k => ?_) (ev _ (show framedB (some none) (valT l teB) b = _ by unfold framedB; simp only [decide_eq_true c, Bool.true_and]))
    show (if outS (some none) = -1 then _ else _) = _
    rw [if_pos (show outS (some none) = -1 from rfl), if_pos (by omega), if_pos (by omega)]
    rfl
   ·refine Ev.congr (f := fun _ => some false) (fun k => ?_) (by unfold framedB; simp only [decide_eq_false c, Bool.false_and]; exact Ev.now _)
    show (if outS (some none) = -1 then _ else _) = _
    rw [if_pos (show outS (some none) = -1 from rfl), if_neg (by omega)]
  | some (some n) =>
   by_cases c : n = b.size
   ·refine Ev.congr (fun k => ?_) (ev _ (show framedB (some (some n)) (valT l teB) b = _ by unfold framedB; simp only [decide_eq_true c, Bool.true_and]))
    rw [show outS (some (some n)) = (n : Int) from rfl]
    rw [if_neg (by omega), if_pos (by omega), if_pos (by omega)]
    rfl
   ·refine Ev.congr (f := fun _ => some false) (fun k => ?_) (by unfold framedB; simp only [decide_eq_false c, Bool.false_and]; exact Ev.now _)
    rw [show outS (some (some n)) = (n : Int) from rfl]
    rw [if_neg (by omega), if_neg (by omega)]
 ·match q with
  | none => exact Ev.congr (f := fun _ => some false) (fun k => by rw [if_neg (by simp [outI])]) (Ev.now _)
  | some none =>
   refine Ev.congr (f := fun k => (impl_valuesOf.f k l teB).bind fun t => if (t.length : Int) = 0 then (if (outI (some none)).2.1 = true then (if (outI (some none)).1 = (b.size : Int) then some true else some false) else some (b.toList == ([] : List UInt8))) else some false) (fun k => by rw [if_pos (by rfl)]; rfl) (Ev.bind v2 ?_)
   refine Ev.congr (f := fun _ => some (framedB (some none) (valT l teB) b)) (fun k => ?_) (Ev.now _)
   unfold framedB
   by_cases c : (valT l teB).length = 0
   ·rw [if_pos (by omega), if_neg (by simp [outI]), decide_eq_true c, Bool.and_true]
    by_cases d : b.size = 0
    ·rw [decide_eq_true d, beq_iff_eq.mpr ((empty_list b).mpr d)]
    ·rw [decide_eq_false d, beq_eq_false_iff_ne.mpr (fun e => d ((empty_list b).mp e))]
   ·rw [if_neg (by omega), decide_eq_false c, Bool.and_false]
  | some (some n) =>
   refine Ev.congr (f := fun k => (impl_valuesOf.f k l teB).bind fun t => if (t.length : Int) = 0 then (if (outI (some (some n))).2.1 = true then (if (outI (some (some n))).1 = (b.size : Int) then some true else some false) else some (b.toList == ([] : List UInt8))) else some false) (fun k => by rw [if_pos (by rfl)]; rfl) (Ev.bind v2 ?_)
   refine Ev.congr (f := fun _ => some (framedB (some (some n)) (valT l teB) b)) (fun k => ?_) (Ev.now _)
   rw [show framedB (some (some n)) (valT l teB) b = (decide (n = b.size) && decide ((valT l teB).length = 0)) from rfl]
   by_cases c : (valT l teB).length = 0
   ·rw [if_pos (by omega), if_pos (by rfl), decide_eq_true c, Bool.and_true]
    by_cases d : n = b.size
    ·rw [decide_eq_true d, if_pos (show (outI (some (some n))).1 = (b.size : Int) by show ((n : Nat) : Int) = _; omega)]
    ·rw [decide_eq_false d, if_neg (show ¬ (outI (some (some n))).1 = (b.size : Int) by show ¬ ((n : Nat) : Int) = _; omega)]
   ·rw [if_neg (by omega), decide_eq_false c, Bool.and_false]
 ·match q, hr with
  | none, hr => cases hr
  | some none, hr =>
   unfold framedB at hr
   simp only [Bool.and_eq_true] at hr
   have h1 := of_decide_eq_true hr.1
   exact ⟨rfl, by show (0 : Int) = _; omega, List.eq_nil_of_length_eq_zero (of_decide_eq_true hr.2)⟩
  | some (some n), hr =>
   unfold framedB at hr
   simp only [Bool.and_eq_true] at hr
   have h1 := of_decide_eq_true hr.1
   exact ⟨rfl, by show ((n : Nat) : Int) = _; omega, List.eq_nil_of_length_eq_zero (of_decide_eq_true hr.2)⟩
/-- Both say the same of a request. -/
theorem good_total (m t b : ByteArray) (l : List S75) (hm : m.size ≤ 1000) (ht : t.size ≤ 1000) (hb : b.size ≤ 300) (h : SmG l) : ∃ r, Ev (fun k => spec_GoodRequest.f k m t l b) r ∧ Ev (fun k => impl_GoodRequest.f k m t l b) r ∧
  (r = true → tokT m = true ∧ m.size ≤ 10 ∧ tgtT t = true ∧ fieldsB l = true ∧ (headX (firstT m t) l).size ≤ 2000 ∧ ∃ q, Ev (fun k => impl_lengthOf.f k l) (outI q) ∧ (outI q).2.2 = true ∧ (outI q).1 = (b.size : Int) ∧ valT l teB = []) := by
 obtain ⟨fr, f1, f2, q, f3, f4⟩ := framed_total l b h hb
 obtain ⟨a1, a2⟩ := fields_total l h
 obtain ⟨e1, e2⟩ := first_is m t b l hm ht
 have hz := first_size m t (by omega) (by omega)
 obtain ⟨x1, x2, x3, x4⟩ := headX_is (firstT m t) l (by omega) h
 have hmeth : Ev (fun k => spec_l4Method.f k m) (tokT m && decide ((m.size : Int) ≤ 10)) := by
  refine Ev.bind (tok_spec m (by omega)) ?_
  cases tokT m with
  | true => exact Ev.congr (fun k => by rw [if_pos rfl, Bool.true_and]) (Ev.now _)
  | false => exact Ev.congr (fun k => by rw [if_neg (by simp), Bool.false_and]) (Ev.now _)
 have hline : impl_isRequestLine.f m t l b = some (tokT m && decide ((m.size : Int) ≤ 10) && tgtT t) := by
  unfold impl_isRequestLine.f
  rw [tok_impl m (by omega), Option.bind_some]
  cases tokT m with
  | false => rw [if_neg (by simp)]; rfl
  | true =>
   rw [if_pos rfl]
   by_cases c : (m.size : Int) ≤ 10
   ·rw [if_pos c, tgt_impl t (by omega), Option.bind_some, decide_eq_true c]; rfl
   ·rw [if_neg c, decide_eq_false c]; rfl
 refine ⟨tokT m && decide ((m.size : Int) ≤ 10) && tgtT t && fieldsB l && fr && decide (((headX (firstT m t) l).size : Int) ≤ 2000), ?_, ?_, fun hr => ?_⟩
 ·unfold spec_GoodRequest.f
  refine Ev.bind hmeth ?_
  cases hc : (tokT m && decide ((m.size : Int) ≤ 10)) with
  | false => exact Ev.congr (f := fun _ => some false) (fun k => by rw [if_neg (by simp)]) (by simpa using Ev.now false)
  | true =>
   simp only [if_true, Bool.true_and]
   refine Ev.bind (tgt_spec t (by omega)) ?_
   cases tgtT t with
   | false => exact Ev.congr (f := fun _ => some false) (fun k => by rw [if_neg (by simp)]) (by simpa using Ev.now false)
   | true =>
    simp only [if_true, Bool.true_and]
    refine Ev.bind a1 ?_
    cases fieldsB l with
    | false => exact Ev.congr (f := fun _ => some false) (fun k => by rw [if_neg (by simp)]) (by simpa using Ev.now false)
    | true =>
     simp only [if_true, Bool.true_and]
     refine Ev.bind f1 ?_
     cases fr with
     | false => exact Ev.congr (f := fun _ => some false) (fun k => by rw [if_neg (by simp)]) (by simpa using Ev.now false)
     | true =>
      simp only [if_true, Bool.true_and, e1, Option.bind_some]
      exact Ev.bind x1 (Ev.now _)
 ·unfold impl_GoodRequest.f
  simp only [hline, Option.bind_some]
  cases hc : (tokT m && decide ((m.size : Int) ≤ 10) && tgtT t) with
  | false => exact Ev.congr (f := fun _ => some false) (fun k => by rw [if_neg (by simp)]) (by simpa using Ev.now false)
  | true =>
   simp only [if_true, Bool.true_and, e2, Option.bind_some]
   refine Ev.bind (r := fieldsB l && fr && decide (((headX (firstT m t) l).size : Int) ≤ 2000)) ?_ (Ev.now _)
   unfold impl_isMessage.f
   simp only [a2, Option.bind_some]
   cases fieldsB l with
   | false => exact Ev.congr (f := fun _ => some false) (fun k => by rw [if_neg (by simp)]) (by simpa using Ev.now false)
   | true =>
    simp only [if_true, Bool.true_and]
    refine Ev.congr (fun k => by rw [if_pos (show (b.size : Int) ≤ 300 by omega)]) (Ev.bind x2 ?_)
    by_cases c : ((headX (firstT m t) l).size : Int) ≤ 2000
    ·refine Ev.congr (fun k => by rw [if_pos c]) (Ev.bind f2 ?_)
     rw [decide_eq_true c, Bool.and_true]
     exact Ev.now _
    ·refine Ev.congr (f := fun _ => some false) (fun k => by rw [if_neg c]) ?_
     rw [decide_eq_false c, Bool.and_false]
     exact Ev.now _
 ·simp only [Bool.and_eq_true] at hr
  obtain ⟨⟨⟨⟨⟨r1, r2⟩, r3⟩, r4⟩, r5⟩, r6⟩ := hr
  refine ⟨r1, by have := of_decide_eq_true r2; omega, r3, r4, by have := of_decide_eq_true r6; omega, q, f3, f4 r5⟩
theorem bytes_total (m t b : ByteArray) (l : List S75) (hm : m.size ≤ 1000) (ht : t.size ≤ 1000) (hb : b.size ≤ 300) (h : SmG l) : ∃ r s, Ev (fun k => spec_RequestBytes.f k m t l b) (s, r) ∧ Ev (fun k => impl_RequestBytes.f k m t l b) (s, r) ∧
  (r = true → s = headX (firstT m t) l ++ b ∧ tokT m = true ∧ m.size ≤ 10 ∧ tgtT t = true ∧ fieldsB l = true ∧ (headX (firstT m t) l).size ≤ 2000 ∧ ∃ q, Ev (fun k => impl_lengthOf.f k l) (outI q) ∧ (outI q).2.2 = true ∧ (outI q).1 = (b.size : Int) ∧ valT l teB = []) := by
 obtain ⟨r, g1, g2, g3⟩ := good_total m t b l hm ht hb h
 obtain ⟨e1, e2⟩ := first_is m t b l hm ht
 have hz := first_size m t (by omega) (by omega)
 obtain ⟨x1, x2, x3, x4⟩ := headX_is (firstT m t) l (by omega) h
 cases r with
 | false =>
  exact ⟨false, ⟨#[]⟩, Ev.bind g1 (Ev.congr (f := fun _ => some (⟨#[]⟩, false)) (fun k => by rw [if_neg (by simp)]) (Ev.now _)), Ev.bind g2 (Ev.congr (f := fun _ => some (⟨#[]⟩, false)) (fun k => by rw [if_neg (by simp)]) (Ev.now _)), fun h => by cases h⟩
 | true =>
  refine ⟨true, headX (firstT m t) l ++ b, Ev.bind g1 ?_, Ev.bind g2 ?_, fun _ => ⟨rfl, g3 rfl⟩⟩
  ·simp only [if_true, e1, Option.bind_some]
   exact Ev.bind x1 (Ev.congr (f := fun _ => some (headX (firstT m t) l ++ b, true)) (fun k => by rw [if_pos (by omega)]) (Ev.now _))
  ·simp only [if_true, e2, Option.bind_some]
   exact Ev.bind x2 (Ev.congr (f := fun _ => some (headX (firstT m t) l ++ b, true)) (fun k => by rw [if_pos (by omega)]) (Ev.now _))

/-- Lines, each with its end, and an empty one. -/
def J : List (List UInt8) → List UInt8
 | [] => [13, 10]
 | x :: r => x ++ 13 :: 10 :: J r
/-- Lines, their ends between them. -/
def K : List (List UInt8) → List UInt8
 | [] => []
 | [x] => x
 | x :: r => x ++ 13 :: 10 :: K r
def lineOk (x : List UInt8) : Prop := x ≠ [] ∧ 13 ∉ x
/-- The head's end at i of a list. -/
def cc4 (X : List UInt8) (i : Nat) : Prop := X[i]? = some 13 ∧ X[i + 1]? = some 10 ∧ X[i + 2]? = some 13 ∧ X[i + 3]? = some 10
theorem K_cons (x : List UInt8) (r : List (List UInt8)) (h : r ≠ []) : K (x :: r) = x ++ 13 :: 10 :: K r := by
 cases r with
 | nil => exact absurd rfl h
 | cons y r => rfl
theorem J_K : ∀ (ls : List (List UInt8)), ls ≠ [] → J ls = K ls ++ [13, 10, 13, 10] := by
 intro ls
 induction ls with
 | nil => intro h; exact absurd rfl h
 | cons x r ih =>
  intro _
  cases hr : r with
  | nil => simp [J, K]
  | cons y q =>
   have h1 := ih (by rw [hr]; simp)
   rw [← hr, K_cons x r (by rw [hr]; simp)]
   simp only [J]
   rw [h1]
   simp
theorem get_mid (x : List UInt8) (Y : List UInt8) (i : Nat) : (x ++ Y)[x.length + i]? = Y[i]? := by
 rw [List.getElem?_append_right (by omega)]
 congr 1
 omega
theorem not_13 {x : List UInt8} (h : 13 ∉ x) (i : Nat) : x[i]? ≠ some 13 := fun e => h (List.mem_of_getElem? e)
theorem cc_first : ∀ (ls : List (List UInt8)), (∀ x ∈ ls, lineOk x) → ∀ (rest : List UInt8) (i : Nat), cc4 (J ls ++ rest) i → (J ls).length ≤ i + 4 := by
 intro ls
 induction ls with
 | nil => intro _ rest i _; simp [J]
 | cons x r ih =>
  intro hok rest i h
  have hx := hok x (List.mem_cons_self ..)
  have hJ : J (x :: r) ++ rest = x ++ (13 :: 10 :: (J r ++ rest)) := by simp [J]
  have hlen : (J (x :: r)).length = x.length + 2 + (J r).length := by simp [J]; omega
  rw [hJ] at h
  rw [hlen]
  obtain ⟨h1, h2, h3, h4⟩ := h
  rcases Nat.lt_or_ge i x.length with c | c
  ·rw [List.getElem?_append_left c] at h1
   exact absurd h1 (not_13 hx.2 i)
  ·obtain ⟨d, rfl⟩ : ∃ d, i = x.length + d := ⟨i - x.length, by omega⟩
   rw [get_mid] at h1
   rw [show x.length + d + 1 = x.length + (d + 1) by omega, get_mid] at h2
   rw [show x.length + d + 2 = x.length + (d + 2) by omega, get_mid] at h3
   rw [show x.length + d + 3 = x.length + (d + 3) by omega, get_mid] at h4
   match d with
   | 0 =>
    cases r with
    | nil => simp [J]
    | cons y q =>
     have hy := hok y (List.mem_cons_of_mem _ (List.mem_cons_self ..))
     have h3' : (J (y :: q) ++ rest)[0]? = some 13 := h3
     have : y[0]? = some 13 := by
      cases y with
      | nil => exact absurd rfl hy.1
      | cons a y => simpa [J] using h3'
     exact absurd this (not_13 hy.2 0)
   | 1 =>
    have h1' : some (10 : UInt8) = some 13 := h1
    exact absurd h1' (by decide)
   | d + 2 =>
    have := ih (fun y hy => hok y (List.mem_cons_of_mem _ hy)) rest d ⟨h1, h2, h3, h4⟩
    omega
theorem crL (s : ByteArray) (j : Nat) : crAt s j ↔ s.data.toList[j]? = some 13 ∧ s.data.toList[j + 1]? = some 10 := by
 rw [get_bt, get_bt]
 unfold crAt
 constructor
 ·rintro ⟨a, b, c⟩; exact ⟨⟨by omega, b⟩, ⟨a, c⟩⟩
 ·rintro ⟨⟨a, b⟩, ⟨c, d⟩⟩; exact ⟨c, b, d⟩
theorem ccL (s : ByteArray) (j : Nat) : ccAt s j ↔ cc4 s.data.toList j := by
 unfold ccAt cc4
 rw [crL, crL]
 constructor
 ·rintro ⟨⟨a, b⟩, c, d⟩; exact ⟨a, b, c, d⟩
 ·rintro ⟨a, b, c, d⟩; exact ⟨⟨a, b⟩, c, d⟩
theorem split_K : ∀ (ls : List (List UInt8)), ls ≠ [] → (∀ x ∈ ls, lineOk x) → ∀ s : ByteArray, s.data.toList = K ls → splitL s crlf = ls.map (fun x => (⟨x.toArray⟩ : ByteArray)) := by
 intro ls
 induction ls with
 | nil => intro h; exact absurd rfl h
 | cons x r ih =>
  intro _ hok s hs
  have hx := hok x (List.mem_cons_self ..)
  by_cases hr : r = []
  ·subst hr
   have e : s = ⟨x.toArray⟩ := ba_ext (by rw [hs, data_mk]; rfl)
   rw [split_no s (fun j hj => by
    have := ((crL s j).mp hj).1
    rw [hs] at this
    exact not_13 hx.2 j this)]
   simp only [List.map_cons, List.map_nil]
   rw [e]
  ·rw [K_cons x r hr] at hs
   have h1 : crAt s x.length := (crL s _).mpr ⟨by rw [hs]; exact (get_mid x _ 0), by rw [hs]; exact get_mid x _ 1⟩
   have h0 : ∀ j, j < x.length → ¬ crAt s j := fun j hj h => by
    have := ((crL s j).mp h).1
    rw [hs, List.getElem?_append_left hj] at this
    exact not_13 hx.2 j this
   have h2 := ih hr (fun y hy => hok y (List.mem_cons_of_mem _ hy)) (s.extract (x.length + 2) s.size) (by
    rw [Lib.extract_to_end, hs, List.drop_append]
    simp)
   rw [split_hit s x.length h1 h0, h2, List.map_cons]
   congr 1
   apply ba_ext
   rw [Lib.extract_from_zero, hs, data_mk, List.take_append]
   simp
theorem bytes_mem {s : ByteArray} {p : Int → Bool} (h : (bytesOf s).all p = true) : ∀ c ∈ s.data.toList, p (c.toNat : Int) = true := by
 intro c hc
 rw [List.all_eq_true] at h
 exact h _ (List.mem_map.mpr ⟨c, hc, rfl⟩)
theorem tokB_no : tokB 13 = false ∧ tokB 32 = false ∧ tokB 58 = false := by decide +kernel
theorem tok_no {m : ByteArray} (h : tokT m = true) (c : UInt8) (hc : tokB (c.toNat : Int) = false) : c ∉ m.data.toList := fun hm => by
 unfold tokT at h
 rw [Bool.and_eq_true] at h
 have := bytes_mem h.1 c hm
 rw [hc] at this
 cases this
theorem tgt_no {t : ByteArray} (h : tgtT t = true) (c : UInt8) (hc : c.toNat ≤ 32) : c ∉ t.data.toList := fun hm => by
 unfold tgtT at h
 rw [Bool.and_eq_true] at h
 have := bytes_mem h.1 c hm
 unfold tgtB at this
 rw [Bool.and_eq_true] at this
 have := of_decide_eq_true this.1
 omega
theorem pr_no {v : ByteArray} (h : prT v = true) : (13 : UInt8) ∉ v.data.toList := fun hm => by
 have := bytes_mem h 13 hm
 exact absurd this (by decide)
theorem cut_app (a b : List UInt8) (c : UInt8) (h : c ∉ a) (s : ByteArray) (hs : s.data.toList = a ++ c :: b) : cutT s ⟨#[c]⟩ = (⟨a.toArray⟩, ⟨b.toArray⟩, true) := by
 have hl : s.size = a.length + 1 + b.length := by rw [← data_length, hs]; simp; omega
 rw [cut_at s c a.length (by omega) (by rw [hs]; exact get_mid a _ 0) (fun j hj e => by
  rw [hs, List.getElem?_append_left hj] at e
  exact h (List.mem_of_getElem? e))]
 refine Prod.ext (ba_ext ?_) (Prod.ext (ba_ext ?_) rfl)
 ·rw [Lib.extract_from_zero, hs, data_mk, List.take_append]; simp
 ·rw [Lib.extract_to_end, hs, data_mk, List.drop_append]; simp
def lineL (f : S75) : List UInt8 := f.f0.data.toList ++ 58 :: 32 :: f.f1.data.toList
theorem lineF_data (f : S75) : (lineF f).data.toList = lineL f ++ [13, 10] := by
 unfold lineF lineL
 simp [ByteArray.data_append]
theorem headGo_data : ∀ (l : List S75) (acc : ByteArray), (headGo acc l).data.toList = acc.data.toList ++ J (l.map lineL) := by
 intro l
 induction l with
 | nil => intro acc; simp [headGo, J, ByteArray.data_append]
 | cons f l ih =>
  intro acc
  simp only [headGo, List.map_cons, J]
  rw [ih, ByteArray.data_append, Array.toList_append, lineF_data]
  simp
theorem headX_data (s : ByteArray) (l : List S75) : (headX s l).data.toList = J (s.data.toList :: l.map lineL) := by
 unfold headX
 rw [headGo_data, ByteArray.data_append, Array.toList_append]
 simp [J]
theorem first_data (m t : ByteArray) : (firstT m t).data.toList = m.data.toList ++ 32 :: (t.data.toList ++ 32 :: verL) := by
 unfold firstT
 simp [ByteArray.data_append, verL]
theorem mk_data (s : ByteArray) : (⟨s.data.toList.toArray⟩ : ByteArray) = s := ba_ext (by rw [data_mk])
theorem good_first (m t : ByteArray) (h1 : tokT m = true) (h2 : m.size ≤ 10) (h3 : tgtT t = true) : goodL (firstT m t) = true ∧ methL (firstT m t) = m ∧ targL (firstT m t) = t := by
 have c1 := cut_app m.data.toList (t.data.toList ++ 32 :: verL) 32 (tok_no h1 32 tokB_no.2.1) (firstT m t) (first_data m t)
 have c2 := cut_app t.data.toList verL 32 (tgt_no h3 32 (by decide)) ⟨(t.data.toList ++ 32 :: verL).toArray⟩ (data_mk _)
 unfold goodL methL targL
 rw [c1]
 simp only
 rw [c2]
 simp only [mk_data]
 refine ⟨?_, trivial, trivial⟩
 rw [h1, h3, decide_eq_true (show (m.size : Int) ≤ 10 by omega), decide_eq_true (show (⟨verL.toArray⟩ : ByteArray).toList = verL by rw [ByteArray.toList_eq])]
 rfl
theorem good_parts {f : S75} (h : goodT f.f0 f.f1 = true) : tokT f.f0 = true ∧ prT f.f1 = true ∧ trimT f.f1 = f.f1 := by
 unfold goodT at h
 simp only [Bool.and_eq_true] at h
 refine ⟨h.1.1, h.1.2.2, ?_⟩
 have := beq_iff_eq.mp h.2
 rw [ByteArray.toList_eq, ByteArray.toList_eq] at this
 exact ba_ext this
theorem field_back : ∀ (l acc : List S75), acc.length + l.length ≤ 40 → (∀ f ∈ l, goodT f.f0 f.f1 = true ∧ isN f teB = false) → fieldT acc ((l.map lineL).map (fun x => (⟨x.toArray⟩ : ByteArray))) = some (acc ++ l) := by
 intro l
 induction l with
 | nil => intro acc _ _; simp [fieldT]
 | cons f l ih =>
  intro acc hl h
  obtain ⟨g1, g2⟩ := h f (List.mem_cons_self ..)
  obtain ⟨p1, p2, p3⟩ := good_parts g1
  have c1 := cut_app f.f0.data.toList (32 :: f.f1.data.toList) 58 (tok_no p1 58 tokB_no.2.2) ⟨(lineL f).toArray⟩ (data_mk _)
  have c2 : trimT ⟨(32 :: f.f1.data.toList).toArray⟩ = f.f1 := by
   have : trimT ⟨(32 :: f.f1.data.toList).toArray⟩ = trimT f.f1 := by
    unfold trimT
    rw [data_mk, trim_comm, trim_comm, lt_cons, if_pos rfl]
   rw [this, p3]
  simp only [List.length_cons] at hl
  simp only [List.map_cons, fieldT, c1, c2, mk_data]
  rw [if_pos ⟨trivial, g1, by omega, g2⟩, ih _ (by rw [List.length_append, List.length_singleton]; omega) (fun g hg => h g (List.mem_cons_of_mem _ hg))]
  simp
theorem lines_ok (m t : ByteArray) (l : List S75) (h1 : tokT m = true) (h3 : tgtT t = true) (h : ∀ f ∈ l, goodT f.f0 f.f1 = true) : ∀ x ∈ (firstT m t).data.toList :: l.map lineL, lineOk x := by
 intro x hx
 rcases List.mem_cons.mp hx with rfl | hx
 ·rw [first_data]
  refine ⟨by simp, fun h13 => ?_⟩
  rcases List.mem_append.mp h13 with a | a
  ·exact tok_no h1 13 tokB_no.1 a
  ·rcases List.mem_cons.mp a with a | a
   ·exact absurd a (by decide)
   ·rcases List.mem_append.mp a with a | a
    ·exact tgt_no h3 13 (by decide) a
    ·exact absurd a (by decide)
 ·obtain ⟨f, hf, rfl⟩ := List.mem_map.mp hx
  obtain ⟨p1, p2, _⟩ := good_parts (h f hf)
  unfold lineL
  refine ⟨by simp, fun h13 => ?_⟩
  rcases List.mem_append.mp h13 with a | a
  ·exact tok_no p1 13 tokB_no.1 a
  ·rcases List.mem_cons.mp a with a | a
   ·exact absurd a (by decide)
   ·rcases List.mem_cons.mp a with a | a
    ·exact absurd a (by decide)
    ·exact pr_no p2 a

theorem torn (m t b : ByteArray) (l : List S75) (hs : SmG l) (h1 : tokT m = true) (h2 : m.size ≤ 10) (h3 : tgtT t = true) (h4 : fieldsB l = true) (hH : (headX (firstT m t) l).size ≤ 2000) (hb : b.size ≤ 300)
  (q : Option (Option Nat)) (q1 : Ev (fun k => impl_lengthOf.f k l) (outI q)) (q2 : (outI q).2.2 = true) (q3 : (outI q).1 = (b.size : Int)) (q4 : valT l teB = []) (j : Nat) (hj : j < (headX (firstT m t) l ++ b).size) :
  Ev (fun k => impl_TakeRequest.f k ((headX (firstT m t) l ++ b).extract 0 j)) (noReq 1) := by
 unfold fieldsB at h4
 rw [Bool.and_eq_true] at h4
 have hgood : ∀ f ∈ l, goodT f.f0 f.f1 = true := List.all_eq_true.mp h4.1
 have hl40 : l.length ≤ 40 := by have := of_decide_eq_true h4.2; omega
 have hte : ∀ f ∈ l, isN f teB = false := by
  unfold valT at q4
  rw [List.map_eq_nil_iff, List.filter_eq_nil_iff] at q4
  intro f hf
  exact Bool.eq_false_iff.mpr (q4 f hf)
 have hok := lines_ok m t l h1 h3 hgood
 obtain ⟨ls, hls⟩ : ∃ ls, ls = (firstT m t).data.toList :: l.map lineL := ⟨_, rfl⟩
 rw [← hls] at hok
 have hne : ls ≠ [] := by rw [hls]; simp
 have hHd : (headX (firstT m t) l).data.toList = J ls := by rw [hls]; exact headX_data _ _
 generalize hHe : headX (firstT m t) l = H at *
 obtain ⟨S, hS⟩ : ∃ S, S = H ++ b := ⟨_, rfl⟩
 rw [← hS] at hj ⊢
 have hSd : S.data.toList = J ls ++ b.data.toList := by rw [hS, ByteArray.data_append, Array.toList_append, hHd]
 have hSz : S.size = H.size + b.size := by rw [hS, ByteArray.size_append]
 have hJl : (J ls).length = H.size := by rw [← hHd, data_length]
 have hKl : (K ls).length + 4 = H.size := by rw [← hJl, J_K ls hne]; simp
 have hSK : S.data.toList = K ls ++ ([13, 10, 13, 10] ++ b.data.toList) := by rw [hSd, J_K ls hne]; simp
 obtain ⟨P, hP⟩ : ∃ P, P = S.extract 0 j := ⟨_, rfl⟩
 rw [← hP]
 have hPz : P.size = j := by rw [hP, ByteArray.size_extract]; omega
 have hcc : ∀ i, ccAt P i ↔ i + 3 < j ∧ ccAt S i := by
  intro i
  unfold ccAt
  rw [hP, cr_ext S 0 j i (by omega), cr_ext S 0 j (i + 2) (by omega), Nat.zero_add, Nat.zero_add]
  constructor
  ·rintro ⟨⟨a, c⟩, d, e⟩; exact ⟨by omega, c, e⟩
  ·rintro ⟨a, c, d⟩; exact ⟨⟨by omega, c⟩, by omega, d⟩
 have hlast : ccAt S (K ls).length := (ccL S _).mpr (by
  rw [hSK]
  exact ⟨get_mid (K ls) _ 0, get_mid (K ls) _ 1, get_mid (K ls) _ 2, get_mid (K ls) _ 3⟩)
 have hfirst : ∀ i, ccAt S i → H.size ≤ i + 4 := fun i hi => by
  have := (ccL S i).mp hi
  rw [hSd] at this
  have := cc_first ls hok _ i this
  omega
 rcases head_cases P with ⟨g1, g2⟩ | ⟨e, g1, g2, g3⟩
 ·have hlt : j < H.size := by
   rcases Nat.lt_or_ge j H.size with c | c
   ·exact c
   ·exact absurd ((hcc _).mpr ⟨by omega, hlast⟩) (g2 _)
  refine impl_code P 1 (by decide) ⟨#[]⟩ 0 [] (⟨#[]⟩, ⟨#[]⟩) (Ev.congr (fun k => ?_) (Ev.now _))
  unfold takeF
  rw [if_pos (by omega), g1, if_pos (by omega), if_neg (by omega)]
 ·have g4 := (hcc e).mp g2
  have g5 := hfirst e g4.2
  have he : e = (K ls).length := by
   rcases Nat.lt_or_ge (K ls).length e with c | c
   ·exact absurd ((hcc _).mpr ⟨by omega, hlast⟩) (g3 _ c)
   ·omega
  have hPK : (P.extract 0 e).data.toList = K ls := by
   rw [Lib.extract_from_zero, hP, Lib.extract_from_zero, hSK, he, List.take_take, Nat.min_eq_left (by omega), List.take_append]
   simp
  have hlines : headLines P = ls.map (fun x => (⟨x.toArray⟩ : ByteArray)) := by
   unfold headLines
   rw [g1, Int.toNat_natCast]
   exact split_K ls hne hok _ hPK
  rw [hls, List.map_cons, mk_data] at hlines
  have hz := first_size m t (by omega) (by have := h3; unfold tgtT at this; rw [Bool.and_eq_true, Bool.and_eq_true] at this; have := of_decide_eq_true this.2.2; omega)
  obtain ⟨f1, f2, f3⟩ := good_first m t h1 h2 h3
  obtain ⟨a, st, ha, hg⟩ := tr1_is (firstT m t) (by omega)
  obtain ⟨e1, e2⟩ := hg f1
  have hD : (headLines P).drop 1 = (l.map lineL).map (fun x => (⟨x.toArray⟩ : ByteArray)) := by rw [hlines]; rfl
  have hbk := field_back l [] (by simp only [List.length_nil]; omega) (fun f hf => ⟨hgood f hf, hte f hf⟩)
  rw [← hD, List.nil_append] at hbk
  have hDx : ∀ x ∈ (headLines P).drop 1, x.size ≤ 1000000000 := by
   intro x hx
   have h9 := split_mem crlf _ _ x (List.mem_of_mem_drop hx)
   rw [ByteArray.size_extract] at h9
   omega
  have hfi := fieldsI_loop ((headLines P).drop 1) (by rw [hD]; simp only [List.length_map]; omega) hDx ((headLines P).drop 1).length 0 [] (by omega) (by simp)
  rw [List.drop_zero, hbk] at hfi
  have hfi2 : Ev (fun k => impl_fieldsOf.f k ((headLines P).drop 1)) (l, true) := hfi
  have h0 : rdOf ByteArray.empty (headLines P) 0 = firstT m t := by rw [hlines]; rfl
  refine impl_code P 1 (by decide) ⟨#[]⟩ 0 [] st ?_
  unfold takeF
  simp only [g1, h0, ha, f1, Option.bind_some]
  refine Ev.congr (fun k => by rw [if_pos (by omega), if_neg (by omega), if_neg (by omega), if_pos (by omega), if_pos trivial]) (Ev.bind hfi2 ?_)
  simp only [if_true]
  refine Ev.bind q1 (Ev.congr (f := fun _ => some ([], ⟨#[]⟩, 0, 1, st)) (fun k => ?_) (Ev.now _))
  rw [if_pos q2, q3, if_neg (by omega), if_pos (by omega)]
theorem smG_of {b : ByteArray} {l : List S75} (h : SmM b l) : SmG l ∧ b.size ≤ 300 := ⟨⟨h.2.1, h.2.2⟩, by have := h.1; omega⟩
theorem headF_ok : HeadF := by
 intro m t b l hm ht h
 obtain ⟨e1, _⟩ := first_is m t b l (by omega) (by omega)
 obtain ⟨x1, _, x3, _⟩ := headX_is (firstT m t) l (by have := first_size m t (by omega) (by omega); omega) (smG_of h).1
 obtain ⟨k, hk⟩ := x1.rounds
 refine ⟨k, firstT m t, _, e1, hk, ?_⟩
 have : (firstT m t).size ≤ 40 := by
  rw [← data_length, first_data]
  simp only [List.length_append, List.length_cons, data_length, verL, List.length_nil]
  omega
 omega
theorem bytes_ok (m t b : ByteArray) (l : List S75) (hm : m.size ≤ 11) (ht : t.size ≤ 9) (h : SmM b l) : ∃ k k' s s' ok, impl_RequestBytes.f k m t l b = some (s, ok) ∧ spec_RequestBytes.f k' m t l b = some (s', ok) ∧
  (ok = true → 0 < s.size ∧ s.size ≤ 5000 ∧ ∀ j : Nat, j < s.size → ∃ k r2 r3 r4, impl_TakeRequest.f k (s.extract 0 j) = some (⟨#[]⟩, r2, r3, r4, 0, 1)) := by
 obtain ⟨hg, hb⟩ := smG_of h
 obtain ⟨r, s, b1, b2, b3⟩ := bytes_total m t b l (by omega) (by omega) hb hg
 obtain ⟨k', hk'⟩ := b1.rounds
 obtain ⟨k, hk⟩ := b2.rounds
 refine ⟨k, k', s, s, r, hk, hk', fun hr => ?_⟩
 obtain ⟨rfl, c1, c2, c3, c4, c5, q, c6, c7, c8, c9⟩ := b3 hr
 obtain ⟨_, _, _, x4⟩ := headX_is (firstT m t) l (by have := first_size m t (by omega) (by omega); omega) hg
 refine ⟨by rw [ByteArray.size_append]; omega, by rw [ByteArray.size_append]; omega, fun j hj => ?_⟩
 obtain ⟨k, hk⟩ := (torn m t b l hg c1 c2 c3 c4 c5 hb q c6 c7 c8 c9 j hj).rounds
 exact ⟨k, _, _, _, hk⟩
theorem sameF_l (l : List S75) (hn : l.length ≤ 1048576) (d : Nat) : ∀ (j : Nat), j + d = l.length → Ev (fun k => laws_sameFields.l0 k l l (l.length : Int) (j : Int)) true := by
 induction d with
 | zero =>
  intro j hj
  refine Ev.step (f := fun _ => some true) (fun k => ?_) (Ev.now _)
  simp only [laws_sameFields.l0]; rw [if_neg (by omega)]
 | succ d ih =>
  intro j hj
  have w1 : wrap64 ((j : Int) + 1) = ((j + 1 : Nat) : Int) := w2 (n := j) (Nat.le_refl _) (by omega) 1 (by omega)
  refine Ev.step (fun k => ?_) (ih (j + 1) (by omega))
  simp only [laws_sameFields.l0]
  rw [if_pos (by omega), if_pos (by omega), if_pos (by omega), if_pos (by omega), if_neg (by simp), w1]
theorem sameF_ev (l : List S75) (hn : l.length ≤ 1048576) : Ev (fun k => laws_sameFields.f k l l) true := by
 refine Ev.congr (fun k => ?_) (sameF_l l hn l.length 0 (by omega))
 unfold laws_sameFields.f
 rw [if_pos rfl]
 rfl
theorem req_ok (s : ByteArray) (hs : s.size ≤ 5000) : ∃ k a1 a2 a3 a4 n c, impl_TakeRequest.f k s = some (a1, a2, a3, a4, n, c) ∧ ∃ k' b1 b2 b3 b4, spec_TakeRequest.f k' s = some (b1, b2, b3, b4, n, c) ∧ ∃ k2, laws_sameRequests.f k2 a1 a2 a3 a4 b1 b2 b3 b4 = some true := by
 obtain ⟨⟨a1, a2, a3, a4, n, c⟩, h1, h2, h3⟩ := take_both s (by omega)
 obtain ⟨k, hk⟩ := h2.rounds
 obtain ⟨k', hk'⟩ := h1.rounds
 have h4 : Ev (fun k => laws_sameRequests.f k a1 a2 a3 a4 a1 a2 a3 a4) true := by
  unfold laws_sameRequests.f
  simp only [if_true]
  exact Ev.bind (sameF_ev a3 (by simp only at h3; omega)) (Ev.now _)
 obtain ⟨k2, hk2⟩ := h4.rounds
 exact ⟨k, a1, a2, a3, a4, n, c, hk, k', a1, a2, a3, a4, hk', k2, hk2⟩
theorem ans_ok (s : ByteArray) (hs : s.size ≤ 5000) : ∃ k a1 a2 a3 a4 n c, impl_TakeResponse.f k s = some (a1, a2, a3, a4, n, c) ∧ ∃ k' b1 b2 b3 b4, spec_TakeResponse.f k' s = some (b1, b2, b3, b4, n, c) ∧ ∃ k2, laws_sameAnswers.f k2 a1 a2 a3 a4 b1 b2 b3 b4 = some true := by
 obtain ⟨⟨a1, a2, a3, a4, n, c⟩, h1, h2, h3⟩ := take_bothR s (by omega)
 obtain ⟨k, hk⟩ := h2.rounds
 obtain ⟨k', hk'⟩ := h1.rounds
 have h4 : Ev (fun k => laws_sameAnswers.f k a1 a2 a3 a4 a1 a2 a3 a4) true := by
  unfold laws_sameAnswers.f
  simp only [if_true]
  exact Ev.bind (sameF_ev a3 (by simp only at h3; omega)) (Ev.now _)
 obtain ⟨k2, hk2⟩ := h4.rounds
 exact ⟨k, a1, a2, a3, a4, n, c, hk, k', a1, a2, a3, a4, hk', k2, hk2⟩
theorem num_l (l : List Int) (hy : BytD l) (hl : l.length ≤ 1048576) : ∀ (d j : Nat) (x : Int), j + d = l.length → 0 ≤ x → x ≤ 1000003 → ∃ n, Ev (fun k => laws_numberOf.l0 k x l (l.length : Int) (j : Int)) n ∧ 0 ≤ n ∧ n ≤ 1000003 := by
 intro d
 induction d with
 | zero =>
  intro j x hj h0 h1
  refine ⟨x, Ev.step (f := fun _ => some x) (fun k => ?_) (Ev.now _), h0, h1⟩
  simp only [laws_numberOf.l0]; rw [if_neg (by omega)]
 | succ d ih =>
  intro j x hj h0 h1
  have w1 : wrap64 ((j : Int) + 1) = ((j + 1 : Nat) : Int) := w2 (n := j) (Nat.le_refl _) (by omega) 1 (by omega)
  have hr := rdD hy j (by omega)
  obtain ⟨n, h, h2, h3⟩ := ih (j + 1) (Int.tmod (31 * x + rd l (j : Int)) 1000003) (by omega) (Int.tmod_nonneg _ (by omega)) (Int.le_of_lt (Int.tmod_lt_of_pos _ (by omega)))
  refine ⟨n, Ev.step (fun k => ?_) h, h2, h3⟩
  simp only [laws_numberOf.l0]
  rw [if_pos (by omega), if_pos (by omega), if_pos (by omega), w1, w64 (x := 31 * x) (by omega) (by omega), w64 (x := rd l (j : Int)) (by omega) (by omega), w64 (by omega) (by omega)]
theorem num_ok (l : List Int) (hy : BytD l) (hl : l.length ≤ 1048576) : ∃ k n, laws_numberOf.f k l = some n ∧ 0 ≤ n ∧ n ≤ 1000003 := by
 obtain ⟨n, h, h0, h1⟩ := num_l l hy hl l.length 0 0 (by omega) (by omega) (by omega)
 obtain ⟨k, hk⟩ := h.rounds
 exact ⟨k, n, hk, h0, h1⟩
theorem dig_size (n : Nat) (h : n < 1000) : (Lib.decDigits n).length ≤ 3 := by
 have key : ∀ c : Fin 1000, (Lib.decDigits c.val).length ≤ 3 := by decide +kernel
 exact key ⟨n, h⟩
theorem respF_ok : RespF := by
 intro st rs b l hst hrs h
 obtain ⟨hg, hb⟩ := smG_of h
 obtain ⟨fr, f1, _, _⟩ := framed_total l b hg hb
 obtain ⟨a1, _⟩ := fields_total l hg
 obtain ⟨n, rfl⟩ : ∃ n : Nat, st = (n : Int) := ⟨st.toNat, by omega⟩
 have hn := num_is n (by omega)
 have hd := dig_size n (by omega)
 obtain ⟨N, hN⟩ : ∃ N : ByteArray, N = ⟨(Lib.decDigits n).toArray⟩ := ⟨_, rfl⟩
 have hNz : N.size ≤ 3 := by rw [← data_length, hN, data_mk]; exact hd
 rw [← hN] at hn
 have z9 : (⟨#[72, 84, 84, 80, 47, 49, 46, 49, 32]⟩ : ByteArray).size = 9 := rfl
 obtain ⟨F, hF⟩ : ∃ F, F = (((⟨#[72, 84, 84, 80, 47, 49, 46, 49, 32]⟩ : ByteArray) ++ N) ++ (⟨#[32]⟩ : ByteArray)) ++ rs := ⟨_, rfl⟩
 have hFz : F.size ≤ 30 := by rw [hF]; simp only [ByteArray.size_append, size_lit1, z9]; omega
 have hstat : Ev (fun k => spec_l4Status.f k (n : Int) rs l b) F := by
  refine Ev.bind hn (Ev.congr (f := fun _ => some F) (fun k => ?_) (Ev.now _))
  rw [if_pos (by omega), if_pos (by rw [ByteArray.size_append, z9]; omega), if_pos (by simp only [ByteArray.size_append, size_lit1, z9]; omega), hF]
 obtain ⟨x1, _, x3, _⟩ := headX_is F l (by omega) hg
 have hgood : ∃ r, Ev (fun k => spec_GoodResponse.f k (n : Int) rs l b) r := by
  unfold spec_GoodResponse.f
  simp only [l1In_is, Option.bind_some]
  cases (decide ((100 : Int) ≤ (n : Int)) && decide ((n : Int) ≤ 599)) with
  | false => exact ⟨false, Ev.congr (f := fun _ => some false) (fun k => by rw [if_neg (by simp)]) (Ev.now _)⟩
  | true =>
   simp only [if_true]
   have hre := reason_spec rs (by omega)
   cases hc : (prT rs && decide ((rs.size : Int) ≤ 40)) with
   | false => rw [hc] at hre; exact ⟨false, Ev.bind hre (Ev.congr (f := fun _ => some false) (fun k => by rw [if_neg (by simp)]) (Ev.now _))⟩
   | true =>
    rw [hc] at hre
    cases hb2 : fieldsB l with
    | false => rw [hb2] at a1; exact ⟨false, Ev.bind hre (by simp only [if_true]; exact Ev.bind a1 (Ev.congr (f := fun _ => some false) (fun k => by rw [if_neg (by simp)]) (Ev.now _)))⟩
    | true =>
     rw [hb2] at a1
     cases fr with
     | false => exact ⟨false, Ev.bind hre (by simp only [if_true]; exact Ev.bind a1 (by simp only [if_true]; exact Ev.bind f1 (Ev.congr (f := fun _ => some false) (fun k => by rw [if_neg (by simp)]) (Ev.now _))))⟩
     | true => exact ⟨_, Ev.bind hre (by simp only [if_true]; exact Ev.bind a1 (by simp only [if_true]; exact Ev.bind f1 (by simp only [if_true]; exact Ev.bind hstat (Ev.bind x1 (Ev.now _)))))⟩
 obtain ⟨r, hr⟩ := hgood
 cases r with
 | false =>
  obtain ⟨k, hk⟩ := (show Ev (fun k => spec_ResponseBytes.f k (n : Int) rs l b) (⟨#[]⟩, false) from Ev.bind hr (Ev.congr (f := fun _ => some (⟨#[]⟩, false)) (fun k => by rw [if_neg (by simp)]) (Ev.now _))).rounds
  exact ⟨k, _, _, hk, by decide⟩
 | true =>
  obtain ⟨k, hk⟩ := (show Ev (fun k => spec_ResponseBytes.f k (n : Int) rs l b) (headX F l ++ b, true) from Ev.bind hr (by simp only [if_true]; exact Ev.bind hstat (Ev.bind x1 (Ev.congr (f := fun _ => some (headX F l ++ b, true)) (fun k => by rw [if_pos (by omega)]) (Ev.now _))))).rounds
  exact ⟨k, _, _, hk, by rw [ByteArray.size_append]; omega⟩
theorem FnTorn : TornFacts := ⟨headF_ok, respF_ok, bytes_ok, num_ok, req_ok, ans_ok⟩

end Go.Proofs.YthneflfbafieeaaGreatDoor.Pure
