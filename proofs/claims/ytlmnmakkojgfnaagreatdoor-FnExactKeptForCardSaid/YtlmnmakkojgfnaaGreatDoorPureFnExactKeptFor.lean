/- What FnExactKeptFor says of what the program computes, for every gateway and key: the program and the reference tell the same number of items. -/
import Derived.Test.YtlmnmakkojgfnaaGreatDoorPFnExactKeptForx21
namespace Go.Proofs.YtlmnmakkojgfnaaGreatDoor.Pure
open Go.RowKit Go.Proofs.YtlmnmakkojgfnaaGreatDoor.PFnExactKeptFor Go.Proofs.YtlmnmakkojgfnaaGreatDoorW.PrintWords Go.Proofs.YtlmnmakkojgfnaaGreatDoorW.PrintLast Go.Proofs.YtlmnmakkojgfnaaGreatDoorW.PrintMore Go.Proofs.YtlmnmakkojgfnaaGreatDoorOwn
set_option linter.unusedVariables false
set_option linter.unusedSimpArgs false

theorem w64 {x : Int} (h0 : -9223372036854775808 ≤ x) (h1 : x ≤ 9223372036854775807) : wrap64 x = x := by
  unfold wrap64; omega
theorem getD_at {α : Type} {l : List α} {j : Nat} (h : j < l.length) (z : α) : l.getD j z = l[j] := by
  rw [List.getD_eq_getElem?_getD, List.getElem?_eq_getElem h]; rfl
theorem Ev.law {g : Nat → Option Bool} (h : Ev g true) : ∃ k, g k = some true := h.rounds
theorem fin_of (s : ByteArray) (i : Int) : ∃ c : Fin 256, bt s i = (c.val : Int) := by
  have h := bt_range s i
  exact ⟨⟨(bt s i).toNat, by omega⟩, by simp only; omega⟩
theorem bytes_fin (s : ByteArray) : ∀ x ∈ bytesOf s, ∃ c : Fin 256, x = (c.val : Int) := by
  intro x hx
  unfold bytesOf at hx
  obtain ⟨u, _, rfl⟩ := List.mem_map.mp hx
  exact ⟨⟨u.toNat, u.toNat_lt⟩, rfl⟩
theorem w2 {i n : Nat} (h : i ≤ n) (hn : n ≤ 1125899906842624) (j : Nat) (hj : j ≤ 5) : wrap64 ((i : Int) + (j : Int)) = ((i + j : Nat) : Int) := by unfold wrap64; omega
theorem bytes_drop (s : ByteArray) (i : Nat) (h : i < s.size) : (bytesOf s).drop i = bt s (i : Int) :: (bytesOf s).drop (i + 1) := by
  have hl : i < (bytesOf s).length := by rw [bytesOf_length]; exact h
  rw [List.drop_eq_getElem_cons hl]
  congr 1
  rw [← getD_at hl 0]
  exact (rd_bytesOf s (i : Int))
/-- A loop that asks each byte. -/
theorem all_loop (L : Nat → Int → Option Bool) (s : ByteArray) (p : Int → Bool) (e : Bool)
    (st : ∀ i : Nat, i < s.size → ∀ r, Ev (fun k => L k ((i + 1 : Nat) : Int)) r → Ev (fun k => L k (i : Int)) (p (bt s (i : Int)) && r))
    (fin : Ev (fun k => L k (s.size : Int)) e) : Ev (fun k => L k 0) ((bytesOf s).all p && e) := by
  have go : ∀ (d i : Nat), i + d = s.size → Ev (fun k => L k (i : Int)) (((bytesOf s).drop i).all p && e) := by
    intro d
    induction d with
    | zero =>
      intro i hi
      have hi' : i = s.size := by omega
      subst hi'
      rw [List.drop_of_length_le (by rw [bytesOf_length]; exact Nat.le_refl _)]
      simpa using fin
    | succ d ih =>
      intro i hi
      rw [bytes_drop s i (by omega), List.all_cons, Bool.and_assoc]
      exact st i (by omega) _ (ih (i + 1) (by omega))
  have h := go s.size 0 (by omega)
  rw [List.drop_zero] at h
  exact h
def tokB (c : Int) : Bool := (impl_isToken_1.f c).getD false
def prB (c : Int) : Bool := decide (32 ≤ c) && decide (c ≤ 126)
theorem tok_fin : ∀ c : Fin 256, impl_isToken_1.f (c.val : Int) = some (tokB (c.val : Int)) ∧ spec_l3TokenByte.f 20 (c.val : Int) = some (tokB (c.val : Int)) := by decide +kernel
theorem pr_is (c : Int) : impl_isPrinted_1.f c = some (prB c) := by
  unfold impl_isPrinted_1.f prB
  by_cases h : c ≥ 32
  · rw [if_pos h, decide_eq_true (show 32 ≤ c from h)]; rfl
  · rw [if_neg h, decide_eq_false (show ¬ 32 ≤ c from h)]; rfl
theorem within_is (a lo hi : Int) : impl_within.f a lo hi = some (decide (lo ≤ a) && decide (a ≤ hi)) := by
  unfold impl_within.f
  by_cases c : lo ≤ a
  · rw [if_pos c, decide_eq_true c]; rfl
  · rw [if_neg c, decide_eq_false c]; rfl
theorem l1In_is (a lo hi : Int) : spec_l1In.f a lo hi = some (decide (lo ≤ a) && decide (a ≤ hi)) := by
  unfold spec_l1In.f
  by_cases c : a ≥ lo
  · rw [if_pos c, decide_eq_true (show lo ≤ a from c)]; rfl
  · rw [if_neg c, decide_eq_false (show ¬ lo ≤ a from c)]; rfl
def tokT (s : ByteArray) : Bool := (bytesOf s).all tokB && (decide ((1 : Int) ≤ (s.size : Int)) && decide ((s.size : Int) ≤ 60))
def prT (s : ByteArray) : Bool := (bytesOf s).all prB
theorem tok_impl (s : ByteArray) (hz : s.size ≤ 1125899906842624) : impl_isToken.f s = some (tokT s) := by
  unfold impl_isToken.f tokT
  rw [within_is, Option.bind_some]
  have h : impl_areBytes_180.f s = some ((bytesOf s).all tokB) := by
    unfold impl_areBytes_180.f
    rw [if_pos (by omega)]
    exact allO_all' (bytesOf s) (fun x hx => by obtain ⟨c, rfl⟩ := bytes_fin s x hx; exact (tok_fin c).1)
  rw [h]
  generalize (decide ((1 : Int) ≤ (s.size : Int)) && decide ((s.size : Int) ≤ 60)) = z
  cases z <;> simp
theorem pr_impl (s : ByteArray) (m : Int) (hz : s.size ≤ 1125899906842624) : impl_isPrinted.f s m = some (decide ((s.size : Int) ≤ m) && prT s) := by
  unfold impl_isPrinted.f prT
  have h : impl_areBytes_197.f s = some ((bytesOf s).all prB) := by
    unfold impl_areBytes_197.f
    rw [if_pos (by omega)]
    exact allO_all' (bytesOf s) (fun x _ => pr_is x)
  rw [h]
  by_cases c : (s.size : Int) ≤ m
  · rw [if_pos c, decide_eq_true c]; rfl
  · rw [if_neg c, decide_eq_false c]; rfl
theorem tok_spec (s : ByteArray) (hz : s.size ≤ 1125899906842624) : Ev (fun k => spec_l3Token.f k s) (tokT s) := by
  refine all_loop (fun k i => spec_l3Token.l0 k s i) s tokB (decide ((1 : Int) ≤ (s.size : Int)) && decide ((s.size : Int) ≤ 60)) (fun i hi r h => ?_) (Ev.step (f := fun _ => some (decide ((1 : Int) ≤ (s.size : Int)) && decide ((s.size : Int) ≤ 60))) (fun k => ?_) (Ev.now _))
  · obtain ⟨c, hc⟩ := fin_of s (i : Int)
    refine Ev.step (f := fun k => (spec_l3TokenByte.f k (bt s (i : Int))).bind fun t108 => if t108 = true then spec_l3Token.l0 k s ((i + 1 : Nat) : Int) else some false) (fun k => ?_) ?_
    · simp only [spec_l3Token.l0]
      rw [if_pos (by omega), if_pos (by omega), show wrap64 ((i : Int) + 1) = ((i + 1 : Nat) : Int) from w2 (Nat.le_of_lt hi) hz 1 (by omega)]
    · rw [hc]
      refine Ev.bind (Ev.of (fun k => spec_l3TokenByte.mono _ _) (tok_fin c).2) ?_
      cases tokB (c.val : Int) with
      | true => exact Ev.congr (fun k => by rw [if_pos rfl]) (by simpa using h)
      | false => simp only [Bool.false_and]; exact Ev.congr (fun k => by rw [if_neg (by simp)]) (Ev.now _)
  · simp only [spec_l3Token.l0]
    rw [if_neg (by omega), l1In_is]
    rfl
theorem pr_spec (s : ByteArray) (hz : s.size ≤ 1125899906842624) : Ev (fun k => spec_l3Printed.f k s) (prT s) := by
  have h0 := all_loop (fun k i => spec_l3Printed.l0 k s i) s prB true (fun i hi r h => ?_) (Ev.step (f := fun _ => some true) (fun k => ?_) (Ev.now _))
  · rw [Bool.and_true] at h0; exact h0
  · refine Ev.step (f := fun k => if bt s (i : Int) < 32 then some false else if bt s (i : Int) > 126 then some false else spec_l3Printed.l0 k s ((i + 1 : Nat) : Int)) (fun k => ?_) ?_
    · simp only [spec_l3Printed.l0]
      rw [if_pos (by omega), if_pos (by omega), show wrap64 ((i : Int) + 1) = ((i + 1 : Nat) : Int) from w2 (Nat.le_of_lt hi) hz 1 (by omega)]
    · unfold prB
      by_cases c1 : bt s (i : Int) < 32
      · rw [decide_eq_false (show ¬ 32 ≤ bt s (i : Int) by omega)]
        simp only [Bool.true_and, Bool.false_and, Bool.and_false]
        exact Ev.congr (fun k => by rw [if_pos c1]) (Ev.now _)
      · rw [decide_eq_true (show 32 ≤ bt s (i : Int) by omega)]
        by_cases c2 : bt s (i : Int) > 126
        · rw [decide_eq_false (show ¬ bt s (i : Int) ≤ 126 by omega)]
          simp only [Bool.true_and, Bool.false_and, Bool.and_false]
          exact Ev.congr (fun k => by rw [if_neg c1, if_pos c2]) (Ev.now _)
        · rw [decide_eq_true (show bt s (i : Int) ≤ 126 by omega)]
          exact Ev.congr (fun k => by rw [if_neg c1, if_neg c2]) (by simpa using h)
  · simp only [spec_l3Printed.l0]
    rw [if_neg (by omega)]
theorem bt_get (s : ByteArray) (i : Nat) (c : UInt8) (hi : i < s.size) : bt s (i : Int) = (c.toNat : Int) ↔ s.data.toList[i]? = some c := by
  have h' : i < s.data.toList.length := by rw [data_length]; exact hi
  rw [← rd_bytesOf]
  show (bytesOf s).getD i 0 = _ ↔ _
  unfold bytesOf
  rw [List.getD_eq_getElem?_getD, List.getElem?_map, List.getElem?_eq_getElem h']
  simp only [Option.map_some, Option.getD_some, Option.some.injEq]
  constructor
  · intro h; exact UInt8.toNat_inj.mp (by omega)
  · intro h; rw [h]
theorem ba_ext {a b : ByteArray} (h : a.data.toList = b.data.toList) : a = b := by
  obtain ⟨⟨x⟩⟩ := a
  obtain ⟨⟨y⟩⟩ := b
  simp only at h
  rw [h]
theorem data_mk (l : List UInt8) : (⟨l.toArray⟩ : ByteArray).data.toList = l := rfl
theorem rt_snoc (l : List UInt8) (x : UInt8) : Lib.trimRightS (l ++ [x]) [32] = if x = 32 then Lib.trimRightS l [32] else l ++ [x] := by
  unfold Lib.trimRightS
  rw [List.reverse_append]
  simp only [List.reverse_cons, List.reverse_nil, List.nil_append, List.singleton_append, List.dropWhile_cons]
  by_cases h : x = 32
  · rw [if_pos h, if_pos (by subst h; rfl)]
  · rw [if_neg h, if_neg (by simp [h])]
    simp
theorem rt_cons (x : UInt8) (l : List UInt8) : Lib.trimRightS (x :: l) [32] = if Lib.trimRightS l [32] = [] ∧ x = 32 then [] else x :: Lib.trimRightS l [32] := by
  unfold Lib.trimRightS
  rw [List.reverse_cons, List.dropWhile_append]
  cases h : (l.reverse.dropWhile ([32].contains ·)) with
  | nil =>
    simp only [List.isEmpty_nil, if_true, List.reverse_nil, true_and, List.dropWhile_cons]
    by_cases c : x = 32
    · rw [if_pos c, if_pos (by subst c; rfl)]; rfl
    · rw [if_neg c, if_neg (by simp [c])]; rfl
  | cons y ys =>
    simp
theorem lt_cons (x : UInt8) (l : List UInt8) : Lib.trimLeftS (x :: l) [32] = if x = 32 then Lib.trimLeftS l [32] else x :: l := by
  unfold Lib.trimLeftS
  rw [List.dropWhile_cons]
  by_cases c : x = 32
  · rw [if_pos c, if_pos (by subst c; rfl)]
  · rw [if_neg c, if_neg (by simp [c])]
theorem trim_comm (l : List UInt8) : Lib.trimS l [32] = Lib.trimRightS (Lib.trimLeftS l [32]) [32] := by
  unfold Lib.trimS
  induction l with
  | nil => rfl
  | cons x l ih =>
    rw [rt_cons, lt_cons]
    by_cases c : x = 32
    · rw [if_pos c, ← ih]
      by_cases e : Lib.trimRightS l [32] = []
      · rw [if_pos ⟨e, c⟩, e]
      · rw [if_neg (fun h => e h.1), lt_cons, if_pos c]
    · rw [if_neg c, if_neg (fun h => c h.2), lt_cons, if_neg c, rt_cons, if_neg (fun h => c h.2)]
theorem last_split (s : ByteArray) (n : Nat) (hn : s.size = n + 1) : s.data.toList = (s.extract 0 n).data.toList ++ [s.data.toList.getD n 0] := by
  have hl : n < s.data.toList.length := by rw [data_length]; omega
  rw [Lib.extract_from_zero, List.getD_eq_getElem?_getD, List.getElem?_eq_getElem hl]
  simp only [Option.getD_some]
  rw [List.take_append_getElem hl, List.take_of_length_le (by rw [data_length]; omega)]
theorem trimR_loop : ∀ (n : Nat) (s : ByteArray), s.size = n → s.size ≤ 1125899906842624 → Ev (fun k => spec_l3Trim.l1 k s) ⟨(Lib.trimRightS s.data.toList [32]).toArray⟩ := by
  intro n
  induction n with
  | zero =>
    intro s hn hz
    have he : s.data.toList = [] := List.eq_nil_of_length_eq_zero (by rw [data_length]; exact hn)
    have e1 : (⟨(Lib.trimRightS s.data.toList [32]).toArray⟩ : ByteArray) = s := ba_ext (by rw [data_mk, he]; rfl)
    rw [e1]
    refine Ev.step (f := fun _ => some s) (fun k => ?_) (Ev.now _)
    simp only [spec_l3Trim.l1]
    rw [if_neg (by omega)]
  | succ n ih =>
    intro s hn hz
    have hlt : n < s.size := by omega
    have hw : wrap64 ((s.size : Int) - 1) = (n : Int) := by unfold wrap64; omega
    have hl : n < s.data.toList.length := by rw [data_length]; omega
    have hg : s.data.toList.getD n 0 = 32 ↔ bt s (n : Int) = 32 := by
      rw [show (32 : Int) = ((32 : UInt8).toNat : Int) from rfl, bt_get s n 32 hlt, List.getD_eq_getElem?_getD, List.getElem?_eq_getElem hl]
      simp
    have hs := last_split s n hn
    have hst : ∀ k, spec_l3Trim.l1 (k + 1) s = if bt s (n : Int) = 32 then spec_l3Trim.l1 k (s.extract 0 n) else some s := by
      intro k
      simp only [spec_l3Trim.l1]
      rw [hw, if_pos (by omega), if_pos (by omega), if_pos (by omega), Int.toNat_natCast]
      by_cases c : bt s (n : Int) = 32
      · rw [if_pos c, if_pos c, if_pos (by omega)]
      · rw [if_neg c, if_neg c]
    rw [hs, rt_snoc]
    by_cases c : bt s (n : Int) = 32
    · rw [if_pos (hg.mpr c)]
      exact Ev.step (fun k => by rw [hst, if_pos c]) (ih (s.extract 0 n) (by rw [ByteArray.size_extract]; omega) (by rw [ByteArray.size_extract]; omega))
    · rw [if_neg (fun h => c (hg.mp h)), ← hs]
      exact Ev.step (f := fun _ => some s) (fun k => by rw [hst, if_neg c]) (Ev.congr (fun k => rfl) (Ev.now _))
theorem trim_loop : ∀ (n : Nat) (s : ByteArray), s.size = n → s.size ≤ 1125899906842624 → Ev (fun k => spec_l3Trim.l0 k s) (trimT s) := by
  intro n
  induction n with
  | zero =>
    intro s hn hz
    have he : s.data.toList = [] := List.eq_nil_of_length_eq_zero (by rw [data_length]; exact hn)
    have h := trimR_loop 0 s hn hz
    have e : trimT s = ⟨(Lib.trimRightS s.data.toList [32]).toArray⟩ := by unfold trimT; rw [trim_comm, he]; rfl
    rw [e]
    refine Ev.step (f := fun k => spec_l3Trim.j1 k s) (fun k => ?_) (Ev.step (fun k => by simp only [spec_l3Trim.j1]) h)
    simp only [spec_l3Trim.l0]
    rw [if_neg (by omega)]
  | succ n ih =>
    intro s hn hz
    have hlt : 0 < s.size := by omega
    have hl : 0 < s.data.toList.length := by rw [data_length]; omega
    obtain ⟨x, l, hxl⟩ : ∃ x l, s.data.toList = x :: l := by
      cases h : s.data.toList with
      | nil => rw [h] at hl; simp at hl
      | cons x l => exact ⟨x, l, rfl⟩
    have hg : bt s 0 = 32 ↔ x = 32 := by
      rw [show (32 : Int) = ((32 : UInt8).toNat : Int) from rfl]
      refine (bt_get s 0 32 hlt).trans ?_
      rw [hxl]; simp
    have hst : ∀ k, spec_l3Trim.l0 (k + 1) s = if bt s 0 = 32 then spec_l3Trim.l0 k (s.extract 1 s.size) else spec_l3Trim.j1 k s := by
      intro k
      simp only [spec_l3Trim.l0]
      rw [if_pos (by omega), if_pos (by omega)]
      by_cases c : bt s 0 = 32
      · rw [if_pos c, if_pos c, if_pos (by omega)]
      · rw [if_neg c, if_neg c]
    by_cases c : bt s 0 = 32
    · have e : trimT s = trimT (s.extract 1 s.size) := by
        unfold trimT
        rw [trim_comm, trim_comm, Lib.extract_to_end, hxl, lt_cons, if_pos (hg.mp c)]
        rfl
      rw [e]
      exact Ev.step (fun k => by rw [hst, if_pos c]) (ih (s.extract 1 s.size) (by rw [ByteArray.size_extract]; omega) (by rw [ByteArray.size_extract]; omega))
    · have e : trimT s = ⟨(Lib.trimRightS s.data.toList [32]).toArray⟩ := by
        unfold trimT
        rw [trim_comm, hxl, lt_cons, if_neg (fun h => c (hg.mpr h))]
      rw [e]
      exact Ev.step (fun k => by rw [hst, if_neg c]) (Ev.step (fun k => by simp only [spec_l3Trim.j1]) (trimR_loop s.size s rfl hz))
theorem trim_spec (s : ByteArray) (hz : s.size ≤ 1125899906842624) : Ev (fun k => spec_l3Trim.f k s) (trimT s) := trim_loop s.size s rfl hz
theorem trim_impl (s : ByteArray) (hz : s.size ≤ 1125899906842624) : strings_Trim.f s (⟨#[32]⟩ : ByteArray) = some (trimT s) := by
  unfold strings_Trim.f
  rw [if_pos ⟨by omega, rfl⟩]
theorem trim_size (s : ByteArray) : (trimT s).size ≤ s.size := by
  show (Lib.trimS s.data.toList [32]).toArray.size ≤ _
  rw [List.size_toArray, ← data_length]
  unfold Lib.trimS Lib.trimLeftS Lib.trimRightS
  refine Nat.le_trans ((List.dropWhile_sublist _).length_le) ?_
  rw [List.length_reverse]
  exact Nat.le_trans ((List.dropWhile_sublist _).length_le) (by rw [List.length_reverse]; exact Nat.le_refl _)
theorem rt_len (l : List UInt8) : (Lib.trimRightS l [32]).length ≤ l.length := by
  unfold Lib.trimRightS
  rw [List.length_reverse]
  exact Nat.le_trans ((List.dropWhile_sublist _).length_le) (by rw [List.length_reverse]; exact Nat.le_refl _)
theorem lt_len (l : List UInt8) : (Lib.trimLeftS l [32]).length ≤ l.length := (List.dropWhile_sublist _).length_le
theorem trim_same (v : ByteArray) (hz : v.size ≤ 1125899906842624) : ((trimT v).toList == v.toList) = (decide (v.size = 0) || (!decide (bt v 0 = 32) && !decide (bt v ((v.size - 1 : Nat) : Int) = 32))) := by
  rw [ByteArray.toList_eq, ByteArray.toList_eq]
  show (Lib.trimS v.data.toList [32] == v.data.toList) = _
  rw [trim_comm]
  by_cases h0 : v.size = 0
  · have he : v.data.toList = [] := List.eq_nil_of_length_eq_zero (by rw [data_length]; exact h0)
    rw [he, decide_eq_true h0]; rfl
  rw [decide_eq_false h0, Bool.false_or]
  have hl : 0 < v.data.toList.length := by rw [data_length]; omega
  obtain ⟨x, l, hxl⟩ : ∃ x l, v.data.toList = x :: l := by
    cases h : v.data.toList with
    | nil => rw [h] at hl; simp at hl
    | cons x l => exact ⟨x, l, rfl⟩
  have hg : bt v 0 = 32 ↔ x = 32 := by
    rw [show (32 : Int) = ((32 : UInt8).toNat : Int) from rfl]
    refine (bt_get v 0 32 (by omega)).trans ?_
    rw [hxl]; simp
  by_cases c : bt v 0 = 32
  · rw [decide_eq_true c, Bool.not_true, Bool.false_and, beq_eq_false_iff_ne]
    intro h
    rw [hxl, lt_cons, if_pos (hg.mp c)] at h
    have h1 := congrArg List.length h
    have h2 := rt_len (Lib.trimLeftS l [32])
    have h3 := lt_len l
    simp only [List.length_cons] at h1
    omega
  · have hlt : Lib.trimLeftS v.data.toList [32] = v.data.toList := by rw [hxl, lt_cons, if_neg (fun h => c (hg.mpr h))]
    rw [hlt, decide_eq_false c, Bool.not_false, Bool.true_and]
    obtain ⟨n, hn⟩ : ∃ n, v.size = n + 1 := ⟨v.size - 1, by omega⟩
    have hs := last_split v n hn
    have hln : n < v.data.toList.length := by rw [data_length]; omega
    have hgl : v.data.toList.getD n 0 = 32 ↔ bt v (n : Int) = 32 := by
      rw [show (32 : Int) = ((32 : UInt8).toNat : Int) from rfl, bt_get v n 32 (by omega), List.getD_eq_getElem?_getD, List.getElem?_eq_getElem hln]
      simp
    rw [show v.size - 1 = n by omega]
    by_cases d : bt v (n : Int) = 32
    · rw [decide_eq_true d, Bool.not_true, beq_eq_false_iff_ne]
      intro h
      rw [hs, rt_snoc, if_pos (hgl.mpr d)] at h
      have h1 := congrArg List.length h
      have h2 := rt_len (v.extract 0 n).data.toList
      simp only [List.length_append, List.length_singleton] at h1
      omega
    · rw [decide_eq_false d, Bool.not_false, beq_iff_eq]
      rw [hs, rt_snoc, if_neg (fun h => d (hgl.mp h))]
def goodT (n v : ByteArray) : Bool := tokT n && (decide ((v.size : Int) ≤ 300) && prT v) && ((trimT v).toList == v.toList)
theorem good_impl (n v : ByteArray) (hn : n.size ≤ 1125899906842624) (hv : v.size ≤ 1125899906842624) : impl_GoodField.f n v = some (goodT n v) := by
  unfold impl_GoodField.f goodT
  rw [tok_impl n hn, Option.bind_some, pr_impl v 300 hv, trim_impl v hv]
  cases tokT n with
  | false => rw [if_neg (by simp)]; rfl
  | true =>
    rw [if_pos rfl, Option.bind_some, Bool.true_and]
    generalize (decide ((v.size : Int) ≤ 300) && prT v) = z
    cases z with
    | false => rw [if_neg (by simp)]; rfl
    | true => rw [if_pos rfl, Option.bind_some, Bool.true_and]
theorem good_spec (n v : ByteArray) (hn : n.size ≤ 1125899906842624) (hv : v.size ≤ 1125899906842624) : Ev (fun k => spec_GoodField.f k n v) (goodT n v) := by
  unfold spec_GoodField.f goodT
  refine Ev.bind (tok_spec n hn) ?_
  cases tokT n with
  | false => simp only [Bool.false_and]; exact Ev.congr (fun k => by rw [if_neg (by simp)]) (Ev.now _)
  | true =>
    simp only [if_true, Bool.true_and]
    refine Ev.bind (pr_spec v hv) ?_
    cases prT v with
    | false => simp only [Bool.and_false, Bool.false_and]; exact Ev.congr (fun k => by rw [if_neg (by simp)]) (Ev.now _)
    | true =>
      simp only [if_true, Bool.and_true]
      by_cases c : (v.size : Int) ≤ 300
      · rw [decide_eq_true c, Bool.true_and, trim_same v hv]
        simp only [if_pos c]
        by_cases h0 : v.size = 0
        · rw [decide_eq_true h0, Bool.true_or]
          exact Ev.congr (fun k => by rw [if_pos (by omega)]) (Ev.now _)
        · rw [decide_eq_false h0, Bool.false_or]
          have hw : wrap64 ((v.size : Int) - 1) = ((v.size - 1 : Nat) : Int) := by unfold wrap64; omega
          by_cases d : bt v 0 = 32
          · rw [decide_eq_true d, Bool.not_true, Bool.false_and]
            exact Ev.congr (fun k => by rw [if_neg (by omega), if_pos (by omega), if_pos d]) (Ev.now _)
          · rw [decide_eq_false d, Bool.not_false, Bool.true_and]
            refine Ev.congr (f := fun _ => some (bt v ((v.size - 1 : Nat) : Int) != 32)) (fun k => by rw [if_neg (by omega), if_pos (by omega), if_neg d, hw, if_pos (by omega), if_pos (by omega)]) ?_
            rw [show (bt v ((v.size - 1 : Nat) : Int) != 32) = !decide (bt v ((v.size - 1 : Nat) : Int) = 32) from rfl]
            exact Ev.now _
      · rw [decide_eq_false c, Bool.false_and]
        exact Ev.congr (fun k => by rw [if_neg c]) (Ev.now _)
theorem low_impl (s : ByteArray) (hz : s.size ≤ 1125899906842624) : impl_small.f s = some (lowT s) := by unfold impl_small.f; rw [if_pos (by omega)]
theorem low_spec (s : ByteArray) (hz : s.size ≤ 1125899906842624) : spec_l1Lower.f s = some (lowT s) := by unfold spec_l1Lower.f; rw [if_pos (by omega)]
theorem is_spec (n v t : ByteArray) (hn : n.size ≤ 1125899906842624) (ht : t.size ≤ 1125899906842624) : spec_l3Is.f n v t = some ((lowT n).toList == (lowT t).toList) := by
  unfold spec_l3Is.f
  rw [low_spec n hn, low_spec t ht]; rfl
theorem list_both (s : ByteArray) (hz : s.size ≤ 1000000000) : ∀ (d i b : Nat) (acc : List ByteArray) (q : Bool), s.size + 1 - i ≤ d → i ≤ s.size + 1 → b ≤ i → acc.length ≤ i → (∀ x ∈ acc, x.size ≤ s.size) →
    ∃ R : List ByteArray × Bool, Ev (fun k => spec_l3List.l0 k s acc (b : Int) q (i : Int)) R ∧ Ev (fun k => impl_listOf.l0 k s acc (b : Int) q (i : Int)) R ∧ (∀ x ∈ R.1, x.size ≤ s.size) ∧ R.1.length ≤ s.size + 1 := by
  intro d
  induction d with
  | zero =>
    intro i b acc q hd hi hb ha hx
    have he : i = s.size + 1 := by omega
    exact ⟨(acc, !q), Ev.step (f := fun _ => some (acc, !q)) (fun k => by simp only [spec_l3List.l0]; rw [if_neg (by omega)]) (Ev.now _), Ev.step (f := fun _ => some (acc, !q)) (fun k => by simp only [impl_listOf.l0]; rw [if_neg (by omega)]) (Ev.now _), hx, by show acc.length ≤ _; omega⟩
  | succ d ih =>
    intro i b acc q hd hi hb ha hx
    by_cases hle : i ≤ s.size
    rotate_left
    · exact ⟨(acc, !q), Ev.step (f := fun _ => some (acc, !q)) (fun k => by simp only [spec_l3List.l0]; rw [if_neg (by omega)]) (Ev.now _), Ev.step (f := fun _ => some (acc, !q)) (fun k => by simp only [impl_listOf.l0]; rw [if_neg (by omega)]) (Ev.now _), hx, by show acc.length ≤ _; omega⟩
    have w1 : wrap64 ((i : Int) + 1) = ((i + 1 : Nat) : Int) := w2 hle (by omega) 1 (by omega)
    have w12 : wrap64 (((i + 1 : Nat) : Int) + 1) = ((i + 2 : Nat) : Int) := by unfold wrap64; omega
    obtain ⟨fl, hfl⟩ : ∃ fl : Bool, fl = if (i : Int) = (s.size : Int) then true else if bt s (i : Int) = 44 then !q else false := ⟨_, rfl⟩
    have sp : ∀ R, Ev (fun k => spec_l3List.j1 k s acc (b : Int) q (i : Int) fl) R → Ev (fun k => spec_l3List.l0 k s acc (b : Int) q (i : Int)) R := by
      intro R h
      refine Ev.step (fun k => ?_) h
      simp only [spec_l3List.l0]
      rw [if_pos (by omega), hfl]
      by_cases c : (i : Int) = (s.size : Int)
      · rw [if_pos c, if_pos c]
      · rw [if_neg c, if_neg c, if_pos (by omega), if_pos (by omega)]
        by_cases e : bt s (i : Int) = 44
        · rw [if_pos e, if_pos e]
        · rw [if_neg e, if_neg e]
    have im : ∀ R, Ev (fun k => impl_listOf.j1 k s acc (b : Int) q (i : Int) fl) R → Ev (fun k => impl_listOf.l0 k s acc (b : Int) q (i : Int)) R := by
      intro R h
      refine Ev.step (fun k => ?_) h
      simp only [impl_listOf.l0]
      rw [if_pos (by omega), hfl]
      by_cases c : (i : Int) = (s.size : Int)
      · rw [if_pos c, if_pos c]
      · rw [if_neg c, if_neg c, if_pos (by omega), if_pos (by omega)]
        by_cases e : bt s (i : Int) = 44
        · rw [if_pos e, if_pos e]
        · rw [if_neg e, if_neg e]
    cases fl with
    | true =>
      have hps : (s.extract b i).size ≤ s.size := by rw [ByteArray.size_extract]; omega
      have hts := trim_size (s.extract b i)
      have s1 : ∀ R, Ev (fun k => if (trimT (s.extract b i)).toList = ([] : List UInt8) then spec_l3List.l0 k s acc ((i + 1 : Nat) : Int) q ((i + 1 : Nat) : Int) else spec_l3List.l0 k s (acc ++ [trimT (s.extract b i)]) ((i + 1 : Nat) : Int) q ((i + 1 : Nat) : Int)) R → Ev (fun k => spec_l3List.j1 k s acc (b : Int) q (i : Int) true) R := by
        intro R h
        refine Ev.step (f := fun k => (spec_l3Trim.f k (s.extract b i)).bind fun t => if t.toList = ([] : List UInt8) then spec_l3List.l0 k s acc ((i + 1 : Nat) : Int) q ((i + 1 : Nat) : Int) else spec_l3List.l0 k s (acc ++ [t]) ((i + 1 : Nat) : Int) q ((i + 1 : Nat) : Int)) (fun k => ?_) (Ev.bind (trim_spec _ (by omega)) h)
        simp only [spec_l3List.j1]
        rw [if_pos trivial, if_pos (by omega), if_pos (by omega), if_pos (by omega), w1, Int.toNat_natCast, Int.toNat_natCast]
        simp only [if_pos (show acc.length < 8796093022208 by omega)]
      have i1 : ∀ R, Ev (fun k => if (trimT (s.extract b i)).toList = ([] : List UInt8) then impl_listOf.l0 k s acc ((i + 1 : Nat) : Int) q ((i + 1 : Nat) : Int) else impl_listOf.l0 k s (acc ++ [trimT (s.extract b i)]) ((i + 1 : Nat) : Int) q ((i + 1 : Nat) : Int)) R → Ev (fun k => impl_listOf.j1 k s acc (b : Int) q (i : Int) true) R := by
        intro R h
        refine Ev.step (fun k => ?_) h
        simp only [impl_listOf.j1]
        rw [if_pos trivial, if_pos (by omega), if_pos (by omega), if_pos (by omega), w1, Int.toNat_natCast, Int.toNat_natCast, trim_impl _ (by omega), Option.bind_some, if_pos (show acc.length < 8796093022208 by omega)]
      by_cases c : (trimT (s.extract b i)).toList = ([] : List UInt8)
      · obtain ⟨R, r1, r2, r3, r4⟩ := ih (i + 1) (i + 1) acc q (by omega) (by omega) (by omega) (by omega) hx
        exact ⟨R, sp R (s1 R (Ev.congr (fun k => by rw [if_pos c]) r1)), im R (i1 R (Ev.congr (fun k => by rw [if_pos c]) r2)), r3, r4⟩
      · obtain ⟨R, r1, r2, r3, r4⟩ := ih (i + 1) (i + 1) (acc ++ [trimT (s.extract b i)]) q (by omega) (by omega) (by omega) (by simp; omega) (fun x h => by
          rcases List.mem_append.mp h with h | h
          · exact hx x h
          · rw [List.mem_singleton.mp h]; omega)
        exact ⟨R, sp R (s1 R (Ev.congr (fun k => by rw [if_neg c]) r1)), im R (i1 R (Ev.congr (fun k => by rw [if_neg c]) r2)), r3, r4⟩
    | false =>
      have hlt : i < s.size := by
        rcases Nat.lt_or_ge i s.size with h | h
        · exact h
        · rw [if_pos (by omega)] at hfl; cases hfl
      by_cases e34 : bt s (i : Int) = 34
      · obtain ⟨R, r1, r2, r3, r4⟩ := ih (i + 1) b acc (!q) (by omega) (by omega) (by omega) (by omega) hx
        refine ⟨R, sp R (Ev.step (f := fun k => spec_l3List.j2 k s acc (b : Int) (!q) (i : Int)) (fun k => ?_) (Ev.step (f := fun k => spec_l3List.j3 k s acc (b : Int) (!q) (i : Int) false) (fun k => ?_) (Ev.step (fun k => ?_) r1))), im R (Ev.step (fun k => ?_) r2), r3, r4⟩
        · simp only [spec_l3List.j1]
          rw [if_neg (by simp), if_pos (by omega), if_pos (by omega), if_pos e34]
        · simp only [spec_l3List.j2]
          rw [if_pos (by omega), if_pos (by omega), if_neg (by omega)]
        · simp only [spec_l3List.j3]
          rw [if_neg (by simp), w1]
        · simp only [impl_listOf.j1]
          rw [if_neg (by simp), if_pos (by omega), if_pos (by omega), if_pos e34, w1]
      · obtain ⟨g, hg⟩ : ∃ g : Bool, g = if bt s (i : Int) = 92 then q else false := ⟨_, rfl⟩
        have sp3 : ∀ R, Ev (fun k => spec_l3List.j3 k s acc (b : Int) q (i : Int) g) R → Ev (fun k => spec_l3List.j1 k s acc (b : Int) q (i : Int) false) R := by
          intro R h
          refine Ev.step (f := fun k => spec_l3List.j2 k s acc (b : Int) q (i : Int)) (fun k => ?_) (Ev.step (fun k => ?_) h)
          · simp only [spec_l3List.j1]
            rw [if_neg (by simp), if_pos (by omega), if_pos (by omega), if_neg e34]
          · simp only [spec_l3List.j2]
            rw [if_pos (by omega), if_pos (by omega), hg]
            by_cases c : bt s (i : Int) = 92
            · rw [if_pos c, if_pos c]
            · rw [if_neg c, if_neg c]
        have im2 : ∀ R, Ev (fun k => impl_listOf.j2 k s acc (b : Int) q (i : Int) g) R → Ev (fun k => impl_listOf.j1 k s acc (b : Int) q (i : Int) false) R := by
          intro R h
          refine Ev.step (fun k => ?_) h
          simp only [impl_listOf.j1]
          rw [if_neg (by simp), if_pos (by omega), if_pos (by omega), if_neg e34, hg]
          by_cases c : bt s (i : Int) = 92
          · rw [if_pos c, if_pos c]
          · rw [if_neg c, if_neg c]
        cases g with
        | false =>
          obtain ⟨R, r1, r2, r3, r4⟩ := ih (i + 1) b acc q (by omega) (by omega) (by omega) (by omega) hx
          refine ⟨R, sp R (sp3 R (Ev.step (fun k => ?_) r1)), im R (im2 R (Ev.step (fun k => ?_) r2)), r3, r4⟩
          · simp only [spec_l3List.j3]
            rw [if_neg (by simp), w1]
          · simp only [impl_listOf.j2]
            rw [if_neg (by simp), w1]
        | true =>
          by_cases c : ((i + 1 : Nat) : Int) = (s.size : Int)
          · refine ⟨([], false), sp _ (sp3 _ (Ev.step (f := fun _ => some ([], false)) (fun k => ?_) (Ev.now _))), im _ (im2 _ (Ev.step (f := fun _ => some ([], false)) (fun k => ?_) (Ev.now _))), by simp, by simp⟩
            · simp only [spec_l3List.j3]
              rw [if_pos trivial, w1, if_pos c]
            · simp only [impl_listOf.j2]
              rw [if_pos trivial, w1, if_pos c]
          · obtain ⟨R, r1, r2, r3, r4⟩ := ih (i + 2) b acc q (by omega) (by omega) (by omega) (by omega) hx
            refine ⟨R, sp R (sp3 R (Ev.step (fun k => ?_) r1)), im R (im2 R (Ev.step (fun k => ?_) r2)), r3, r4⟩
            · simp only [spec_l3List.j3]
              rw [if_pos trivial, w1, if_neg c, w12]
            · simp only [impl_listOf.j2]
              rw [if_pos trivial, w1, if_neg c, w12]
theorem List_both (s : ByteArray) (hz : s.size ≤ 1000000000) : ∃ R : List ByteArray × Bool, Ev (fun k => spec_l3List.f k s) R ∧ Ev (fun k => impl_listOf.f k s) R ∧ (∀ x ∈ R.1, x.size ≤ s.size) ∧ R.1.length ≤ s.size + 1 :=
  list_both s hz (s.size + 1) 0 0 [] false (by omega) (by omega) (by omega) (by simp) (by simp)
def isN (f : S105) (t : ByteArray) : Bool := (lowT f.f0).toList == (lowT t).toList
def valT (l : List S105) (t : ByteArray) : List ByteArray := (l.filter (fun f => isN f t)).map (·.f1)
theorem rd75 (l : List S105) (j : Nat) (h : j < l.length) : rd_T105 l (j : Int) = l[j] := getD_at h _
theorem vals_loop (l : List S105) (t : ByteArray) (hl : l.length ≤ 100000000) (ht : t.size ≤ 1125899906842624) (hs : ∀ f ∈ l, f.f0.size ≤ 1125899906842624) : ∀ (d j : Nat) (acc : List ByteArray), j + d = l.length → acc.length ≤ j →
    Ev (fun k => spec_l3Values.l0 k t acc l (l.length : Int) (j : Int)) (acc ++ valT (l.drop j) t) ∧ Ev (fun k => impl_valuesOf.l0 k t acc l (l.length : Int) (j : Int)) (acc ++ valT (l.drop j) t) := by
  intro d
  induction d with
  | zero =>
    intro j acc hj ha
    rw [List.drop_of_length_le (by omega)]
    rw [show acc ++ valT [] t = acc by simp [valT]]
    exact ⟨Ev.step (f := fun _ => some acc) (fun k => by simp only [spec_l3Values.l0]; rw [if_neg (by omega)]) (Ev.now _), Ev.step (f := fun _ => some acc) (fun k => by simp only [impl_valuesOf.l0]; rw [if_neg (by omega)]) (Ev.now _)⟩
  | succ d ih =>
    intro j acc hj ha
    have hlt : j < l.length := by omega
    have w1 : wrap64 ((j : Int) + 1) = ((j + 1 : Nat) : Int) := w2 (Nat.le_of_lt hlt) (by omega) 1 (by omega)
    have hf := hs _ (List.getElem_mem hlt)
    have hS : ∀ k, spec_l3Values.l0 (k + 1) t acc l (l.length : Int) (j : Int) = if isN l[j] t = true then spec_l3Values.l0 k t (acc ++ [l[j].f1]) l (l.length : Int) ((j + 1 : Nat) : Int) else spec_l3Values.l0 k t acc l (l.length : Int) ((j + 1 : Nat) : Int) := by
      intro k
      simp only [spec_l3Values.l0]
      rw [if_pos (by omega), if_pos (by omega), if_pos (by omega), rd75 l j hlt, is_spec _ _ _ hf ht, Option.bind_some, w1, if_pos (show acc.length < 8796093022208 by omega)]
      rfl
    have hI : ∀ k, impl_valuesOf.l0 (k + 1) t acc l (l.length : Int) (j : Int) = if isN l[j] t = true then impl_valuesOf.l0 k t (acc ++ [l[j].f1]) l (l.length : Int) ((j + 1 : Nat) : Int) else impl_valuesOf.l0 k t acc l (l.length : Int) ((j + 1 : Nat) : Int) := by
      intro k
      simp only [impl_valuesOf.l0]
      rw [if_pos (by omega), if_pos (by omega), if_pos (by omega), rd75 l j hlt, low_impl _ hf, low_impl _ ht, Option.bind_some, Option.bind_some, w1, if_pos (show acc.length < 8796093022208 by omega)]
      unfold isN
      by_cases c : (lowT l[j].f0).toList = (lowT t).toList
      · rw [if_pos c, if_pos (beq_iff_eq.mpr c)]
      · rw [if_neg c, if_neg (fun h => c (beq_iff_eq.mp h))]
    rw [List.drop_eq_getElem_cons hlt]
    cases c : isN l[j] t with
    | true =>
      have e : acc ++ valT (l[j] :: l.drop (j + 1)) t = (acc ++ [l[j].f1]) ++ valT (l.drop (j + 1)) t := by
        unfold valT
        rw [List.filter_cons, if_pos c, List.map_cons, List.append_assoc]; rfl
      rw [e]
      obtain ⟨a, b⟩ := ih (j + 1) (acc ++ [l[j].f1]) (by omega) (by simp; omega)
      exact ⟨Ev.step (fun k => by rw [hS, if_pos c]) a, Ev.step (fun k => by rw [hI, if_pos c]) b⟩
    | false =>
      have e : acc ++ valT (l[j] :: l.drop (j + 1)) t = acc ++ valT (l.drop (j + 1)) t := by
        unfold valT
        rw [List.filter_cons, if_neg (by rw [c]; exact Bool.false_ne_true)]
      rw [e]
      obtain ⟨a, b⟩ := ih (j + 1) acc (by omega) (by omega)
      exact ⟨Ev.step (fun k => by rw [hS, if_neg (by simp [c])]) a, Ev.step (fun k => by rw [hI, if_neg (by simp [c])]) b⟩
theorem vals_both (l : List S105) (t : ByteArray) (hl : l.length ≤ 100000000) (ht : t.size ≤ 1125899906842624) (hs : ∀ f ∈ l, f.f0.size ≤ 1125899906842624) : Ev (fun k => spec_l3Values.f k l t) (valT l t) ∧ Ev (fun k => impl_valuesOf.f k l t) (valT l t) := by
  have h := vals_loop l t hl ht hs l.length 0 [] (by omega) (by simp)
  rw [List.drop_zero, List.nil_append] at h
  exact h
theorem valT_mem (l : List S105) (t : ByteArray) (x : ByteArray) (h : x ∈ valT l t) : ∃ f ∈ l, x = f.f1 := by
  unfold valT at h
  obtain ⟨f, hf, rfl⟩ := List.mem_map.mp h
  exact ⟨f, (List.mem_filter.mp hf).1, rfl⟩
theorem valT_len (l : List S105) (t : ByteArray) : (valT l t).length ≤ l.length := by
  unfold valT
  rw [List.length_map]
  exact List.length_filter_le _ _
/-- A number in digits. -/
def digU (c : UInt8) : Bool := decide (48 ≤ c.toNat) && decide (c.toNat ≤ 57)
def nv (acc : Nat) : List UInt8 → Nat
  | [] => acc
  | c :: r => nv (acc * 10 + (c.toNat - 48)) r
theorem dig_u (c : UInt8) (h : digU c = true) : 48 ≤ c.toNat ∧ c.toNat ≤ 57 := by
  unfold digU at h
  rw [Bool.and_eq_true] at h
  exact ⟨of_decide_eq_true h.1, of_decide_eq_true h.2⟩
def p10 : Nat → Nat
  | 0 => 1
  | n + 1 => p10 n * 10
theorem p10_mono (a b : Nat) (h : a ≤ b) : p10 a ≤ p10 b := by
  induction h with
  | refl => exact Nat.le_refl _
  | step _ ih => exact Nat.le_trans ih (Nat.le_mul_of_pos_right _ (by omega))
theorem ten9 (a x : Nat) (h : a ≤ 9) (hx : x < p10 a) : x < 1000000000 :=
  Nat.lt_of_lt_of_le hx (Nat.le_trans (p10_mono a 9 h) (by decide))
theorem nv_step (c : UInt8) (acc B : Nat) (h : digU c = true) (hb : acc < B) : acc * 10 + (c.toNat - 48) < B * 10 := by
  have := dig_u c h
  omega
theorem nv_lt (l : List UInt8) : ∀ (acc a : Nat), l.all digU = true → acc < p10 a → nv acc l < p10 (a + l.length) := by
  induction l with
  | nil => intro acc a _ h; exact h
  | cons c r ih =>
    intro acc a hd h
    rw [List.all_cons, Bool.and_eq_true] at hd
    have h1 : acc * 10 + (c.toNat - 48) < p10 (a + 1) := by exact nv_step c acc _ hd.1 h
    have h2 := ih _ (a + 1) hd.2 h1
    rw [List.length_cons, show a + (r.length + 1) = a + 1 + r.length by omega]
    exact h2
theorem nv_lt9 (l : List UInt8) (hd : l.all digU = true) (h9 : l.length ≤ 9) : nv 0 l < 1000000000 :=
  ten9 (0 + l.length) _ (by omega) (nv_lt l 0 0 hd Nat.one_pos)
theorem parse_ok (l : List UInt8) : ∀ (acc a : Nat), l.all digU = true → acc < p10 a → a + l.length ≤ 9 → Lib.parseUint10 acc l = .ok (nv acc l) := by
  induction l with
  | nil => intro acc a _ _ _; rfl
  | cons c r ih =>
    intro acc a hd h hl
    rw [List.all_cons, Bool.and_eq_true] at hd
    rw [List.length_cons] at hl
    have hc := dig_u c hd.1
    have h1 : acc * 10 + (c.toNat - 48) < p10 (a + 1) := by exact nv_step c acc _ hd.1 h
    have h2 := ten9 (a + 1) _ (by omega) h1
    rw [Lib.parseUint10, if_pos hc, if_neg (by omega), if_neg (by omega)]
    exact ih _ (a + 1) hd.2 h1 (by omega)
theorem atoi_ok (s : ByteArray) (h1 : 1 ≤ s.size) (h9 : s.size ≤ 9) (hd : s.data.toList.all digU = true) : atoiF s = false ∧ atoiN s = (nv 0 s.data.toList : Int) := by
  have hp := parse_ok s.data.toList 0 0 hd (by exact Nat.one_pos) (by rw [data_length]; omega)
  have hb := nv_lt9 s.data.toList hd (by rw [data_length]; omega)
  have ha : Lib.atoiAll s.data.toList = .ok (nv 0 s.data.toList : Int) := by
    cases h : s.data.toList with
    | nil => have := data_length s; rw [h] at this; simp at this; omega
    | cons c r =>
      rw [h] at hp hb hd
      rw [List.all_cons, Bool.and_eq_true] at hd
      have hc := dig_u c hd.1
      have e1 : ¬ (c.toNat = 43 ∨ c.toNat = 45) := by omega
      have e2 : ¬ c.toNat = 45 := by omega
      have hm : Lib.parseMag (c :: r) = .ok (nv 0 (c :: r)) := by unfold Lib.parseMag; rw [if_neg (by simp)]; exact hp
      simp only [Lib.atoiAll]
      rw [if_neg e1, hm]
      simp only [e2, not_false_eq_true, true_and, false_and, if_false]
      rw [if_neg (by omega)]
  unfold atoiF atoiN
  rw [ha]
  exact ⟨rfl, rfl⟩
def digI (c : Int) : Bool := decide (48 ≤ c) && decide (c ≤ 57)
theorem digS_is (c : Int) : spec_l1Digit.f c = some (digI c) := by
  unfold spec_l1Digit.f digI
  by_cases h : c ≥ 48
  · rw [if_pos h, decide_eq_true (show 48 ≤ c from h)]; rfl
  · rw [if_neg h, decide_eq_false (show ¬ 48 ≤ c from h)]; rfl
theorem digI_is (c : Int) : impl_isDigit.f c = some (digI c) := by
  unfold impl_isDigit.f digI
  by_cases h : c ≥ 48
  · rw [if_pos h, decide_eq_true (show 48 ≤ c from h)]; rfl
  · rw [if_neg h, decide_eq_false (show ¬ 48 ≤ c from h)]; rfl
theorem bt_at (s : ByteArray) (i : Nat) (h : i < s.data.toList.length) : bt s (i : Int) = ((s.data.toList[i]).toNat : Int) :=
  (bt_get s i _ (by rw [data_length] at h; exact h)).mpr (List.getElem?_eq_getElem h)
theorem dig_u2 (c : UInt8) : digI (c.toNat : Int) = digU c := by
  unfold digI digU
  congr 1 <;> exact decide_eq_decide.mpr (by omega)
theorem dig_all (s : ByteArray) : (bytesOf s).all digI = s.data.toList.all digU := by
  have h : bytesOf s = s.data.toList.map (fun c => (c.toNat : Int)) := by unfold bytesOf; rfl
  rw [h, List.all_map]
  congr 1
  funext c
  exact dig_u2 c
theorem num_any (s : ByteArray) (hz : s.size ≤ 1125899906842624) : ∀ (d i : Nat) (acc : Int), i + d = s.size →
    ∃ r, Ev (fun k => spec_l2Number.l0 k s 0 (s.size : Int) acc (i : Int)) r ∧ ((s.data.toList.drop i).all digU = false → r = -1) := by
  intro d
  induction d with
  | zero =>
    intro i acc hi
    refine ⟨acc, Ev.step (f := fun _ => some acc) (fun k => ?_) (Ev.now _), fun h => ?_⟩
    · simp only [spec_l2Number.l0]
      rw [show wrap64 (0 + (s.size : Int)) = (s.size : Int) by unfold wrap64; omega, if_neg (by omega)]
    · rw [List.drop_of_length_le (by rw [data_length]; omega)] at h; cases h
  | succ d ih =>
    intro i acc hi
    have hlt : i < s.data.toList.length := by rw [data_length]; omega
    have w1 : wrap64 ((i : Int) + 1) = ((i + 1 : Nat) : Int) := w2 (by omega) hz 1 (by omega)
    have hst : ∀ k, spec_l2Number.l0 (k + 1) s 0 (s.size : Int) acc (i : Int) = if digU (s.data.toList[i]) = true then spec_l2Number.l0 k s 0 (s.size : Int) (wrap64 (wrap64 (10 * acc) + ((bt s (i : Int) - 48) % 256))) ((i + 1 : Nat) : Int) else some (-1) := by
      intro k
      simp only [spec_l2Number.l0]
      rw [show wrap64 (0 + (s.size : Int)) = (s.size : Int) by unfold wrap64; omega, if_pos (by omega), if_pos (by omega), if_pos (by omega), digS_is, Option.bind_some, w1, bt_at s i hlt, dig_u2]
    rw [List.drop_eq_getElem_cons hlt, List.all_cons]
    cases c : digU (s.data.toList[i]) with
    | true =>
      obtain ⟨r, h1, h2⟩ := ih (i + 1) (wrap64 (wrap64 (10 * acc) + ((bt s (i : Int) - 48) % 256))) (by omega)
      refine ⟨r, Ev.step (fun k => by rw [hst, if_pos c]) h1, fun h => h2 ?_⟩
      rw [Bool.true_and] at h; exact h
    | false =>
      exact ⟨-1, Ev.step (f := fun _ => some (-1)) (fun k => by rw [hst, if_neg (by rw [c]; exact Bool.false_ne_true)]) (Ev.now _), fun _ => rfl⟩
theorem num_w (acc c : Nat) (h2 : acc * 10 + (c - 48) < 1000000000) (hc : 48 ≤ c ∧ c ≤ 57) : wrap64 (wrap64 (10 * (acc : Int)) + (((c : Int) - 48) % 256)) = ((acc * 10 + (c - 48) : Nat) : Int) := by
  have h1 : wrap64 (10 * (acc : Int)) = 10 * (acc : Int) := by unfold wrap64; omega
  have h3 : ((c : Int) - 48) % 256 = (c : Int) - 48 := by omega
  rw [h1, h3, w64 (by omega) (by omega)]
  omega
theorem num_val (s : ByteArray) (hz : s.size ≤ 1125899906842624) : ∀ (d i acc a : Nat), i + d = s.size → (s.data.toList.drop i).all digU = true → acc < p10 a → a + d ≤ 9 →
    Ev (fun k => spec_l2Number.l0 k s 0 (s.size : Int) (acc : Int) (i : Int)) ((nv acc (s.data.toList.drop i) : Nat) : Int) := by
  intro d
  induction d with
  | zero =>
    intro i acc a hi _ _ _
    rw [List.drop_of_length_le (by rw [data_length]; omega)]
    refine Ev.step (f := fun _ => some (acc : Int)) (fun k => ?_) (Ev.now _)
    simp only [spec_l2Number.l0]
    rw [show wrap64 (0 + (s.size : Int)) = (s.size : Int) by unfold wrap64; omega, if_neg (by omega)]
  | succ d ih =>
    intro i acc a hi hd ha hl
    have hlt : i < s.data.toList.length := by rw [data_length]; omega
    rw [List.drop_eq_getElem_cons hlt] at hd ⊢
    rw [List.all_cons, Bool.and_eq_true] at hd
    have h1 : acc * 10 + ((s.data.toList[i]).toNat - 48) < p10 (a + 1) := by exact nv_step _ acc _ hd.1 ha
    have h2 := ten9 (a + 1) _ (by omega) h1
    have h3 := ih (i + 1) (acc * 10 + ((s.data.toList[i]).toNat - 48)) (a + 1) (by omega) hd.2 h1 (by omega)
    clear ih ha h1
    have hc := dig_u _ hd.1
    have hb := bt_at s i hlt
    refine Ev.step (fun k => ?_) h3
    clear h3
    simp only [spec_l2Number.l0]
    generalize (s.data.toList[i]).toNat = c at *
    rw [show wrap64 (0 + (s.size : Int)) = (s.size : Int) by unfold wrap64; omega, if_pos (by omega), if_pos (by omega), if_pos (by omega), digS_is, Option.bind_some, hb, show digI (c : Int) = true by unfold digI; rw [decide_eq_true (by omega), decide_eq_true (by omega)]; rfl, if_pos rfl, show wrap64 ((i : Int) + 1) = ((i + 1 : Nat) : Int) from w2 (by omega) hz 1 (by omega)]
    exact congrArg (fun z => spec_l2Number.l0 k s 0 (s.size : Int) z ((i + 1 : Nat) : Int)) (num_w acc c h2 hc)
/-- What a number's text tells. -/
def numT (s : ByteArray) : Option Nat := if 1 ≤ s.size ∧ s.size ≤ 9 ∧ s.data.toList.all digU = true then some (nv 0 s.data.toList) else none
theorem numT_lt (s : ByteArray) (n : Nat) (h : numT s = some n) : n < 1000000000 := by
  unfold numT at h
  by_cases c : 1 ≤ s.size ∧ s.size ≤ 9 ∧ s.data.toList.all digU = true
  · rw [if_pos c] at h
    rw [← Option.some.inj h]
    exact nv_lt9 _ c.2.2 (by rw [data_length]; exact c.2.1)
  · rw [if_neg c] at h; cases h
theorem num_spec (s : ByteArray) (hz : s.size ≤ 1125899906842624) : ∃ r, Ev (fun k => spec_l2Number.f k s 0 (s.size : Int)) r ∧
    (numT s = none → r < 0 ∨ (s.size : Int) > 9 ∨ s.size = 0) ∧ (∀ n, numT s = some n → r = (n : Int)) := by
  have hf : ∀ r, Ev (fun k => spec_l2Number.l0 k s 0 (s.size : Int) 0 0) r → Ev (fun k => spec_l2Number.f k s 0 (s.size : Int)) r := by
    intro r h
    refine Ev.congr (fun k => ?_) h
    unfold spec_l2Number.f
    rw [if_neg (by unfold wrap64; omega)]
  by_cases c : s.data.toList.all digU = true
  · by_cases h9 : s.size ≤ 9
    · have h := num_val s hz s.size 0 0 0 (by omega) (by rw [List.drop_zero]; exact c) (Nat.one_pos) (by omega)
      rw [List.drop_zero] at h
      refine ⟨_, hf _ h, fun hn => ?_, fun n hn => ?_⟩
      · by_cases h1 : 1 ≤ s.size
        · unfold numT at hn; rw [if_pos ⟨h1, h9, c⟩] at hn; cases hn
        · exact Or.inr (Or.inr (by omega))
      · unfold numT at hn
        by_cases h1 : 1 ≤ s.size
        · rw [if_pos ⟨h1, h9, c⟩] at hn; rw [Option.some.inj hn]
        · rw [if_neg (fun h => h1 h.1)] at hn; cases hn
    · obtain ⟨r, h1, _⟩ := num_any s hz s.size 0 0 (by omega)
      refine ⟨r, hf _ h1, fun _ => Or.inr (Or.inl (by omega)), fun n hn => ?_⟩
      unfold numT at hn
      rw [if_neg (fun h => h9 h.2.1)] at hn; cases hn
  · obtain ⟨r, h1, h2⟩ := num_any s hz s.size 0 0 (by omega)
    rw [List.drop_zero] at h2
    have hr := h2 (Bool.eq_false_iff.mpr c)
    refine ⟨r, hf _ h1, fun _ => Or.inl (by omega), fun n hn => ?_⟩
    unfold numT at hn
    rw [if_neg (fun h => c h.2.2)] at hn; cases hn
theorem empty_list (s : ByteArray) : s.toList = ([] : List UInt8) ↔ s.size = 0 := by
  rw [ByteArray.toList_eq, ← data_length]
  exact List.length_eq_zero_iff.symm
def outS : Option (Option Nat) → Int
  | none => -2
  | some none => -1
  | some (some n) => (n : Int)
def outI : Option (Option Nat) → Int × Bool × Bool
  | none => (0, false, false)
  | some none => (0, false, true)
  | some (some n) => ((n : Int), true, true)
def stS : Option Nat → Int
  | none => -1
  | some n => (n : Int)
def stI : Option Nat → Int
  | none => 0
  | some n => (n : Int)
def bnd (st : Option Nat) : Prop := ∀ n, st = some n → n < 1000000000
theorem stS_n : stS none = -1 := rfl
theorem stS_s (m : Nat) : stS (some m) = (m : Int) := rfl
theorem stI_s (m : Nat) : stI (some m) = (m : Int) := rfl
/-- One more number. -/
def meet (st : Option Nat) (n : Nat) : Bool := match st with
  | none => true
  | some m => m == n
theorem len_in (vals l : List ByteArray) (vn i : Nat) (hl : l.length ≤ 1000000000) (hx : ∀ x ∈ l, x.size ≤ 1000000000) : ∀ (d j : Nat) (st : Option Nat), j + d = l.length → bnd st →
    (∀ st', bnd st' → ∃ q, Ev (fun k => spec_l4Length.l0 k (stS st') vals (vn : Int) (wrap64 ((i : Int) + 1))) (outS q) ∧ Ev (fun k => impl_lengthOf.l0 k (stI st') st'.isSome vals (vn : Int) (wrap64 ((i : Int) + 1))) (outI q) ∧ (∀ m, q = some (some m) → m < 1000000000)) →
    ∃ q, Ev (fun k => spec_l4Length.l1 k (stS st) vals (vn : Int) (i : Int) l (l.length : Int) (j : Int)) (outS q) ∧ Ev (fun k => impl_lengthOf.l1 k (stI st) st.isSome vals (vn : Int) (i : Int) l (l.length : Int) (j : Int)) (outI q) ∧ (∀ m, q = some (some m) → m < 1000000000) := by
  intro d
  induction d with
  | zero =>
    intro j st hj hb K
    obtain ⟨q, h1, h2, h3⟩ := K st hb
    exact ⟨q, Ev.step (fun k => by simp only [spec_l4Length.l1]; rw [if_neg (by omega)]) h1, Ev.step (fun k => by simp only [impl_lengthOf.l1]; rw [if_neg (by omega)]) h2, h3⟩
  | succ d ih =>
    intro j st hj hb K
    have hlt : j < l.length := by omega
    have w1 : wrap64 ((j : Int) + 1) = ((j + 1 : Nat) : Int) := w2 (Nat.le_of_lt hlt) (by omega) 1 (by omega)
    have hrd : rdOf ByteArray.empty l (j : Int) = l[j] := getD_at hlt _
    have hz := hx _ (List.getElem_mem hlt)
    obtain ⟨x, hxe⟩ : ∃ x, x = l[j] := ⟨_, rfl⟩
    rw [← hxe] at hrd hz
    obtain ⟨r, hr, hn0, hn1⟩ := num_spec x (by omega)
    have hS : ∀ k, spec_l4Length.l1 (k + 1) (stS st) vals (vn : Int) (i : Int) l (l.length : Int) (j : Int) = (spec_l2Number.f k x 0 (x.size : Int)).bind fun t138 => (if t138 < 0 then (some (-2)) else (if (x.size : Int) > 9 then (some (-2)) else (if x.toList = ([] : List UInt8) then (some (-2)) else (if stS st ≥ 0 then (if stS st = t138 then (spec_l4Length.l1 k t138 vals (vn : Int) (i : Int) l (l.length : Int) ((j + 1 : Nat) : Int)) else (some (-2))) else (spec_l4Length.l1 k t138 vals (vn : Int) (i : Int) l (l.length : Int) ((j + 1 : Nat) : Int)))))) := by
      intro k
      simp only [spec_l4Length.l1]
      rw [if_pos (by omega), if_pos (by omega), if_pos (by omega), hrd, w1]
    have hI : ∀ k, impl_lengthOf.l1 (k + 1) (stI st) st.isSome vals (vn : Int) (i : Int) l (l.length : Int) (j : Int) = if atoiF x = false then (if (x.size : Int) > 9 then (some (0, false, false)) else (if x.data.toList.all digU = true then (if st.isSome = true then (if atoiN x = stI st then (impl_lengthOf.l1 k (atoiN x) true vals (vn : Int) (i : Int) l (l.length : Int) ((j + 1 : Nat) : Int)) else (some (0, false, false))) else (impl_lengthOf.l1 k (atoiN x) true vals (vn : Int) (i : Int) l (l.length : Int) ((j + 1 : Nat) : Int))) else (some (0, false, false)))) else (some (0, false, false)) := by
      intro k
      have ha : impl_areBytes_126.f x = some (x.data.toList.all digU) := by
        unfold impl_areBytes_126.f
        rw [if_pos (by omega), ← dig_all]
        exact allO_all' (bytesOf x) (fun c _ => digI_is c)
      simp only [impl_lengthOf.l1]
      rw [if_pos (by omega), if_pos (by omega), if_pos (by omega), hrd, w1, ha]
      unfold strconv_Atoi.f
      rw [if_pos (by omega), Option.bind_some, Option.bind_some]
      cases atoiF x <;> simp
    cases hn : numT x with
    | none =>
      refine ⟨none, Ev.step (fun k => hS k) (Ev.bind hr ?_), Ev.step (f := fun _ => some (0, false, false)) (fun k => ?_) (Ev.now _), fun m h => by cases h⟩
      · refine Ev.congr (f := fun _ => some (-2)) (fun k => ?_) (Ev.now _)
        rcases hn0 hn with c | c | c
        · rw [if_pos c]
        · by_cases c1 : r < 0
          · rw [if_pos c1]
          · rw [if_neg c1, if_pos c]
        · by_cases c1 : r < 0
          · rw [if_pos c1]
          · rw [if_neg c1, if_neg (by omega), if_pos ((empty_list x).mpr c)]
      · rw [hI]
        by_cases c0 : atoiF x = false
        · rw [if_pos c0]
          by_cases c1 : (x.size : Int) > 9
          · rw [if_pos c1]
          · rw [if_neg c1]
            by_cases c2 : x.data.toList.all digU = true
            · exfalso
              by_cases c3 : 1 ≤ x.size
              · unfold numT at hn; rw [if_pos ⟨c3, by omega, c2⟩] at hn; cases hn
              · have he : x.data.toList = [] := List.eq_nil_of_length_eq_zero (by rw [data_length]; omega)
                unfold atoiF at c0
                rw [he] at c0
                exact absurd c0 (by decide)
            · rw [if_neg c2]
        · rw [if_neg c0]
    | some n =>
      have hlt9 := numT_lt x n hn
      have hr' := hn1 n hn
      have hx3 : 1 ≤ x.size ∧ x.size ≤ 9 ∧ x.data.toList.all digU = true := by
        unfold numT at hn
        by_cases c : 1 ≤ x.size ∧ x.size ≤ 9 ∧ x.data.toList.all digU = true
        · exact c
        · rw [if_neg c] at hn; cases hn
      obtain ⟨a1, a2⟩ := atoi_ok x hx3.1 hx3.2.1 hx3.2.2
      have a3 : atoiN x = (n : Int) := by
        unfold numT at hn
        rw [if_pos hx3] at hn
        rw [a2, Option.some.inj hn]
      subst hr'
      have hSS : ∀ k, (if (n : Int) < 0 then (some (-2)) else (if (x.size : Int) > 9 then (some (-2)) else (if x.toList = ([] : List UInt8) then (some (-2)) else (if stS st ≥ 0 then (if stS st = (n : Int) then (spec_l4Length.l1 k (n : Int) vals (vn : Int) (i : Int) l (l.length : Int) ((j + 1 : Nat) : Int)) else (some (-2))) else (spec_l4Length.l1 k (n : Int) vals (vn : Int) (i : Int) l (l.length : Int) ((j + 1 : Nat) : Int)))))) = if meet st n = true then spec_l4Length.l1 k (stS (some n)) vals (vn : Int) (i : Int) l (l.length : Int) ((j + 1 : Nat) : Int) else some (-2) := by
        intro k
        rw [if_neg (by omega), if_neg (by omega), if_neg (fun h => by have := (empty_list x).mp h; omega)]
        cases st with
        | none => rw [if_neg (by rw [stS_n]; omega), if_pos (by rfl)]; rfl
        | some m =>
          rw [if_pos (by rw [stS_s]; omega)]
          by_cases c : m = n
          · subst c; rw [if_pos (by rfl), if_pos (by unfold meet; exact beq_self_eq_true _)]; rfl
          · rw [if_neg (by rw [stS_s]; omega), if_neg (by unfold meet; simp [c])]
      have hII : ∀ k, impl_lengthOf.l1 (k + 1) (stI st) st.isSome vals (vn : Int) (i : Int) l (l.length : Int) (j : Int) = if meet st n = true then impl_lengthOf.l1 k (stI (some n)) (some n).isSome vals (vn : Int) (i : Int) l (l.length : Int) ((j + 1 : Nat) : Int) else some (0, false, false) := by
        intro k
        rw [hI, if_pos a1, if_neg (by omega), if_pos hx3.2.2, a3]
        cases st with
        | none => rw [if_neg (by simp), if_pos (by rfl)]; rfl
        | some m =>
          rw [if_pos (by rfl)]
          by_cases c : m = n
          · subst c; rw [if_pos (by rfl), if_pos (by unfold meet; exact beq_self_eq_true _)]; rfl
          · rw [if_neg (by rw [stI_s]; omega), if_neg (by unfold meet; simp [c])]
      cases hm : meet st n with
      | true =>
        obtain ⟨q, h1, h2, h3⟩ := ih (j + 1) (some n) (by omega) (fun m h => by rw [← Option.some.inj h]; exact hlt9) K
        refine ⟨q, Ev.step (fun k => hS k) (Ev.bind hr (Ev.congr (fun k => by rw [hSS, if_pos hm]) h1)), Ev.step (fun k => by rw [hII, if_pos hm]) h2, h3⟩
      | false =>
        refine ⟨none, Ev.step (fun k => hS k) (Ev.bind hr (Ev.congr (f := fun _ => some (-2)) (fun k => by rw [hSS, if_neg (by rw [hm]; exact Bool.false_ne_true)]) (Ev.now _))), Ev.step (f := fun _ => some (0, false, false)) (fun k => by rw [hII, if_neg (by rw [hm]; exact Bool.false_ne_true)]) (Ev.now _), fun m h => by cases h⟩
theorem len_out (vals : List ByteArray) (hl : vals.length ≤ 100000000) (hx : ∀ x ∈ vals, x.size ≤ 100000000) : ∀ (d i : Nat) (st : Option Nat), i + d = vals.length → bnd st →
    ∃ q, Ev (fun k => spec_l4Length.l0 k (stS st) vals (vals.length : Int) (i : Int)) (outS q) ∧ Ev (fun k => impl_lengthOf.l0 k (stI st) st.isSome vals (vals.length : Int) (i : Int)) (outI q) ∧ (∀ m, q = some (some m) → m < 1000000000) := by
  intro d
  induction d with
  | zero =>
    intro i st hi hb
    refine ⟨some st, ?_, ?_, fun m h => hb m (Option.some.inj h)⟩
    · refine Ev.step (f := fun _ => some (stS st)) (fun k => ?_) (Ev.congr (fun k => ?_) (Ev.now _))
      · simp only [spec_l4Length.l0]
        rw [if_neg (by omega)]
      · cases st <;> rfl
    · refine Ev.step (f := fun _ => some (stI st, st.isSome, true)) (fun k => ?_) (Ev.congr (fun k => ?_) (Ev.now _))
      · simp only [impl_lengthOf.l0]
        rw [if_neg (by omega)]
      · cases st <;> rfl
  | succ d ih =>
    intro i st hi hb
    have hlt : i < vals.length := by omega
    have w1 : wrap64 ((i : Int) + 1) = ((i + 1 : Nat) : Int) := w2 (Nat.le_of_lt hlt) (by omega) 1 (by omega)
    have hrd : rdOf ByteArray.empty vals (i : Int) = vals[i] := getD_at hlt _
    obtain ⟨R, r1, r2, r3, r4⟩ := List_both vals[i] (by have := hx _ (List.getElem_mem hlt); omega)
    have hz := hx _ (List.getElem_mem hlt)
    obtain ⟨fl, hfl⟩ : ∃ fl : Bool, fl = if R.2 = true then ((R.1.length : Int) == 0) else true := ⟨_, rfl⟩
    have sp : ∀ q, Ev (fun k => spec_l4Length.j1 k (stS st) R.1 vals (vals.length : Int) (i : Int) fl) q → Ev (fun k => spec_l4Length.l0 k (stS st) vals (vals.length : Int) (i : Int)) q := by
      intro q h
      refine Ev.step (f := fun k => (spec_l3List.f k vals[i]).bind fun bt133 => (if bt133.2 = true then (spec_l4Length.j1 k (stS st) bt133.1 vals (vals.length : Int) (i : Int) ((bt133.1.length : Int) == 0)) else (spec_l4Length.j1 k (stS st) bt133.1 vals (vals.length : Int) (i : Int) true))) (fun k => ?_) (Ev.bind r1 ?_)
      · simp only [spec_l4Length.l0]
        rw [if_pos (by omega), if_pos (by omega), if_pos (by omega), hrd]
      · refine Ev.congr (fun k => ?_) h
        rw [hfl]
        by_cases c : R.2 = true
        · rw [if_pos c, if_pos c]
        · rw [if_neg c, if_neg c]
    have im : ∀ q, Ev (fun k => impl_lengthOf.j1 k (stI st) st.isSome R.1 vals (vals.length : Int) (i : Int) fl) q → Ev (fun k => impl_lengthOf.l0 k (stI st) st.isSome vals (vals.length : Int) (i : Int)) q := by
      intro q h
      refine Ev.step (f := fun k => (impl_listOf.f k vals[i]).bind fun bt258 => (if bt258.2 = true then (impl_lengthOf.j1 k (stI st) st.isSome bt258.1 vals (vals.length : Int) (i : Int) ((bt258.1.length : Int) == 0)) else (impl_lengthOf.j1 k (stI st) st.isSome bt258.1 vals (vals.length : Int) (i : Int) true))) (fun k => ?_) (Ev.bind r2 ?_)
      · simp only [impl_lengthOf.l0]
        rw [if_pos (by omega), if_pos (by omega), if_pos (by omega), hrd]
      · refine Ev.congr (fun k => ?_) h
        rw [hfl]
        by_cases c : R.2 = true
        · rw [if_pos c, if_pos c]
        · rw [if_neg c, if_neg c]
    cases fl with
    | true =>
      exact ⟨none, sp _ (Ev.step (f := fun _ => some (-2)) (fun k => by simp only [spec_l4Length.j1]; rw [if_pos trivial]) (Ev.now _)), im _ (Ev.step (f := fun _ => some (0, false, false)) (fun k => by simp only [impl_lengthOf.j1]; rw [if_pos trivial]) (Ev.now _)), fun m h => by cases h⟩
    | false =>
      obtain ⟨q, q1, q2, q3⟩ := len_in vals R.1 vals.length i (by omega) (fun x h => by have := r3 x h; omega) R.1.length 0 st (by omega) hb (fun st' hb' => by
        rw [w1]; exact ih (i + 1) st' (by omega) hb')
      exact ⟨q, sp _ (Ev.step (fun k => by simp only [spec_l4Length.j1]; rw [if_neg (by simp)]; rfl) q1), im _ (Ev.step (fun k => by simp only [impl_lengthOf.j1]; rw [if_neg (by simp)]; rfl) q2), q3⟩
theorem len_both (l : List S105) (hl : l.length ≤ 100000000) (hs : ∀ f ∈ l, f.f0.size ≤ 100000000 ∧ f.f1.size ≤ 100000000) :
    ∃ q, Ev (fun k => spec_l4Length.f k l) (outS q) ∧ Ev (fun k => impl_lengthOf.f k l) (outI q) ∧ (∀ m, q = some (some m) → m < 1000000000) := by
  obtain ⟨v1, v2⟩ := vals_both l ⟨#[99, 111, 110, 116, 101, 110, 116, 45, 108, 101, 110, 103, 116, 104]⟩ (by omega) (by decide) (fun f hf => by have := (hs f hf).1; omega)
  obtain ⟨q, h1, h2, h3⟩ := len_out (valT l ⟨#[99, 111, 110, 116, 101, 110, 116, 45, 108, 101, 110, 103, 116, 104]⟩) (by have := valT_len l ⟨#[99, 111, 110, 116, 101, 110, 116, 45, 108, 101, 110, 103, 116, 104]⟩; omega) (fun x hx => by obtain ⟨f, hf, rfl⟩ := valT_mem _ _ _ hx; exact (hs f hf).2) (valT l ⟨#[99, 111, 110, 116, 101, 110, 116, 45, 108, 101, 110, 103, 116, 104]⟩).length 0 none (by omega) (fun n h => by cases h)
  exact ⟨q, Ev.bind v1 h1, Ev.bind v2 h2, h3⟩
/-- A header's fields out of its lines. -/
def teB : ByteArray := ⟨#[116, 114, 97, 110, 115, 102, 101, 114, 45, 101, 110, 99, 111, 100, 105, 110, 103]⟩
def lineF (f : S105) : ByteArray := ((f.f0 ++ (⟨#[58, 32]⟩ : ByteArray)) ++ f.f1) ++ (⟨#[13, 10]⟩ : ByteArray)
theorem size_lit2 (a b : UInt8) : (⟨#[a, b]⟩ : ByteArray).size = 2 := rfl
theorem line_size (f : S105) (h : f.f0.size ≤ 100000000 ∧ f.f1.size ≤ 100000000) : (f.f0 ++ (⟨#[58, 32]⟩ : ByteArray)).size ≤ 100000002 ∧ ((f.f0 ++ (⟨#[58, 32]⟩ : ByteArray)) ++ f.f1).size ≤ 200000002 ∧ (lineF f).size ≤ 200000004 := by
  unfold lineF
  simp only [ByteArray.size_append, size_lit2]
  omega
theorem size_lit1 (a : UInt8) : (⟨#[a]⟩ : ByteArray).size = 1 := rfl
theorem u8_48 (k : Nat) (h : k < 10) : (UInt8.ofNat (48 + k)).toNat = 48 + k := by
  rw [UInt8.toNat_ofNat']
  exact Nat.mod_eq_of_lt (by omega)
theorem dec3 (n : Nat) (h1 : 100 ≤ n) (h2 : n < 1000) : Lib.decDigits n = [UInt8.ofNat (48 + n / 100), UInt8.ofNat (48 + n / 10 % 10), UInt8.ofNat (48 + n % 10)] := by
  rw [Lib.decDigits, dif_neg (by omega), Lib.decDigits_two (by omega) (by omega), show n / 10 / 10 = n / 100 by omega]
  rfl
theorem nv_consg (acc : Nat) (c : UInt8) (r : List UInt8) (p : Nat → Prop) (h : p (nv (acc * 10 + (c.toNat - 48)) r)) : p (nv acc (c :: r)) := h
theorem nv_cons (acc : Nat) (c : UInt8) (r : List UInt8) : nv acc (c :: r) = nv (acc * 10 + (c.toNat - 48)) r := nv_consg acc c r (fun z => z = nv (acc * 10 + (c.toNat - 48)) r) rfl
theorem nv_nilg (acc : Nat) (p : Nat → Prop) (h : p acc) : p (nv acc []) := h
theorem nv_nil (acc : Nat) : nv acc [] = acc := nv_nilg acc (fun z => z = acc) rfl
theorem ar3 (a b c : Nat) : ((0 * 10 + a) * 10 + b) * 10 + c = a * 100 + b * 10 + c := by omega
theorem nv3 (x y z : UInt8) : nv 0 [x, y, z] = (x.toNat - 48) * 100 + (y.toNat - 48) * 10 + (z.toNat - 48) := by
  rw [nv_cons, nv_cons, nv_cons, nv_nil, ar3]
theorem dec3_good (n : Nat) (h1 : 100 ≤ n) (h2 : n < 1000) : (Lib.decDigits n).length = 3 ∧ (Lib.decDigits n).all digU = true ∧ (Lib.decDigits n)[0]? ≠ some 48 ∧ nv 0 (Lib.decDigits n) = n := by
  rw [dec3 n h1 h2]
  have a := u8_48 (n / 100) (by omega)
  have b := u8_48 (n / 10 % 10) (by omega)
  have c := u8_48 (n % 10) (by omega)
  refine ⟨rfl, ?_, ?_, ?_⟩
  · simp only [List.all_cons, List.all_nil, digU, a, b, c, Bool.and_true, Bool.and_eq_true, decide_eq_true_eq]
    omega
  · intro h
    have h3 : UInt8.ofNat (48 + n / 100) = 48 := Option.some.inj h
    rw [h3] at a
    have : (48 : UInt8).toNat = 48 := rfl
    omega
  · rw [nv3, a, b, c]
    omega
theorem nDigits_le (n : Nat) : Lib.nDigits n ≤ n + 1 := by
  induction n using Nat.strongRecOn with
  | _ n ih =>
    rw [Lib.nDigits]
    split
    · omega
    · have := ih (n / 10) (by omega)
      omega
theorem num_is (n : Nat) : n ≤ 1000000 → Ev (fun k => spec_l1Num.f k (n : Int)) ⟨(Lib.decDigits n).toArray⟩ := by
  induction n using Nat.strongRecOn with
  | _ n ih =>
    intro hn
    have hm : ∀ k : Nat, k < 10 → strOfNums (([((48 + (k : Int))) % 256] : List Int)) = ⟨#[UInt8.ofNat (48 + k)]⟩ := by
      intro k hk
      unfold strOfNums
      rw [List.map_cons, List.map_nil, show ((48 + (k : Int)) % 256).toNat = 48 + k by omega]
    by_cases c : n < 10
    · refine Ev.step (f := fun _ => some (strOfNums (([(wrap64 (48 + (n : Int))) % 256] : List Int)))) (fun k => ?_) ?_
      · simp only [spec_l1Num.f]; rw [if_pos (by omega)]
      · rw [w64 (x := 48 + (n : Int)) (by omega) (by omega), hm n c, Lib.decDigits, dif_pos c]
        exact Ev.now _
    · have h1 := ih (n / 10) (by omega) (by omega)
      have hq : wrap64 (Int.tdiv (n : Int) 10) = ((n / 10 : Nat) : Int) := by
        rw [show Int.tdiv (n : Int) 10 = ((n / 10 : Nat) : Int) from by rw [Int.tdiv_eq_ediv_of_nonneg (by omega)]; omega]
        unfold wrap64; omega
      have hr : wrap64 (48 + (Int.tmod (n : Int) 10)) = 48 + ((n % 10 : Nat) : Int) := by
        rw [show Int.tmod (n : Int) 10 = ((n % 10 : Nat) : Int) from by rw [Int.tmod_eq_emod_of_nonneg (by omega)]; omega]
        unfold wrap64; omega
      have hsz : (⟨(Lib.decDigits (n / 10)).toArray⟩ : ByteArray).size ≤ 1000001 := by
        show (Lib.decDigits (n / 10)).toArray.size ≤ _
        rw [List.size_toArray, Lib.decDigits_length]
        have := nDigits_le (n / 10)
        omega
      refine Ev.step (f := fun k => (spec_l1Num.f k ((n / 10 : Nat) : Int)).bind fun t => ((some ([(wrap64 (48 + (Int.tmod (n : Int) 10))) % 256] : List Int)).bind fun y => (if t.size + (strOfNums y).size ≤ 9223372036854775807 then (some (t ++ (strOfNums y))) else (none)))) (fun k => ?_) (Ev.bind h1 ?_)
      · simp only [spec_l1Num.f]
        rw [if_neg (by omega), hq]
      · rw [hr, Option.bind_some, hm (n % 10) (by omega)]
        refine Ev.congr (f := fun _ => some (⟨(Lib.decDigits n).toArray⟩ : ByteArray)) (fun k => ?_) (Ev.now _)
        rw [if_pos (by rw [size_lit1]; omega)]
        refine congrArg some (ba_ext ?_)
        rw [ByteArray.data_append, Array.toList_append, data_mk, data_mk, Lib.decDigits.eq_def n, dif_neg c]
theorem itoa_nat (n : Nat) : Lib.itoa (n : Int) = Lib.decDigits n := by
  unfold Lib.itoa
  rw [if_neg (by omega), Int.toNat_natCast]
theorem reason_spec (t : ByteArray) (hz : t.size ≤ 1125899906842624) : Ev (fun k => spec_l4Reason.f k t) (prT t && decide ((t.size : Int) ≤ 40)) := by
  refine Ev.bind (pr_spec t hz) ?_
  cases prT t with
  | true => exact Ev.congr (fun k => by rw [if_pos rfl, Bool.true_and]) (Ev.now _)
  | false => exact Ev.congr (fun k => by rw [if_neg (by simp), Bool.false_and]) (Ev.now _)
def sgn17 : ByteArray := ⟨#[45, 46, 95, 126, 33, 36, 38, 39, 40, 41, 42, 43, 44, 59, 61, 58, 64]⟩
def sgn13 : ByteArray := ⟨#[33, 36, 38, 39, 40, 41, 42, 43, 44, 59, 61, 58, 64]⟩
def free3 (x1 : ByteArray) (c : Int) : Option Bool := (spec_l1Free.f c).bind fun t => if t = true then some true else (spec_l1Has.f 20 sgn13 c).bind fun u => if u = true then some true else spec_l1Has.f 20 x1 c
structure Oth (x1 : ByteArray) : Prop where
  eq : ∀ c : Fin 256, impl_isAmong.f (c.val : Int) (sgn17 ++ x1) = free3 x1 (c.val : Int)
  is : ∀ c : Fin 256, (free3 x1 (c.val : Int)).isSome = true
  no : free3 x1 37 = some false
  sz : x1.size ≤ 2
theorem oth1 : Oth (⟨#[47]⟩ : ByteArray) := ⟨by decide +kernel, by decide +kernel, by decide +kernel, by decide⟩
theorem oth2 : Oth (⟨#[47, 63]⟩ : ByteArray) := ⟨by decide +kernel, by decide +kernel, by decide +kernel, by decide⟩
theorem hex_fin : ∀ c : Fin 256, impl_hexValue.f (c.val : Int) = spec_l1Hex.f 1 (c.val : Int) ∧ (spec_l1Hex.f 1 (c.val : Int)).isSome = true := by decide +kernel
theorem host_fin : ∀ c : Fin 256, impl_GoodUrl_1.f (c.val : Int) = ((spec_l1Letter.f (c.val : Int)).bind fun t => if t = true then some true else (spec_l1Digit.f (c.val : Int)).bind fun u => if u = true then some true else if (c.val : Int) = 45 then some true else if (c.val : Int) = 46 then some true else some false) ∧ (impl_GoodUrl_1.f (c.val : Int)).isSome = true := by decide +kernel
theorem bt_ext (s : ByteArray) (i j : Nat) (h : i + j < s.size) : bt (s.extract i s.size) (j : Int) = bt s ((i + j : Nat) : Int) := by
  have h1 : j < (s.extract i s.size).size := by rw [ByteArray.size_extract]; omega
  unfold bt
  rw [dif_pos (show ((j : Nat) : Int).toNat < _ by rw [Int.toNat_natCast]; exact h1), dif_pos (show ((i + j : Nat) : Int).toNat < _ by rw [Int.toNat_natCast]; exact h)]
  simp only [Int.toNat_natCast, ByteArray.getElem_extract]
theorem hex_rng : ∀ c : Fin 256, -1 ≤ (spec_l1Hex.f 1 (c.val : Int)).getD 0 ∧ (spec_l1Hex.f 1 (c.val : Int)).getD 0 ≤ 15 := by decide +kernel
theorem hexE (c : Fin 256) : ∃ v, impl_hexValue.f (c.val : Int) = some v ∧ Ev (fun k => spec_l1Hex.f k (c.val : Int)) v ∧ -1 ≤ v ∧ v ≤ 15 := by
  obtain ⟨h1, h2⟩ := hex_fin c
  obtain ⟨v, hv⟩ := Option.isSome_iff_exists.mp h2
  have h3 := hex_rng c
  rw [hv] at h3
  exact ⟨v, h1.trans hv, Ev.of (fun k => spec_l1Hex.mono _ _) hv, h3.1, h3.2⟩
theorem pct (x0 : ByteArray) (hz : x0.size ≤ 1125899906842624) (i : Nat) (hi : i < x0.size) (h37 : bt x0 (i : Int) = 37) :
    ∃ n b v, Ev (fun k => impl_percent.f k (x0.extract i x0.size)) (n, b) ∧ Ev (fun k => spec_l1Byte.f k x0 (i : Int)) v ∧ (b = true → 0 ≤ v ∧ i + 2 < x0.size) ∧ (b = false → v < 0) := by
  have hs : (x0.extract i x0.size).size = x0.size - i := by rw [ByteArray.size_extract]; omega
  have w12 : wrap64 ((i : Int) + 2) = ((i + 2 : Nat) : Int) := w2 (Nat.le_of_lt hi) hz 2 (by omega)
  have w11 : wrap64 ((i : Int) + 1) = ((i + 1 : Nat) : Int) := w2 (Nat.le_of_lt hi) hz 1 (by omega)
  have jt : ∀ y, Ev (fun k => impl_percent.j0 k y true) (0, false) := fun y => Ev.step (f := fun _ => some (0, false)) (fun k => by simp only [impl_percent.j0, if_true]) (Ev.now _)
  by_cases c3 : x0.size - i < 3
  · refine ⟨0, false, -1, ?_, ?_, by simp, by simp⟩
    · refine Ev.congr (f := fun k => impl_percent.j0 k (x0.extract i x0.size) true) (fun k => ?_) (jt _)
      unfold impl_percent.f
      rw [if_pos (by omega)]
    · refine Ev.congr (f := fun k => spec_l1Byte.j0 k x0 (i : Int) true) (fun k => ?_) (Ev.step (f := fun _ => some (-1)) (fun k => by simp only [spec_l1Byte.j0, if_true]) (Ev.now _))
      unfold spec_l1Byte.f
      rw [w12, if_pos (by omega)]
  · obtain ⟨c1, e1⟩ := fin_of x0 ((i + 1 : Nat) : Int)
    obtain ⟨c2, e2⟩ := fin_of x0 ((i + 2 : Nat) : Int)
    obtain ⟨v1, a1, b1, l1, u1⟩ := hexE c1
    obtain ⟨v2, a2, b2, l2, u2⟩ := hexE c2
    have f0 : bt (x0.extract i x0.size) 0 = 37 := by have := bt_ext x0 i 0 (by omega); simp only [Nat.add_zero] at this; exact this.trans h37
    have f1 : bt (x0.extract i x0.size) 1 = (c1.val : Int) := (bt_ext x0 i 1 (by omega)).trans e1
    have f2 : bt (x0.extract i x0.size) 2 = (c2.val : Int) := (bt_ext x0 i 2 (by omega)).trans e2
    have hI : ∀ k, impl_percent.f k (x0.extract i x0.size) = if v1 < 0 then impl_percent.j0 k (x0.extract i x0.size) true else impl_percent.j0 k (x0.extract i x0.size) (decide (v2 < 0)) := by
      intro k
      unfold impl_percent.f
      rw [if_neg (by omega), if_pos (by omega), f0, if_pos rfl, if_pos (by omega), f1, a1, if_pos (by omega), f2, a2]
      rfl
    have hJ : Ev (fun k => impl_percent.j0 k (x0.extract i x0.size) false) ((Go.bits .or .i64 (wrap64 (v1 * 16)) v2) % 256, true) := Ev.step (f := fun _ => some ((Go.bits .or .i64 (wrap64 (v1 * 16)) v2) % 256, true)) (fun k => by
      simp only [impl_percent.j0]
      rw [if_neg (by simp), if_pos (by omega), f1, a1]
      simp only [Option.bind_some]
      rw [if_pos (by omega), f2, a2]
      rfl) (Ev.now _)
    have hS : ∀ v, Ev (fun k => if v1 < 0 then some (-1) else if v2 < 0 then some (-1) else some (wrap64 ((wrap64 (16 * v1)) + v2))) v → Ev (fun k => spec_l1Byte.f k x0 (i : Int)) v := by
      intro v h
      refine Ev.congr (f := fun k => spec_l1Byte.j0 k x0 (i : Int) false) (fun k => ?_) (Ev.step (fun k => by
        simp only [spec_l1Byte.j0]
        rw [if_neg (by simp), w11, w12, if_pos (by omega), if_pos (by omega), e1]) (Ev.bind b1 ?_))
      · unfold spec_l1Byte.f
        rw [w12, if_neg (by omega), if_pos (by omega), if_pos (by omega), h37]
        rfl
      · simp only [if_pos (show (0 : Int) ≤ ((i + 2 : Nat) : Int) by omega), if_pos (show ((i + 2 : Nat) : Int) < (x0.size : Int) by omega), e2]
        exact Ev.bind b2 h
    by_cases n1 : v1 < 0
    · refine ⟨0, false, -1, Ev.congr (fun k => by rw [hI, if_pos n1]) (jt _), hS _ (Ev.congr (fun k => by rw [if_pos n1]) (Ev.now _)), by simp, by simp⟩
    by_cases n2 : v2 < 0
    · refine ⟨0, false, -1, Ev.congr (fun k => by rw [hI, if_neg n1, decide_eq_true n2]) (jt _), hS _ (Ev.congr (fun k => by rw [if_neg n1, if_pos n2]) (Ev.now _)), by simp, by simp⟩
    refine ⟨_, true, _, Ev.congr (fun k => by rw [hI, if_neg n1, decide_eq_false n2]) hJ, hS _ (Ev.congr (fun k => by rw [if_neg n1, if_neg n2]) (Ev.now _)), fun _ => ⟨?_, by omega⟩, by simp⟩
    unfold wrap64; omega
theorem oth_bits {x1 : ByteArray} (O : Oth x1) (c : Fin 256) : ∃ b, impl_isAmong.f (c.val : Int) (sgn17 ++ x1) = some b ∧ free3 x1 (c.val : Int) = some b := by
  obtain ⟨b, hb⟩ := Option.isSome_iff_exists.mp (O.is c)
  exact ⟨b, (O.eq c).trans hb, hb⟩
theorem spec_step {x0 x1 : ByteArray} {i : Nat} {c : Fin 256} {b : Bool} (hi : i < x0.size) (hc : bt x0 (i : Int) = (c.val : Int)) (hb : free3 x1 (c.val : Int) = some b) {r : Bool} (h : Ev (fun k => spec_l1Chars.j1 k x0 x1 (i : Int) b) r) :
    Ev (fun k => spec_l1Chars.l0 k x0 x1 (i : Int)) r := by
  refine Ev.step (f := fun k => (spec_l1Free.f (c.val : Int)).bind fun t110 => (if t110 = true then (spec_l1Chars.j1 k x0 x1 (i : Int) true) else ((spec_l1Has.f k sgn13 (c.val : Int)).bind fun t111 => (if t111 = true then (spec_l1Chars.j1 k x0 x1 (i : Int) true) else ((spec_l1Has.f k x1 (c.val : Int)).bind fun t112 => (spec_l1Chars.j1 k x0 x1 (i : Int) t112)))))) (fun k => ?_) ?_
  · simp only [spec_l1Chars.l0]
    rw [if_pos (by omega), if_pos (by omega), hc]
    rfl
  · unfold free3 at hb
    obtain ⟨t, ht, hb⟩ := Option.bind_eq_some_iff.mp hb
    rw [ht]
    simp only [Option.bind_some]
    by_cases c1 : t = true
    · rw [if_pos c1] at hb
      obtain rfl := Option.some.inj hb
      exact Ev.congr (fun k => by rw [if_pos c1]) h
    · rw [if_neg c1] at hb
      simp only [if_neg c1]
      obtain ⟨u, hu, hb⟩ := Option.bind_eq_some_iff.mp hb
      refine Ev.bind (Ev.of (fun k => spec_l1Has.mono _ _ _) hu) ?_
      by_cases c2 : u = true
      · rw [if_pos c2] at hb
        obtain rfl := Option.some.inj hb
        exact Ev.congr (fun k => by rw [if_pos c2]) h
      · rw [if_neg c2] at hb
        simp only [if_neg c2]
        exact Ev.bind (Ev.of (fun k => spec_l1Has.mono _ _ _) hb) h
theorem byte_no {x0 : ByteArray} {i : Nat} (hi : i < x0.size) (h37 : ¬ bt x0 (i : Int) = 37) : Ev (fun k => spec_l1Byte.f k x0 (i : Int)) (-1) := by
  refine Ev.congr (f := fun k => spec_l1Byte.j0 k x0 (i : Int) true) (fun k => ?_) (Ev.step (f := fun _ => some (-1)) (fun k => by simp only [spec_l1Byte.j0, if_true]) (Ev.now _))
  unfold spec_l1Byte.f
  by_cases c : wrap64 ((i : Int) + 2) ≥ (x0.size : Int)
  · rw [if_pos c]
  · rw [if_neg c, if_pos (by omega), if_pos (by omega), bne_iff_ne.mpr h37]
theorem chars_both {x1 : ByteArray} (O : Oth x1) (x0 : ByteArray) (hz : x0.size ≤ 1125899906842624) : ∀ (d i : Nat), x0.size - i ≤ d → i ≤ x0.size →
    ∃ r, Ev (fun k => spec_l1Chars.l0 k x0 x1 (i : Int)) r ∧ Ev (fun k => impl_arePchars.l0 k x0 x1 (i : Int)) r := by
  intro d
  induction d with
  | zero =>
    intro i hd hi
    exact ⟨true, Ev.step (f := fun _ => some true) (fun k => by simp only [spec_l1Chars.l0]; rw [if_neg (by omega)]) (Ev.now _), Ev.step (f := fun _ => some true) (fun k => by simp only [impl_arePchars.l0]; rw [if_neg (by omega)]) (Ev.now _)⟩
  | succ d ih =>
    intro i hd hi
    by_cases hlt : i < x0.size
    rotate_left
    · exact ⟨true, Ev.step (f := fun _ => some true) (fun k => by simp only [spec_l1Chars.l0]; rw [if_neg (by omega)]) (Ev.now _), Ev.step (f := fun _ => some true) (fun k => by simp only [impl_arePchars.l0]; rw [if_neg (by omega)]) (Ev.now _)⟩
    obtain ⟨c, hc⟩ := fin_of x0 (i : Int)
    obtain ⟨b, hb1, hb2⟩ := oth_bits O c
    have w1 : wrap64 ((i : Int) + 1) = ((i + 1 : Nat) : Int) := w2 hi hz 1 (by omega)
    have w3 : wrap64 ((wrap64 ((i : Int) + 2)) + 1) = ((i + 3 : Nat) : Int) := by unfold wrap64; omega
    by_cases h37 : bt x0 (i : Int) = 37
    · have hb : b = false := by
        have h0 : (c.val : Int) = 37 := hc.symm.trans h37
        rw [h0, O.no] at hb2
        exact (Option.some.inj hb2).symm
      subst hb
      obtain ⟨n, q, v, p1, p2, p3, p4⟩ := pct x0 hz i hlt h37
      have hI : ∀ r, Ev (fun k => if q = true then impl_arePchars.l0 k x0 x1 ((i + 3 : Nat) : Int) else some false) r → Ev (fun k => impl_arePchars.l0 k x0 x1 (i : Int)) r := by
        intro r h
        refine Ev.step (f := fun k => (impl_percent.f k (x0.extract i x0.size)).bind fun bt147 => if bt147.2 = true then impl_arePchars.l0 k x0 x1 ((i + 3 : Nat) : Int) else some false) (fun k => ?_) (Ev.bind p1 h)
        simp only [impl_arePchars.l0]
        rw [if_pos (by omega), if_pos (by omega), if_pos h37, if_pos (by omega), w3]
        rfl
      have hS : ∀ r, Ev (fun k => if v < 0 then some false else spec_l1Chars.l0 k x0 x1 ((i + 3 : Nat) : Int)) r → Ev (fun k => spec_l1Chars.l0 k x0 x1 (i : Int)) r := by
        intro r h
        refine spec_step hlt hc hb2 (Ev.step (f := fun k => (spec_l1Byte.f k x0 (i : Int)).bind fun t113 => if t113 < 0 then some false else spec_l1Chars.l0 k x0 x1 ((i + 3 : Nat) : Int)) (fun k => ?_) (Ev.bind p2 h))
        simp only [spec_l1Chars.j1]
        rw [if_neg (by simp), w3]
      cases q with
      | true =>
        obtain ⟨r, r1, r2⟩ := ih (i + 3) (by omega) (by have := p3 rfl; omega)
        exact ⟨r, hS r (Ev.congr (fun k => by rw [if_neg (by have := p3 rfl; omega)]) r1), hI r (Ev.congr (fun k => by rw [if_pos rfl]) r2)⟩
      | false => exact ⟨false, hS _ (Ev.congr (fun k => by rw [if_pos (p4 rfl)]) (Ev.now _)), hI _ (Ev.congr (fun k => by rw [if_neg (by simp)]) (Ev.now _))⟩
    · have hI : ∀ r, Ev (fun k => if b = true then impl_arePchars.l0 k x0 x1 ((i + 1 : Nat) : Int) else some false) r → Ev (fun k => impl_arePchars.l0 k x0 x1 (i : Int)) r := by
        intro r h
        refine Ev.step (fun k => ?_) h
        simp only [impl_arePchars.l0]
        rw [if_pos (by omega), if_pos (by omega), if_neg h37, if_pos (by have := O.sz; omega), w1, hc]
        rw [show (⟨#[45, 46, 95, 126, 33, 36, 38, 39, 40, 41, 42, 43, 44, 59, 61, 58, 64]⟩ : ByteArray) = sgn17 from rfl, hb1]
        rfl
      cases b with
      | true =>
        obtain ⟨r, r1, r2⟩ := ih (i + 1) (by omega) (by omega)
        refine ⟨r, spec_step hlt hc hb2 (Ev.step (fun k => ?_) r1), hI r (Ev.congr (fun k => by rw [if_pos rfl]) r2)⟩
        simp only [spec_l1Chars.j1]
        rw [if_pos trivial, w1]
      | false =>
        refine ⟨false, spec_step hlt hc hb2 (Ev.step (f := fun k => (spec_l1Byte.f k x0 (i : Int)).bind fun t113 => if t113 < 0 then some false else spec_l1Chars.l0 k x0 x1 ((i + 3 : Nat) : Int)) (fun k => ?_) (Ev.bind (byte_no hlt h37) ?_)), hI _ (Ev.congr (fun k => by rw [if_neg (by simp)]) (Ev.now _))⟩
        · simp only [spec_l1Chars.j1]
          rw [if_neg (by simp), w3]
        · exact Ev.congr (fun k => by rw [if_pos (by decide)]) (Ev.now _)
theorem Chars_both {x1 : ByteArray} (O : Oth x1) (x0 : ByteArray) (hz : x0.size ≤ 1125899906842624) : ∃ r, Ev (fun k => spec_l1Chars.f k x0 x1) r ∧ Ev (fun k => impl_arePchars.f k x0 x1) r :=
  chars_both O x0 hz x0.size 0 (by omega) (by omega)
def hostB (c : Int) : Bool := (impl_GoodUrl_1.f c).getD false
theorem hostB_is (c : Fin 256) : impl_GoodUrl_1.f (c.val : Int) = some (hostB (c.val : Int)) := by
  obtain ⟨b, hb⟩ := Option.isSome_iff_exists.mp (host_fin c).2
  unfold hostB; rw [hb]; rfl
theorem host_impl (s : ByteArray) (hz : s.size ≤ 1125899906842624) : impl_areBytes_80.f s = some ((bytesOf s).all hostB) := by
  unfold impl_areBytes_80.f
  rw [if_pos (by omega)]
  exact allO_all' (bytesOf s) (fun x hx => by obtain ⟨c, rfl⟩ := bytes_fin s x hx; exact hostB_is c)
theorem host_loop (s : ByteArray) (hz : s.size ≤ 1125899906842624) : ∀ (d i : Nat), s.size - i ≤ d → i ≤ s.size →
    Ev (fun k => spec_l1Host.l0 k s (i : Int)) (((bytesOf s).drop i).all hostB && (decide ((s.size : Int) ≥ 1) && decide ((s.size : Int) ≤ 60))) := by
  have fin : ∀ i : Nat, ¬ i < s.size → i ≤ s.size → Ev (fun k => spec_l1Host.l0 k s (i : Int)) (((bytesOf s).drop i).all hostB && (decide ((s.size : Int) ≥ 1) && decide ((s.size : Int) ≤ 60))) := by
    intro i hn hi
    rw [List.drop_of_length_le (by rw [bytesOf_length]; omega)]
    refine Ev.step (f := fun _ => some (decide ((s.size : Int) ≥ 1) && decide ((s.size : Int) ≤ 60))) (fun k => ?_) (Ev.now _)
    simp only [spec_l1Host.l0]
    rw [if_neg (by omega)]
    unfold spec_l1In.f
    by_cases c : (s.size : Int) ≥ 1
    · rw [if_pos c, decide_eq_true c]; rfl
    · rw [if_neg c, decide_eq_false c]; rfl
  intro d
  induction d with
  | zero => intro i hd hi; exact fin i (by omega) hi
  | succ d ih =>
    intro i hd hi
    by_cases hlt : i < s.size
    rotate_left
    · exact fin i hlt hi
    obtain ⟨c, hc⟩ := fin_of s (i : Int)
    have w1 : wrap64 ((i : Int) + 1) = ((i + 1 : Nat) : Int) := w2 hi hz 1 (by omega)
    have hl : i < (bytesOf s).length := by rw [bytesOf_length]; exact hlt
    have hd' : (bytesOf s).drop i = (c.val : Int) :: (bytesOf s).drop (i + 1) := by
      rw [List.drop_eq_getElem_cons hl]
      congr 1
      rw [← getD_at hl 0]
      exact (rd_bytesOf s (i : Int)).trans hc
    have hb := (hostB_is c).symm.trans (host_fin c).1
    have go := ih (i + 1) (by omega) (by omega)
    rw [hd', List.all_cons]
    have hS : ∀ k, spec_l1Host.l0 (k + 1) s (i : Int) = (spec_l1Letter.f (c.val : Int)).bind fun t103 => (if t103 = true then (spec_l1Host.l0 k s ((i + 1 : Nat) : Int)) else ((spec_l1Digit.f (c.val : Int)).bind fun t104 => (if t104 = true then (spec_l1Host.l0 k s ((i + 1 : Nat) : Int)) else (if (c.val : Int) = 45 then (spec_l1Host.l0 k s ((i + 1 : Nat) : Int)) else (if (c.val : Int) = 46 then (spec_l1Host.l0 k s ((i + 1 : Nat) : Int)) else (some false)))))) := by
      intro k
      simp only [spec_l1Host.l0]
      rw [if_pos (by omega), if_pos (by omega), hc, w1]
    refine Ev.step hS ?_
    obtain ⟨t, ht, hb⟩ := Option.bind_eq_some_iff.mp hb.symm
    rw [ht]
    simp only [Option.bind_some]
    by_cases c1 : t = true
    · rw [if_pos c1] at hb
      rw [← Option.some.inj hb]
      exact Ev.congr (fun k => by rw [if_pos c1]) go
    rw [if_neg c1] at hb
    simp only [if_neg c1]
    obtain ⟨u, hu, hb⟩ := Option.bind_eq_some_iff.mp hb
    rw [hu]
    simp only [Option.bind_some]
    by_cases c2 : u = true
    · rw [if_pos c2] at hb
      rw [← Option.some.inj hb]
      exact Ev.congr (fun k => by rw [if_pos c2]) go
    rw [if_neg c2] at hb
    simp only [if_neg c2]
    by_cases c3 : (c.val : Int) = 45
    · rw [if_pos c3] at hb
      rw [← Option.some.inj hb]
      exact Ev.congr (fun k => by rw [if_pos c3]) go
    rw [if_neg c3] at hb
    simp only [if_neg c3]
    by_cases c4 : (c.val : Int) = 46
    · rw [if_pos c4] at hb
      rw [← Option.some.inj hb]
      exact Ev.congr (fun k => by rw [if_pos c4]) go
    rw [if_neg c4] at hb
    simp only [if_neg c4]
    rw [← Option.some.inj hb]
    exact Ev.now _
theorem host_spec (s : ByteArray) (hz : s.size ≤ 1125899906842624) : Ev (fun k => spec_l1Host.f k s) ((bytesOf s).all hostB && (decide ((s.size : Int) ≥ 1) && decide ((s.size : Int) ≤ 60))) := by
  have h := host_loop s hz s.size 0 (by omega) (by omega)
  rw [List.drop_zero] at h
  exact h
theorem num_size (n : Nat) (hn : n ≤ 1000000) : ∃ t : ByteArray, Ev (fun k => spec_l1Num.f k (n : Int)) t ∧ t.size = Lib.nDigits n := by
  induction n using Nat.strongRecOn with
  | _ n ih =>
    by_cases c : n < 10
    · refine ⟨_, Ev.step (f := fun _ => some (strOfNums (([(wrap64 (48 + (n : Int))) % 256] : List Int)))) (fun k => ?_) (Ev.now _), ?_⟩
      · simp only [spec_l1Num.f]; rw [if_pos (by omega)]
      · rw [Lib.nDigits, dif_pos c]; rfl
    · obtain ⟨t, h1, h2⟩ := ih (n / 10) (by omega) (by omega)
      have hq : wrap64 (Int.tdiv (n : Int) 10) = ((n / 10 : Nat) : Int) := by
        rw [show Int.tdiv (n : Int) 10 = ((n / 10 : Nat) : Int) from by rw [Int.tdiv_eq_ediv_of_nonneg (by omega)]; omega]
        unfold wrap64; omega
      have hd := nDigits_le (n / 10)
      refine ⟨t ++ strOfNums ([(wrap64 (48 + (Int.tmod (n : Int) 10))) % 256] : List Int), Ev.step (f := fun k => (spec_l1Num.f k ((n / 10 : Nat) : Int)).bind fun t117 => ((some (([(wrap64 (48 + (Int.tmod (n : Int) 10))) % 256] : List Int) : List Int)).bind fun y118 => (if t117.size + (strOfNums y118).size ≤ 9223372036854775807 then (some (t117 ++ (strOfNums y118))) else (none)))) (fun k => ?_) (Ev.bind h1 ?_), ?_⟩
      · simp only [spec_l1Num.f]
        rw [if_neg (by omega), hq]
      · simp only [Option.bind_some]
        refine Ev.congr (fun k => ?_) (Ev.now _)
        rw [if_pos]
        show t.size + 1 ≤ _
        omega
      · rw [ByteArray.size_append, h2, Lib.nDigits.eq_def n, dif_neg c]; rfl
def txt (a0_0 : ByteArray) (a0_1 : ByteArray) (a0_2 : Int) (a0_3 : ByteArray) (a0_4 : ByteArray) (a0_5 : Bool) (num : Option ByteArray) : Option ByteArray := if a0_0.size + 3 ≤ 9223372036854775807 then (if (a0_0 ++ (⟨#[58, 47, 47]⟩ : ByteArray)).size + a0_1.size ≤ 9223372036854775807 then (if a0_2 = 0 then (if ((a0_0 ++ (⟨#[58, 47, 47]⟩ : ByteArray)) ++ a0_1).size + a0_3.size ≤ 9223372036854775807 then (if a0_5 = true then (if 1 + a0_4.size ≤ 9223372036854775807 then (if (((a0_0 ++ (⟨#[58, 47, 47]⟩ : ByteArray)) ++ a0_1) ++ a0_3).size + ((⟨#[63]⟩ : ByteArray) ++ a0_4).size ≤ 9223372036854775807 then (some ((((a0_0 ++ (⟨#[58, 47, 47]⟩ : ByteArray)) ++ a0_1) ++ a0_3) ++ ((⟨#[63]⟩ : ByteArray) ++ a0_4))) else (none)) else (none)) else (some (((a0_0 ++ (⟨#[58, 47, 47]⟩ : ByteArray)) ++ a0_1) ++ a0_3))) else (none)) else ((num).bind fun t151 => (if 1 + t151.size ≤ 9223372036854775807 then (if ((a0_0 ++ (⟨#[58, 47, 47]⟩ : ByteArray)) ++ a0_1).size + ((⟨#[58]⟩ : ByteArray) ++ t151).size ≤ 9223372036854775807 then (if (((a0_0 ++ (⟨#[58, 47, 47]⟩ : ByteArray)) ++ a0_1) ++ ((⟨#[58]⟩ : ByteArray) ++ t151)).size + a0_3.size ≤ 9223372036854775807 then (if a0_5 = true then (if 1 + a0_4.size ≤ 9223372036854775807 then (if ((((a0_0 ++ (⟨#[58, 47, 47]⟩ : ByteArray)) ++ a0_1) ++ ((⟨#[58]⟩ : ByteArray) ++ t151)) ++ a0_3).size + ((⟨#[63]⟩ : ByteArray) ++ a0_4).size ≤ 9223372036854775807 then (some (((((a0_0 ++ (⟨#[58, 47, 47]⟩ : ByteArray)) ++ a0_1) ++ ((⟨#[58]⟩ : ByteArray) ++ t151)) ++ a0_3) ++ ((⟨#[63]⟩ : ByteArray) ++ a0_4))) else (none)) else (none)) else (some ((((a0_0 ++ (⟨#[58, 47, 47]⟩ : ByteArray)) ++ a0_1) ++ ((⟨#[58]⟩ : ByteArray) ++ t151)) ++ a0_3))) else (none)) else (none)) else (none)))) else (none)) else (none)
def txtV (s h : ByteArray) (p : Int) (t q : ByteArray) (b : Bool) (u : ByteArray) : ByteArray :=
  if b = true then (((if p = 0 then (s ++ ⟨#[58, 47, 47]⟩) ++ h else ((s ++ ⟨#[58, 47, 47]⟩) ++ h) ++ (⟨#[58]⟩ ++ u)) ++ t) ++ (⟨#[63]⟩ ++ q)) else ((if p = 0 then (s ++ ⟨#[58, 47, 47]⟩) ++ h else ((s ++ ⟨#[58, 47, 47]⟩) ++ h) ++ (⟨#[58]⟩ ++ u)) ++ t)
theorem txt_val (s h : ByteArray) (p : Int) (t q : ByteArray) (b : Bool) (u : ByteArray) (hs : s.size ≤ 1125899906842624) (hh : h.size ≤ 1125899906842624) (ht : t.size ≤ 1125899906842624) (hq : q.size ≤ 1125899906842624) (hu : u.size ≤ 1125899906842624) :
    txt s h p t q b (some u) = some (txtV s h p t q b u) := by
  have e3 : (⟨#[58, 47, 47]⟩ : ByteArray).size = 3 := rfl
  have e1 : (⟨#[58]⟩ : ByteArray).size = 1 := rfl
  have e2 : (⟨#[63]⟩ : ByteArray).size = 1 := rfl
  unfold txt txtV
  by_cases c0 : p = 0
  · cases b with
    | true => rw [if_pos (by omega), if_pos (by simp only [ByteArray.size_append]; omega), if_pos c0, if_pos (by simp only [ByteArray.size_append]; omega), if_pos rfl, if_pos (by omega), if_pos (by simp only [ByteArray.size_append]; omega), if_pos rfl, if_pos c0]
    | false => rw [if_pos (by omega), if_pos (by simp only [ByteArray.size_append]; omega), if_pos c0, if_pos (by simp only [ByteArray.size_append]; omega), if_neg (by simp), if_neg (by simp), if_pos c0]
  · cases b with
    | true =>
      rw [if_pos (by omega), if_pos (by simp only [ByteArray.size_append]; omega), if_neg c0, Option.bind_some, if_pos (by omega), if_pos (by simp only [ByteArray.size_append]; omega), if_pos (by simp only [ByteArray.size_append]; omega), if_pos rfl, if_pos (by omega), if_pos (by simp only [ByteArray.size_append]; omega), if_pos rfl, if_neg c0]
    | false =>
      rw [if_pos (by omega), if_pos (by simp only [ByteArray.size_append]; omega), if_neg c0, Option.bind_some, if_pos (by omega), if_pos (by simp only [ByteArray.size_append]; omega), if_pos (by simp only [ByteArray.size_append]; omega), if_neg (by simp), if_neg (by simp), if_neg c0]
theorem txtV_size (s h : ByteArray) (p : Int) (t q : ByteArray) (b : Bool) (u v : ByteArray) (e : u.size = v.size) : (txtV s h p t q b u).size = (txtV s h p t q b v).size := by
  unfold txtV
  by_cases c0 : p = 0 <;> cases b <;> simp [c0, ByteArray.size_append, e]
theorem Text_both (s h : ByteArray) (p : Int) (t q : ByteArray) (b : Bool) (hs : s.size ≤ 1125899906842624) (hh : h.size ≤ 1125899906842624) (ht : t.size ≤ 1125899906842624) (hq : q.size ≤ 1125899906842624) (p0 : 0 ≤ p) (p1 : p ≤ 65535) :
    ∃ x y : ByteArray, Ev (fun k => spec_l1Text.f k s h p t q b) x ∧ impl_urlText.f s h p t q b = some y ∧ x.size = y.size := by
  obtain ⟨n, rfl⟩ : ∃ n : Nat, p = (n : Int) := ⟨p.toNat, by omega⟩
  obtain ⟨u, ⟨K, hK⟩, zu⟩ := num_size n (by omega)
  have hd := nDigits_le n
  have hi : strconv_Itoa.f (n : Int) = some ⟨(Lib.itoa (n : Int)).toArray⟩ := by unfold strconv_Itoa.f; rw [if_pos ⟨by omega, by omega⟩]
  obtain ⟨v, hv⟩ : ∃ v : ByteArray, v = ⟨(Lib.itoa (n : Int)).toArray⟩ := ⟨_, rfl⟩
  have zv : v.size = Lib.nDigits n := by
    rw [hv]
    show (Lib.itoa (n : Int)).toArray.size = _
    rw [List.size_toArray]
    unfold Lib.itoa
    rw [if_neg (by omega), Int.toNat_natCast, Lib.decDigits_length]
  rw [← hv] at hi
  clear hv
  refine ⟨txtV s h n t q b u, txtV s h n t q b v, ⟨K, fun k hk => ?_⟩, ?_, txtV_size _ _ _ _ _ _ _ _ (by omega)⟩
  · show txt s h n t q b (spec_l1Num.f k n) = _
    rw [show spec_l1Num.f k (n : Int) = some u from hK k hk]
    exact txt_val s h n t q b u hs hh ht hq (by omega)
  · show txt s h n t q b (strconv_Itoa.f n) = _
    rw [hi]
    exact txt_val s h n t q b v hs hh ht hq (by omega)
theorem pre_is (t : ByteArray) : strings_HasPrefix.f t (⟨#[47]⟩ : ByteArray) = some (decide (0 < t.size) && decide (bt t 0 = 47)) := by
  unfold strings_HasPrefix.f Lib.hasPrefix
  congr 1
  rw [← rd_bytesOf, ← data_length]
  unfold bytesOf rd
  cases h : t.data.toList with
  | nil => rfl
  | cons x xs =>
    show ((47 : UInt8) == x && [].isPrefixOf xs) = _
    simp only [List.isPrefixOf, Bool.and_true, List.length_cons, Nat.zero_lt_succ, decide_true, Bool.true_and, List.map_cons, Int.toNat_zero, List.getD_cons_zero]
    by_cases c : x = 47
    · subst c; rfl
    · have h1 : ¬ (x.toNat : Int) = 47 := fun h2 => c (UInt8.toNat_inj.mp (show x.toNat = (47 : UInt8).toNat by rw [show (47 : UInt8).toNat = 47 from rfl]; omega))
      rw [decide_eq_false h1, beq_eq_false_iff_ne]
      exact fun h2 => c h2.symm
def spT (k : Nat) (s h : ByteArray) (p : Int) (t q : ByteArray) (b : Bool) : Option Bool := (spec_l1Host.f k h).bind fun t124 => (if t124 = true then ((spec_l1In.f p 0 65535).bind fun t125 => (if t125 = true then (if (t.size : Int) = 0 then (spec_GoodUrl.j0 k true s h p t q b) else (if 0 < (t.size : Int) then (spec_GoodUrl.j0 k ((bt t 0) != 47) s h p t q b) else (none))) else (spec_GoodUrl.j0 k true s h p t q b))) else (spec_GoodUrl.j0 k true s h p t q b))
def imT (k : Nat) (s h : ByteArray) (p : Int) (t q : ByteArray) (b : Bool) : Option Bool := (impl_within.f (h.size : Int) 1 60).bind fun t155 => (if t155 = true then ((impl_areBytes_80.f h).bind fun t156 => (if t156 = true then ((impl_within.f p 0 65535).bind fun t157 => (if t157 = true then ((strings_HasPrefix.f t (⟨#[47]⟩ : ByteArray)).bind fun t158 => (if t158 = true then ((impl_arePchars.f k t (⟨#[47]⟩ : ByteArray)).bind fun t159 => (if t159 = true then ((impl_arePchars.f k q (⟨#[47, 63]⟩ : ByteArray)).bind fun t160 => (if t160 = true then (if b = true then ((impl_urlText.f s h p t q b).bind fun t161 => (some (decide ((t161.size : Int) ≤ 200)))) else (if q.toList = ([] : List UInt8) then ((impl_urlText.f s h p t q b).bind fun t162 => (some (decide ((t162.size : Int) ≤ 200)))) else (some false))) else (some false))) else (some false))) else (some false))) else (some false))) else (some false))) else (some false))
theorem tail_both (s h : ByteArray) (p : Int) (t q : ByteArray) (b : Bool) (hs : s.size ≤ 1125899906842624) (hh : h.size ≤ 1125899906842624) (ht : t.size ≤ 1125899906842624) (hq : q.size ≤ 1125899906842624) :
    ∃ g, Ev (fun k => spT k s h p t q b) g ∧ Ev (fun k => imT k s h p t q b) g := by
  have noS : Ev (fun k => spec_GoodUrl.j0 k true s h p t q b) false := Ev.step (f := fun _ => some false) (fun k => by simp only [spec_GoodUrl.j0, if_true]) (Ev.now _)
  have hS := host_spec h hh
  have hI := host_impl h hh
  obtain ⟨z, hz⟩ : ∃ z, z = (decide ((1 : Int) ≤ (h.size : Int)) && decide ((h.size : Int) ≤ 60)) := ⟨_, rfl⟩
  obtain ⟨pr, hp⟩ : ∃ z, z = (decide ((0 : Int) ≤ p) && decide (p ≤ 65535)) := ⟨_, rfl⟩
  obtain ⟨pf, hf⟩ : ∃ z, z = (decide (0 < t.size) && decide (bt t 0 = 47)) := ⟨_, rfl⟩
  have hS' : Ev (fun k => spec_l1Host.f k h) ((bytesOf h).all hostB && z) := by rw [hz]; exact hS
  generalize (bytesOf h).all hostB = hb at hS' hI
  unfold spT imT
  simp only [within_is, l1In_is, pre_is, hI, Option.bind_some, ← hz, ← hp, ← hf]
  by_cases cz : z = true
  rotate_left
  · refine ⟨false, Ev.bind hS' ?_, Ev.congr (fun k => by rw [if_neg cz]) (Ev.now _)⟩
    simp only [if_neg (show ¬ (hb && z) = true by simp [cz])]
    exact noS
  simp only [if_pos cz]
  by_cases cb : hb = true
  rotate_left
  · refine ⟨false, Ev.bind hS' ?_, Ev.congr (fun k => by rw [if_neg cb]) (Ev.now _)⟩
    simp only [if_neg (show ¬ (hb && z) = true by simp [cb])]
    exact noS
  simp only [if_pos cb]
  by_cases cp : pr = true
  rotate_left
  · refine ⟨false, Ev.bind hS' ?_, Ev.congr (fun k => by rw [if_neg cp]) (Ev.now _)⟩
    simp only [if_pos (show (hb && z) = true by simp [cb, cz]), if_neg cp]
    exact noS
  simp only [if_pos cp]
  have pp : 0 ≤ p ∧ p ≤ 65535 := by rw [hp] at cp; simpa using cp
  by_cases cf : pf = true
  rotate_left
  · refine ⟨false, Ev.bind hS' ?_, Ev.congr (fun k => by rw [if_neg cf]) (Ev.now _)⟩
    simp only [if_pos (show (hb && z) = true by simp [cb, cz]), if_pos cp]
    by_cases c0 : (t.size : Int) = 0
    · simp only [if_pos c0]; exact noS
    · have hb4 : (bt t 0 != 47) = true := by
        rw [bne_iff_ne]
        intro h4
        exact cf (by rw [hf, decide_eq_true h4, decide_eq_true (by omega)]; rfl)
      simp only [if_neg c0, if_pos (show (0 : Int) < (t.size : Int) by omega), hb4]; exact noS
  simp only [if_pos cf]
  have pt : 0 < t.size ∧ bt t 0 = 47 := by rw [hf] at cf; simpa using cf
  obtain ⟨r1, c1, d1⟩ := Chars_both oth1 t ht
  obtain ⟨r2, c2, d2⟩ := Chars_both oth2 q hq
  obtain ⟨x, y, x1, y1, xy⟩ := Text_both s h p t q b hs hh ht hq pp.1 pp.2
  have up : ∀ g, Ev (fun k => (spec_l1Chars.f k t (⟨#[47]⟩ : ByteArray)).bind fun t128 => (if t128 = true then ((spec_l1Chars.f k q (⟨#[47, 63]⟩ : ByteArray)).bind fun t129 => (if t129 = true then (if b = true then ((spec_l1Text.f k s h p t q b).bind fun t130 => (some (decide ((t130.size : Int) ≤ 200)))) else (if q.toList = ([] : List UInt8) then ((spec_l1Text.f k s h p t q b).bind fun t131 => (some (decide ((t131.size : Int) ≤ 200)))) else (some false))) else (some false))) else (some false))) g →
      Ev (fun k => (spec_l1Host.f k h).bind fun t124 => if t124 = true then (if (t.size : Int) = 0 then (spec_GoodUrl.j0 k true s h p t q b) else (if 0 < (t.size : Int) then (spec_GoodUrl.j0 k ((bt t 0) != 47) s h p t q b) else (none))) else (spec_GoodUrl.j0 k true s h p t q b)) g := by
    intro g hg
    refine Ev.bind hS' ?_
    simp only [if_pos (show (hb && z) = true by simp [cb, cz]), if_neg (show ¬ (t.size : Int) = 0 by omega), if_pos (show (0 : Int) < (t.size : Int) by omega), pt.2]
    exact Ev.step (fun k => by simp only [spec_GoodUrl.j0]; rw [if_neg (by simp)]) hg
  by_cases e1 : r1 = true
  rotate_left
  · exact ⟨false, up _ (Ev.bind c1 (by simp only [if_neg e1]; exact Ev.now _)), Ev.bind d1 (by simp only [if_neg e1]; exact Ev.now _)⟩
  by_cases e2 : r2 = true
  rotate_left
  · exact ⟨false, up _ (Ev.bind c1 (by simp only [if_pos e1]; exact Ev.bind c2 (by simp only [if_neg e2]; exact Ev.now _))), Ev.bind d1 (by simp only [if_pos e1]; exact Ev.bind d2 (by simp only [if_neg e2]; exact Ev.now _))⟩
  have fin : ∃ g, Ev (fun k => if b = true then ((spec_l1Text.f k s h p t q b).bind fun t130 => (some (decide ((t130.size : Int) ≤ 200)))) else (if q.toList = ([] : List UInt8) then ((spec_l1Text.f k s h p t q b).bind fun t131 => (some (decide ((t131.size : Int) ≤ 200)))) else (some false))) g ∧
      Ev (fun k => if b = true then ((impl_urlText.f s h p t q b).bind fun t161 => (some (decide ((t161.size : Int) ≤ 200)))) else (if q.toList = ([] : List UInt8) then ((impl_urlText.f s h p t q b).bind fun t162 => (some (decide ((t162.size : Int) ≤ 200)))) else (some false))) g := by
    rw [y1]
    simp only [Option.bind_some]
    by_cases f1 : b = true
    · simp only [if_pos f1]
      exact ⟨_, Ev.bind x1 (Ev.now _), by rw [xy]; exact Ev.now _⟩
    · simp only [if_neg f1]
      by_cases f2 : q.toList = ([] : List UInt8)
      · simp only [if_pos f2]
        exact ⟨_, Ev.bind x1 (Ev.now _), by rw [xy]; exact Ev.now _⟩
      · simp only [if_neg f2]
        exact ⟨false, Ev.now _, Ev.now _⟩
  obtain ⟨g, g1, g2⟩ := fin
  exact ⟨g, up _ (Ev.bind c1 (by simp only [if_pos e1]; exact Ev.bind c2 (by simp only [if_pos e2]; exact g1))), Ev.bind d1 (by simp only [if_pos e1]; exact Ev.bind d2 (by simp only [if_pos e2]; exact g2))⟩
theorem GoodUrl_both (s h : ByteArray) (p : Int) (t q : ByteArray) (b : Bool) (hs : s.size ≤ 1125899906842624) (hh : h.size ≤ 1125899906842624) (ht : t.size ≤ 1125899906842624) (hq : q.size ≤ 1125899906842624) :
    ∃ g, Ev (fun k => spec_GoodUrl.f k s h p t q b) g ∧ Ev (fun k => impl_GoodUrl.f k s h p t q b) g := by
  have noS : Ev (fun k => spec_GoodUrl.j0 k true s h p t q b) false := Ev.step (f := fun _ => some false) (fun k => by simp only [spec_GoodUrl.j0, if_true]) (Ev.now _)
  obtain ⟨g, g1, g2⟩ := tail_both s h p t q b hs hh ht hq
  unfold spec_GoodUrl.f impl_GoodUrl.f
  by_cases c1 : s.toList = ([104, 116, 116, 112] : List UInt8)
  · simp only [if_pos c1]; exact ⟨g, g1, g2⟩
  · simp only [if_neg c1]
    by_cases c2 : s.toList = ([104, 116, 116, 112, 115] : List UInt8)
    · simp only [if_pos c2]; exact ⟨g, g1, g2⟩
    · simp only [if_neg c2]; exact ⟨false, noS, Ev.now _⟩
def headGo (acc : ByteArray) : List S105 → ByteArray
  | [] => acc ++ (⟨#[13, 10]⟩ : ByteArray)
  | f :: l => headGo (acc ++ lineF f) l
def headX (s : ByteArray) (l : List S105) : ByteArray := headGo (s ++ (⟨#[13, 10]⟩ : ByteArray)) l
theorem head_is (l : List S105) (hl : l.length ≤ 1000) (hs : ∀ f ∈ l, f.f0.size ≤ 100000000 ∧ f.f1.size ≤ 100000000) : ∀ (d j : Nat) (acc : ByteArray), j + d = l.length → acc.size ≤ 2000000000 * (j + 1) →
    Ev (fun k => spec_l4Head.l0 k acc l (l.length : Int) (j : Int)) (headGo acc (l.drop j)) ∧ Ev (fun k => impl_headText.l0 k acc l (l.length : Int) (j : Int)) (headGo acc (l.drop j)) := by
  intro d
  induction d with
  | zero =>
    intro j acc hj ha
    rw [List.drop_of_length_le (by omega)]
    exact ⟨Ev.step (f := fun _ => some (acc ++ (⟨#[13, 10]⟩ : ByteArray))) (fun k => by simp only [spec_l4Head.l0]; rw [if_neg (by omega), if_pos (by omega)]) (Ev.now _), Ev.step (f := fun _ => some (acc ++ (⟨#[13, 10]⟩ : ByteArray))) (fun k => by simp only [impl_headText.l0]; rw [if_neg (by omega), if_pos (by omega)]) (Ev.now _)⟩
  | succ d ih =>
    intro j acc hj ha
    have hlt : j < l.length := by omega
    have w1 : wrap64 ((j : Int) + 1) = ((j + 1 : Nat) : Int) := w2 (Nat.le_of_lt hlt) (by omega) 1 (by omega)
    have hf := hs _ (List.getElem_mem hlt)
    have hz := line_size l[j] hf
    obtain ⟨h1, h2⟩ := ih (j + 1) (acc ++ lineF l[j]) (by omega) (by rw [ByteArray.size_append]; omega)
    have e : (((l[j].f0 ++ (⟨#[58, 32]⟩ : ByteArray)) ++ l[j].f1) ++ (⟨#[13, 10]⟩ : ByteArray)) = lineF l[j] := rfl
    rw [List.drop_eq_getElem_cons hlt]
    refine ⟨Ev.step (fun k => ?_) h1, Ev.step (fun k => ?_) h2⟩
    · simp only [spec_l4Head.l0]
      rw [if_pos (by omega), if_pos (by omega), if_pos (by omega), rd75 l j hlt, if_pos (by omega), if_pos (by omega), if_pos (by omega), e, if_pos (by omega), w1]
    · simp only [impl_headText.l0]
      rw [if_pos (by omega), if_pos (by omega), if_pos (by omega), rd75 l j hlt, if_pos (by omega), if_pos (by omega), if_pos (by omega), e, if_pos (by omega), w1]
theorem headY_is (s : ByteArray) (l : List S105) (hz : s.size ≤ 1000000000) (hl : l.length ≤ 1000) (hs : ∀ f ∈ l, f.f0.size ≤ 100000000 ∧ f.f1.size ≤ 100000000) : Ev (fun k => spec_l4Head.f k s l) (headX s l) ∧ Ev (fun k => impl_headText.f k s l) (headX s l) := by
  obtain ⟨h1, h2⟩ := head_is l hl hs l.length 0 (s ++ (⟨#[13, 10]⟩ : ByteArray)) (by omega) (by rw [ByteArray.size_append, size_lit2]; omega)
  refine ⟨Ev.congr (fun k => ?_) h1, Ev.congr (fun k => ?_) h2⟩
  · unfold spec_l4Head.f
    rw [if_pos (by omega)]
    rfl
  · unfold impl_headText.f
    rw [if_pos (by omega)]
    rfl
def fieldsB (l : List S105) : Bool := l.all (fun f => goodT f.f0 f.f1) && decide ((l.length : Int) ≤ 40)
theorem fieldsS_is (l : List S105) (hl : l.length ≤ 1000000000) (hs : ∀ f ∈ l, f.f0.size ≤ 100000000 ∧ f.f1.size ≤ 100000000) : ∀ (d j : Nat), j + d = l.length → Ev (fun k => spec_l3Fields.l0 k l l (l.length : Int) (j : Int)) ((l.drop j).all (fun f => goodT f.f0 f.f1) && decide ((l.length : Int) ≤ 40)) := by
  intro d
  induction d with
  | zero =>
    intro j hj
    rw [List.drop_of_length_le (by omega)]
    refine Ev.step (f := fun _ => some (decide ((l.length : Int) ≤ 40))) (fun k => ?_) (Ev.congr (fun k => by rw [List.all_nil, Bool.true_and]) (Ev.now _))
    simp only [spec_l3Fields.l0]
    rw [if_neg (by omega)]
  | succ d ih =>
    intro j hj
    have hlt : j < l.length := by omega
    have w1 : wrap64 ((j : Int) + 1) = ((j + 1 : Nat) : Int) := w2 (Nat.le_of_lt hlt) (by omega) 1 (by omega)
    have hf := hs _ (List.getElem_mem hlt)
    have h1 := good_spec l[j].f0 l[j].f1 (by omega) (by omega)
    have hst : ∀ k, spec_l3Fields.l0 (k + 1) l l (l.length : Int) (j : Int) = (spec_GoodField.f k l[j].f0 l[j].f1).bind fun t157 => (if t157 = true then (spec_l3Fields.l0 k l l (l.length : Int) ((j + 1 : Nat) : Int)) else (some false)) := by
      intro k
      simp only [spec_l3Fields.l0]
      rw [if_pos (by omega), if_pos (by omega), if_pos (by omega), rd75 l j hlt, w1]
    rw [List.drop_eq_getElem_cons hlt, List.all_cons]
    refine Ev.step hst (Ev.bind h1 ?_)
    cases goodT l[j].f0 l[j].f1 with
    | true => exact Ev.congr (fun k => by rw [if_pos rfl]) (by simpa using ih (j + 1) (by omega))
    | false => exact Ev.congr (fun k => by rw [if_neg (by simp)]) (Ev.congr (f := fun _ => some false) (fun k => rfl) (by simpa using Ev.now false))
theorem allO_good : ∀ l : List S105, (∀ f ∈ l, f.f0.size ≤ 100000000 ∧ f.f1.size ≤ 100000000) → allO (fun x : S105 => impl_GoodField.f x.f0 x.f1) l = some (l.all (fun f => goodT f.f0 f.f1)) :=
  fun l hs => allO_all' l (fun f hf => good_impl f.f0 f.f1 (by have := hs f hf; omega) (by have := hs f hf; omega))
theorem fields_total (l : List S105) (hl : l.length ≤ 100000000) (hs : ∀ f ∈ l, f.f0.size ≤ 100000000 ∧ f.f1.size ≤ 100000000) : Ev (fun k => spec_l3Fields.f k l) (fieldsB l) ∧ impl_areFields.f l = some (fieldsB l) := by
  constructor
  · have := fieldsS_is l (by omega) hs l.length 0 (by omega)
    rw [List.drop_zero] at this
    exact this
  · unfold impl_areFields.f impl_Field__141.f fieldsB
    by_cases c : (l.length : Int) ≤ 40
    · rw [if_pos c, decide_eq_true c, Bool.and_true, allO_good l hs, Option.bind_some]
    · rw [if_neg c, decide_eq_false c, Bool.and_false]
/-- Whether a body is framed. -/
def framedB (q : Option (Option Nat)) (te : List ByteArray) (b : ByteArray) : Bool := match q with
  | none => false
  | some none => decide (b.size = 0) && decide (te.length = 0)
  | some (some n) => decide (n = b.size) && decide (te.length = 0)
theorem framed_total (l : List S105) (b : ByteArray) (hl : l.length ≤ 100000000) (hs : ∀ f ∈ l, f.f0.size ≤ 100000000 ∧ f.f1.size ≤ 100000000) (hb : b.size ≤ 300) : ∃ r, Ev (fun k => spec_l4Framed.f k l b) r ∧ Ev (fun k => impl_isFramed.f k l b) r ∧ ∃ q, Ev (fun k => impl_lengthOf.f k l) (outI q) ∧ (r = true → (outI q).2.2 = true ∧ (outI q).1 = (b.size : Int) ∧ valT l teB = []) := by
  obtain ⟨q, q1, q2, q3⟩ := len_both l (by omega) hs
  obtain ⟨v1, v2⟩ := vals_both l teB (by omega) (by decide) (fun f hf => by have := (hs f hf).1; omega)
  refine ⟨framedB q (valT l teB) b, Ev.bind q1 ?_, Ev.bind q2 ?_, q, q2, fun hr => ?_⟩
  · have ev : ∀ r, r = decide ((valT l teB).length = 0) → Ev (fun k => (spec_l3Values.f k l teB).bind fun t => some ((t.length : Int) == 0)) r := by
      intro r hr
      refine Ev.bind v1 (Ev.congr (f := fun _ => some r) (fun k => ?_) (Ev.now _))
      rw [hr]
      by_cases c : (valT l teB).length = 0
      · rw [decide_eq_true c, c]; rfl
      · rw [decide_eq_false c, beq_eq_false_iff_ne.mpr (by omega)]
    match q with
    | none =>
      refine Ev.congr (f := fun _ => some false) (fun k => ?_) (Ev.now _)
      show (if outS none = -1 then _ else _) = _
      rw [if_neg (by decide), if_neg (by show ¬ (-2 : Int) = _; omega)]
    | some none =>
      by_cases c : b.size = 0
      · refine Ev.congr (fun k => ?_) (ev _ (show framedB (some none) (valT l teB) b = _ by unfold framedB; simp only [decide_eq_true c, Bool.true_and]))
        show (if outS (some none) = -1 then _ else _) = _
        rw [if_pos (show outS (some none) = -1 from rfl), if_pos (by omega), if_pos (by omega)]
        rfl
      · refine Ev.congr (f := fun _ => some false) (fun k => ?_) (by unfold framedB; simp only [decide_eq_false c, Bool.false_and]; exact Ev.now _)
        show (if outS (some none) = -1 then _ else _) = _
        rw [if_pos (show outS (some none) = -1 from rfl), if_neg (by omega)]
    | some (some n) =>
      by_cases c : n = b.size
      · refine Ev.congr (fun k => ?_) (ev _ (show framedB (some (some n)) (valT l teB) b = _ by unfold framedB; simp only [decide_eq_true c, Bool.true_and]))
        rw [show outS (some (some n)) = (n : Int) from rfl]
        rw [if_neg (by omega), if_pos (by omega), if_pos (by omega)]
        rfl
      · refine Ev.congr (f := fun _ => some false) (fun k => ?_) (by unfold framedB; simp only [decide_eq_false c, Bool.false_and]; exact Ev.now _)
        rw [show outS (some (some n)) = (n : Int) from rfl]
        rw [if_neg (by omega), if_neg (by omega)]
  · match q with
    | none => exact Ev.congr (f := fun _ => some false) (fun k => by rw [if_neg (by simp [outI])]) (Ev.now _)
    | some none =>
      refine Ev.congr (f := fun k => (impl_valuesOf.f k l teB).bind fun t => if (t.length : Int) = 0 then (if (outI (some none)).2.1 = true then (if (outI (some none)).1 = (b.size : Int) then some true else some false) else some (b.toList == ([] : List UInt8))) else some false) (fun k => by rw [if_pos (by rfl)]; rfl) (Ev.bind v2 ?_)
      refine Ev.congr (f := fun _ => some (framedB (some none) (valT l teB) b)) (fun k => ?_) (Ev.now _)
      unfold framedB
      by_cases c : (valT l teB).length = 0
      · rw [if_pos (by omega), if_neg (by simp [outI]), decide_eq_true c, Bool.and_true]
        by_cases d : b.size = 0
        · rw [decide_eq_true d, beq_iff_eq.mpr ((empty_list b).mpr d)]
        · rw [decide_eq_false d, beq_eq_false_iff_ne.mpr (fun e => d ((empty_list b).mp e))]
      · rw [if_neg (by omega), decide_eq_false c, Bool.and_false]
    | some (some n) =>
      refine Ev.congr (f := fun k => (impl_valuesOf.f k l teB).bind fun t => if (t.length : Int) = 0 then (if (outI (some (some n))).2.1 = true then (if (outI (some (some n))).1 = (b.size : Int) then some true else some false) else some (b.toList == ([] : List UInt8))) else some false) (fun k => by rw [if_pos (by rfl)]; rfl) (Ev.bind v2 ?_)
      refine Ev.congr (f := fun _ => some (framedB (some (some n)) (valT l teB) b)) (fun k => ?_) (Ev.now _)
      rw [show framedB (some (some n)) (valT l teB) b = (decide (n = b.size) && decide ((valT l teB).length = 0)) from rfl]
      by_cases c : (valT l teB).length = 0
      · rw [if_pos (by omega), if_pos (by rfl), decide_eq_true c, Bool.and_true]
        by_cases d : n = b.size
        · rw [decide_eq_true d, if_pos (show (outI (some (some n))).1 = (b.size : Int) by show ((n : Nat) : Int) = _; omega)]
        · rw [decide_eq_false d, if_neg (show ¬ (outI (some (some n))).1 = (b.size : Int) by show ¬ ((n : Nat) : Int) = _; omega)]
      · rw [if_neg (by omega), decide_eq_false c, Bool.and_false]
  · match q, hr with
    | none, hr => cases hr
    | some none, hr =>
      unfold framedB at hr
      simp only [Bool.and_eq_true] at hr
      have h1 := of_decide_eq_true hr.1
      exact ⟨rfl, by show (0 : Int) = _; omega, List.eq_nil_of_length_eq_zero (of_decide_eq_true hr.2)⟩
    | some (some n), hr =>
      unfold framedB at hr
      simp only [Bool.and_eq_true] at hr
      have h1 := of_decide_eq_true hr.1
      exact ⟨rfl, by show ((n : Nat) : Int) = _; omega, List.eq_nil_of_length_eq_zero (of_decide_eq_true hr.2)⟩
theorem framed_any (l : List S105) (b : ByteArray) (hl : l.length ≤ 100000000) (hs : ∀ f ∈ l, f.f0.size ≤ 100000000 ∧ f.f1.size ≤ 100000000) : ∃ r, Ev (fun k => spec_l4Framed.f k l b) r ∧ (b.size ≤ 300 → Ev (fun k => impl_isFramed.f k l b) r) ∧ (300 < b.size → r = false) := by
  by_cases hb : b.size ≤ 300
  · obtain ⟨r, h1, h2, _⟩ := framed_total l b hl hs hb
    exact ⟨r, h1, fun _ => h2, fun h => by omega⟩
  · obtain ⟨q, q1, q2, q3⟩ := len_both l (by omega) hs
    refine ⟨false, Ev.bind q1 (Ev.congr (f := fun _ => some false) (fun k => ?_) (Ev.now _)), fun h => absurd h hb, fun _ => rfl⟩
    by_cases c : outS q = -1
    · rw [if_pos c, if_neg (by omega)]
    · rw [if_neg c, if_neg (show ¬ (b.size : Int) ≤ 300 by omega)]
      split <;> rfl
def firstN (n : Nat) (t : ByteArray) : ByteArray := (((⟨#[72, 84, 84, 80, 47, 49, 46, 49, 32]⟩ : ByteArray) ++ (⟨(Lib.decDigits n).toArray⟩ : ByteArray)) ++ (⟨#[32]⟩ : ByteArray)) ++ t
theorem size_dec3 (n : Nat) (h1 : 100 ≤ n) (h2 : n < 1000) : (⟨(Lib.decDigits n).toArray⟩ : ByteArray).size = 3 := (dec3_good n h1 h2).1
theorem status_is (n : Nat) (t b : ByteArray) (l : List S105) (h1 : 100 ≤ n) (h2 : n < 1000) (ht : t.size ≤ 100000000) :
    Ev (fun k => spec_l4Status.f k (n : Int) t l b) (firstN n t) ∧ impl_responseLine.f (n : Int) t l b = some (firstN n t) ∧ (firstN n t).size ≤ t.size + 13 := by
  have h3 := size_dec3 n h1 h2
  have z1 : ((⟨#[72, 84, 84, 80, 47, 49, 46, 49, 32]⟩ : ByteArray) ++ (⟨(Lib.decDigits n).toArray⟩ : ByteArray)).size = 12 := by rw [ByteArray.size_append, h3]; rfl
  have z2 : (((⟨#[72, 84, 84, 80, 47, 49, 46, 49, 32]⟩ : ByteArray) ++ (⟨(Lib.decDigits n).toArray⟩ : ByteArray)) ++ (⟨#[32]⟩ : ByteArray)).size = 13 := by rw [ByteArray.size_append, z1]; rfl
  have z3 : (firstN n t).size = 13 + t.size := by unfold firstN; rw [ByteArray.size_append, z2]
  refine ⟨Ev.bind (num_is n (by omega)) (Ev.congr (f := fun _ => some (firstN n t)) (fun k => ?_) (Ev.now _)), ?_, by omega⟩
  · rw [if_pos (by omega), if_pos (by omega), if_pos (by omega)]
    rfl
  · unfold impl_responseLine.f strconv_Itoa.f
    rw [if_pos (by omega), Option.bind_some, itoa_nat]
    rw [if_pos (by omega), if_pos (by omega), if_pos (by omega)]
    rfl
theorem respline_any (n : Int) (t b : ByteArray) (l : List S105) (ht : t.size ≤ 1125899906842624) : impl_isResponseLine.f n t l b = some ((decide (100 ≤ n) && decide (n ≤ 599)) && (decide ((t.size : Int) ≤ 40) && prT t)) := by
  unfold impl_isResponseLine.f
  rw [within_is, Option.bind_some]
  cases (decide (100 ≤ n) && decide (n ≤ 599)) with
  | false => rw [if_neg (by simp)]; rfl
  | true => rw [if_pos rfl, pr_impl t 40 ht, Option.bind_some]; rfl
/-- Good fields are few and short. -/
theorem fieldsB_small {l : List S105} (h : fieldsB l = true) : l.length ≤ 40 ∧ ∀ f ∈ l, f.f0.size ≤ 60 ∧ f.f1.size ≤ 300 := by
  unfold fieldsB at h
  rw [Bool.and_eq_true, List.all_eq_true] at h
  refine ⟨by have := of_decide_eq_true h.2; omega, fun f hf => ?_⟩
  have h1 := h.1 f hf
  unfold goodT tokT at h1
  simp only [Bool.and_eq_true, decide_eq_true_eq] at h1
  omega
/-- Both say the same of a response. -/
theorem resp_both (n : Int) (t b : ByteArray) (l : List S105) (ht : t.size ≤ 100000000) (hb : b.size ≤ 100000000) (hl : l.length ≤ 100000000) (hs : ∀ f ∈ l, f.f0.size ≤ 100000000 ∧ f.f1.size ≤ 100000000) :
    ∃ r, Ev (fun k => spec_GoodResponse.f k n t l b) r ∧ Ev (fun k => impl_GoodResponse.f k n t l b) r ∧ (r = true → fieldsB l = true) := by
  obtain ⟨fr, f1, f2, hfr⟩ := framed_any l b hl hs
  obtain ⟨a1, a2⟩ := fields_total l hl hs
  obtain ⟨s1, es1⟩ : ∃ s, s = (decide (100 ≤ n) && decide (n ≤ 599)) := ⟨_, rfl⟩
  have hreas := reason_spec t (by omega)
  have hline := respline_any n t b l (by omega)
  rw [← es1] at hline
  by_cases c1 : s1 = true
  rotate_left
  · replace c1 := Bool.eq_false_iff.mpr c1
    subst c1
    refine ⟨false, ?_, ?_, fun h => by cases h⟩
    · refine Ev.congr (f := fun _ => some false) (fun k => ?_) (Ev.now _)
      unfold spec_GoodResponse.f
      rw [l1In_is, Option.bind_some, ← es1]; rfl
    · refine Ev.congr (f := fun _ => some false) (fun k => ?_) (Ev.now _)
      unfold impl_GoodResponse.f
      rw [hline, Option.bind_some]; rfl
  subst c1
  have hn : 100 ≤ n ∧ n ≤ 599 := by simpa using es1.symm
  obtain ⟨m, rfl⟩ : ∃ m : Nat, n = (m : Int) := ⟨n.toNat, by omega⟩
  obtain ⟨p1, ep1⟩ : ∃ p, p = (prT t && decide ((t.size : Int) ≤ 40)) := ⟨_, rfl⟩
  have ep2 : (decide ((t.size : Int) ≤ 40) && prT t) = p1 := by rw [ep1, Bool.and_comm]
  rw [← ep1] at hreas
  rw [ep2, Bool.true_and] at hline
  by_cases c2 : p1 = true
  rotate_left
  · replace c2 := Bool.eq_false_iff.mpr c2
    subst c2
    refine ⟨false, ?_, ?_, fun h => by cases h⟩
    · unfold spec_GoodResponse.f
      simp only [l1In_is, Option.bind_some, ← es1, if_true]
      exact Ev.bind hreas (Ev.congr (f := fun _ => some false) (fun k => rfl) (Ev.now _))
    · refine Ev.congr (f := fun _ => some false) (fun k => ?_) (Ev.now _)
      unfold impl_GoodResponse.f
      rw [hline, Option.bind_some]; rfl
  subst c2
  have htz : t.size ≤ 40 := by rw [eq_comm, Bool.and_eq_true] at ep1; have := of_decide_eq_true ep1.2; omega
  obtain ⟨g1, g2, g3⟩ := status_is m t b l (by omega) (by omega) ht
  by_cases c3 : fieldsB l = true
  rotate_left
  · replace c3 := Bool.eq_false_iff.mpr c3
    rw [c3] at a1 a2
    refine ⟨false, ?_, ?_, fun h => by cases h⟩
    · unfold spec_GoodResponse.f
      simp only [l1In_is, Option.bind_some, ← es1, if_true]
      refine Ev.bind hreas ?_
      simp only [if_true]
      exact Ev.bind a1 (Ev.congr (f := fun _ => some false) (fun k => rfl) (Ev.now _))
    · refine Ev.congr (f := fun _ => some false) (fun k => ?_) (Ev.now _)
      unfold impl_GoodResponse.f impl_isMessage.f
      rw [hline, Option.bind_some, if_pos rfl, g2, Option.bind_some, a2, Option.bind_some]; rfl
  rw [c3] at a1 a2
  obtain ⟨x1, x2⟩ := headY_is (firstN m t) l (by omega) (by have := (fieldsB_small c3).1; omega) hs
  refine ⟨fr && decide (((headX (firstN m t) l).size : Int) ≤ 2000), ?_, ?_, fun _ => c3⟩
  · unfold spec_GoodResponse.f
    simp only [l1In_is, Option.bind_some, ← es1, if_true]
    refine Ev.bind hreas ?_
    simp only [if_true]
    refine Ev.bind a1 ?_
    simp only [if_true]
    refine Ev.bind f1 ?_
    cases fr with
    | false => exact Ev.congr (f := fun _ => some false) (fun k => rfl) (Ev.now _)
    | true =>
      simp only [if_true, Bool.true_and]
      exact Ev.bind g1 (Ev.bind x1 (Ev.now _))
  · unfold impl_GoodResponse.f impl_isMessage.f
    simp only [hline, Option.bind_some, if_true, g2, a2]
    refine Ev.bind (r := fr && decide (((headX (firstN m t) l).size : Int) ≤ 2000)) ?_ (Ev.now _)
    by_cases c4 : (b.size : Int) ≤ 300
    rotate_left
    · simp only [if_neg c4]
      rw [hfr (by omega), Bool.false_and]
      exact Ev.now _
    simp only [if_pos c4]
    refine Ev.bind x2 ?_
    by_cases c5 : ((headX (firstN m t) l).size : Int) ≤ 2000
    · simp only [if_pos c5, decide_eq_true c5, Bool.and_true]
      exact Ev.bind (f2 (by omega)) (Ev.now _)
    · simp only [if_neg c5, decide_eq_false c5, Bool.and_false]
      exact Ev.now _
theorem ba_eq {a b : ByteArray} (h : a.toList = b.toList) : a = b := by
  rw [ByteArray.toList_eq, ByteArray.toList_eq] at h
  exact ba_ext h
def fsz (l : List S105) : Nat := l.length + (l.map (fun f => f.f0.size + f.f1.size)).sum
theorem fsz_cons (f : S105) (l : List S105) : fsz (f :: l) = fsz l + (f.f0.size + f.f1.size + 1) := by
  unfold fsz
  rw [List.length_cons, List.map_cons, List.sum_cons]; omega
theorem fsz_mem {l : List S105} {f : S105} (h : f ∈ l) : f.f0.size + f.f1.size + 1 ≤ fsz l := by
  induction l with
  | nil => cases h
  | cons x l ih =>
    rw [fsz_cons]
    rcases List.mem_cons.1 h with rfl | h
    · omega
    · have := ih h; omega
def vsz (l : List ByteArray) : Nat := (l.map (fun v => v.size + 2)).sum
theorem vsz_take (l : List ByteArray) (j : Nat) : vsz (l.take j) ≤ vsz l := by
  conv => rhs; rw [← List.take_append_drop j l]
  unfold vsz
  rw [List.map_append, List.sum_append]; omega
theorem valT_vsz (l : List S105) (t : ByteArray) : vsz (valT l t) ≤ 2 * fsz l := by
  unfold valT
  induction l with
  | nil => simp [vsz, fsz]
  | cons f l ih =>
    rw [fsz_cons, List.filter_cons]
    split
    · rw [List.map_cons]
      unfold vsz at ih ⊢
      rw [List.map_cons, List.sum_cons]; omega
    · omega
def sep2 : ByteArray := ⟨#[44, 32]⟩
theorem mk_data (a : ByteArray) : (⟨a.data.toList.toArray⟩ : ByteArray) = a := by cases a; rfl
theorem joinT_one (v : ByteArray) : joinT [v] sep2 = v := by
  unfold joinT
  rw [List.map_cons, List.map_nil, Lib.join_one]
theorem joinT_snoc (x : ByteArray) (r : List ByteArray) (k : Nat) (y : ByteArray) (h : r[k]? = some y) : joinT (x :: r.take (k + 1)) sep2 = (joinT (x :: r.take k) sep2 ++ sep2) ++ y := by
  apply ba_ext
  simp only [joinT, ByteArray.data_append, Array.toList_append]
  rw [List.map_cons, List.map_cons, Lib.join_cons, Lib.join_cons, List.map_take, List.map_take, Lib.joinTail_take_succ sep2.data.toList (r.map (·.data.toList)) k y.data.toList (by simp [h])]
  simp [List.append_assoc]
theorem joinT_size (l : List ByteArray) : (joinT l sep2).size ≤ vsz l := by
  cases l with
  | nil => show 0 ≤ _; exact Nat.zero_le _
  | cons x r =>
    have go : ∀ k, k ≤ r.length → (joinT (x :: r.take k) sep2).size ≤ vsz (x :: r.take k) := by
      intro k
      induction k with
      | zero => intro _; rw [List.take_zero, joinT_one]; unfold vsz; simp
      | succ k ih =>
        intro hk
        have hy : r[k]? = some r[k] := List.getElem?_eq_getElem (by omega)
        have h1 := ih (by omega)
        rw [joinT_snoc x r k r[k] hy, List.take_add_one, hy]
        have e : vsz (x :: (r.take k ++ (some r[k]).toList)) = vsz (x :: r.take k) + (r[k].size + 2) := by
          unfold vsz
          rw [← List.cons_append, List.map_append, List.sum_append]
          rfl
        rw [e, ByteArray.size_append, ByteArray.size_append, show sep2.size = 2 from rfl]; omega
    have := go r.length (Nat.le_refl _)
    rwa [List.take_length] at this
theorem joined_loop (v : List ByteArray) (hz : vsz v ≤ 1000000000) (hl : v.length ≤ 1000000000) : ∀ (d j : Nat), j + d = v.length → Ev (fun k => spec_l3Joined.l0 k (joinT (v.take j) sep2) v v (v.length : Int) (j : Int)) (joinT v sep2, decide ((v.length : Int) > 0)) := by
  intro d
  induction d with
  | zero =>
    intro j hj
    rw [List.take_of_length_le (by omega)]
    refine Ev.step (f := fun _ => some (joinT v sep2, decide ((v.length : Int) > 0))) (fun k => ?_) (Ev.now _)
    simp only [spec_l3Joined.l0]
    rw [if_neg (by omega)]
  | succ d ih =>
    intro j hj
    have hlt : j < v.length := by omega
    have w1 : wrap64 ((j : Int) + 1) = ((j + 1 : Nat) : Int) := w2 (Nat.le_of_lt hlt) (by omega) 1 (by omega)
    have hr : rdOf ByteArray.empty v (j : Int) = v[j] := getD_at hlt _
    have hs1 := joinT_size (v.take (j + 1))
    have hs2 := vsz_take v (j + 1)
    refine Ev.step (fun k => ?_) (ih (j + 1) (by omega))
    simp only [spec_l3Joined.l0]
    rw [if_pos (by omega), if_pos (by omega), if_pos (by omega), hr, w1]
    cases j with
    | zero =>
      rw [if_neg (by simp)]
      have e : (joinT (v.take 0) sep2) ++ v[0] = joinT (v.take (0 + 1)) sep2 := by
        rw [List.take_add_one, List.take_zero, List.getElem?_eq_getElem hlt]
        show (⟨#[]⟩ : ByteArray) ++ v[0] = joinT [v[0]] sep2
        rw [joinT_one]
        exact ba_ext (by simp [ByteArray.data_append])
      have e2 : (joinT (v.take 0) sep2).size + v[0].size = (joinT (v.take (0 + 1)) sep2).size := by rw [← e, ByteArray.size_append]
      rw [if_pos (by omega), e]
    | succ i =>
      rw [if_pos (by omega)]
      obtain ⟨x, r, rfl⟩ : ∃ x r, v = x :: r := by
        cases v with
        | nil => simp at hlt
        | cons x r => exact ⟨x, r, rfl⟩
      have hi : r[i]? = some ((x :: r)[i + 1]) := by
        rw [List.getElem_cons_succ]
        exact List.getElem?_eq_getElem _
      have e : joinT ((x :: r).take (i + 1 + 1)) sep2 = (joinT ((x :: r).take (i + 1)) sep2 ++ sep2) ++ (x :: r)[i + 1] := joinT_snoc x r i _ hi
      rw [e, ByteArray.size_append, ByteArray.size_append, show sep2.size = 2 from rfl] at hs1
      have h4 : (joinT ((x :: r).take (i + 1)) sep2 ++ (⟨#[44, 32]⟩ : ByteArray)).size = (joinT ((x :: r).take (i + 1)) sep2).size + 2 := by rw [ByteArray.size_append]; rfl
      rw [if_pos (by omega), if_pos (by omega), e]
      rfl
theorem vary_val (l : List S105) (h : fsz l ≤ 1048576) (t : ByteArray) (ht : t.size ≤ 1000) :
    Ev (fun k => spec_l3Joined.f k l t) (joinT (valT l t) sep2, decide (((valT l t).length : Int) > 0)) ∧ strings_Join.f (valT l t) sep2 = some (joinT (valT l t) sep2) ∧ (joinT (valT l t) sep2).size ≤ 2097152 := by
  have h1 := valT_vsz l t
  have h2 := joinT_size (valT l t)
  have h3 := valT_len l t
  have h4 : l.length ≤ fsz l := by unfold fsz; omega
  obtain ⟨v1, _⟩ := vals_both l t (by omega) (by omega) (fun f hf => by have := fsz_mem hf; omega)
  refine ⟨Ev.bind v1 ?_, ?_, by omega⟩
  · exact joined_loop (valT l t) (by omega) (by omega) (valT l t).length 0 (by omega)
  · unfold strings_Join.f
    rw [if_pos ⟨by omega, by omega⟩]
def isStar (p : ByteArray) : Bool := p.toList == ([42] : List UInt8)
theorem star_tok (p : ByteArray) (h : isStar p = true) : tokT p = true := by
  have e : p = ⟨#[42]⟩ := ba_eq (by rw [beq_iff_eq.mp h, ByteArray.toList_eq])
  subst e
  decide +kernel
theorem ins_put (out : List ByteArray) (p : ByteArray) (j : Nat) : ∀ x, x ∈ (out.take j ++ [p]) ++ out.drop j ↔ x ∈ out ∨ x = p := by
  intro x
  conv => rhs; rw [← List.take_append_drop j out]
  simp only [List.mem_append, List.mem_singleton]
  constructor
  · rintro ((h | h) | h)
    · exact .inl (.inl h)
    · exact .inr h
    · exact .inl (.inr h)
  · rintro ((h | h) | h)
    · exact .inl (.inl h)
    · exact .inr h
    · exact .inl (.inr h)
theorem ins_step (st : Bool) (out parts : List ByteArray) (p : ByteArray) (n i : Int) (ho : out.length ≤ 1000000000) : ∀ (d j : Nat), j + d = out.length → ∃ out', (∀ x, x ∈ out' ↔ x ∈ out ∨ x = p) ∧ out'.length ≤ out.length + 1 ∧
    ∀ R, Ev (fun k => spec_l9Vary.l0 k st out' parts n (wrap64 (i + 1))) R → Ev (fun k => spec_l9Vary.l1 k st out p (j : Int) parts n i) R := by
  intro d
  induction d with
  | zero =>
    intro j hj
    refine ⟨(out.take j ++ [p]) ++ out.drop j, ins_put out p j, by simp; omega, fun R h => Ev.step (fun k => ?_) h⟩
    simp only [spec_l9Vary.l1]
    rw [if_neg (by omega), if_pos (by omega), if_pos (by omega)]
    simp only [Option.bind_some, Int.toNat_natCast, List.nil_append, List.length_nil, List.length_append, List.length_take, List.length_singleton, List.length_drop]
    rw [if_pos (by omega), if_pos (by omega), if_pos (by omega)]
  | succ d ih =>
    intro j hj
    have hlt : j < out.length := by omega
    have hr : rdOf ByteArray.empty out (j : Int) = out[j] := getD_at hlt _
    by_cases c1 : Op.bytesLess (out[j].toList) p.toList = true
    · obtain ⟨o', h1, h2, h3⟩ := ih (j + 1) (by omega)
      refine ⟨o', h1, h2, fun R h => Ev.step (fun k => ?_) (h3 R h)⟩
      simp only [spec_l9Vary.l1]
      rw [if_pos (by omega), if_pos (by omega), hr, if_pos c1, show wrap64 ((j : Int) + 1) = ((j + 1 : Nat) : Int) from by unfold wrap64; omega]
    · by_cases c2 : out[j].toList = p.toList
      · refine ⟨out, fun x => ⟨fun hx => .inl hx, fun hx => hx.elim id (fun e => ?_)⟩, by omega, fun R h => Ev.step (fun k => ?_) h⟩
        · rw [e, ← ba_eq c2]; exact List.getElem_mem hlt
        · simp only [spec_l9Vary.l1]
          rw [if_pos (by omega), if_pos (by omega), hr, if_neg c1, if_pos c2]
      · refine ⟨(out.take j ++ [p]) ++ out.drop j, ins_put out p j, by simp; omega, fun R h => Ev.step (fun k => ?_) h⟩
        simp only [spec_l9Vary.l1]
        rw [if_pos (by omega), if_pos (by omega), hr, if_neg c1, if_neg c2, if_pos (by omega)]
        simp only [Option.bind_some, Int.toNat_natCast, List.nil_append, List.length_nil, List.length_append, List.length_take, List.length_singleton, List.length_drop]
        rw [if_pos (by omega), if_pos (by omega), if_pos (by omega)]
def namesIn (parts : List ByteArray) (x : ByteArray) : Prop := ∃ p ∈ parts, isStar p = false ∧ x = lowT p
theorem varyS_loop (parts : List ByteArray) (hl : parts.length ≤ 100000000) (hx : ∀ x ∈ parts, x.size ≤ 100000000) : ∀ (d j : Nat) (st : Bool) (out : List ByteArray), j + d = parts.length → out.length ≤ j →
    ∃ R : List ByteArray × Bool × Bool, Ev (fun k => spec_l9Vary.l0 k st out parts (parts.length : Int) (j : Int)) R ∧ R.2.2 = (parts.drop j).all tokT ∧ (R.2.2 = true → R.2.1 = (st || (parts.drop j).any isStar) ∧ ∀ x, x ∈ R.1 ↔ x ∈ out ∨ namesIn (parts.drop j) x) := by
  intro d
  induction d with
  | zero =>
    intro j st out hj ho
    rw [List.drop_of_length_le (by omega)]
    refine ⟨(out, st, true), Ev.step (f := fun _ => some (out, st, true)) (fun k => ?_) (Ev.now _), rfl, fun _ => ⟨by simp, fun x => ⟨fun h => .inl h, fun h => h.elim id (fun ⟨p, hp, _⟩ => by cases hp)⟩⟩⟩
    simp only [spec_l9Vary.l0]
    rw [if_neg (by omega)]
  | succ d ih =>
    intro j st out hj ho
    have hlt : j < parts.length := by omega
    have hr : rdOf ByteArray.empty parts (j : Int) = parts[j] := getD_at hlt _
    have w1 : wrap64 ((j : Int) + 1) = ((j + 1 : Nat) : Int) := by unfold wrap64; omega
    have hsz := hx _ (List.getElem_mem hlt)
    rw [List.drop_eq_getElem_cons hlt]
    by_cases c1 : isStar parts[j] = true
    · obtain ⟨R, h1, h2, h3⟩ := ih (j + 1) true out (by omega) (by omega)
      refine ⟨R, Ev.step (fun k => ?_) h1, by rw [h2, List.all_cons, star_tok _ c1, Bool.true_and], fun hR => ⟨by rw [(h3 hR).1, List.any_cons, c1]; simp, fun x => ?_⟩⟩
      · simp only [spec_l9Vary.l0]
        rw [if_pos (by omega), if_pos (by omega), if_pos (by omega), hr, if_pos (beq_iff_eq.mp c1), w1]
      · rw [(h3 hR).2 x]
        refine or_congr_right ⟨fun ⟨p, hp, h⟩ => ⟨p, List.mem_cons_of_mem _ hp, h⟩, fun ⟨p, hp, h, e⟩ => ?_⟩
        rcases List.mem_cons.1 hp with rfl | hp
        · rw [c1] at h; cases h
        · exact ⟨p, hp, h, e⟩
    · have c1' : isStar parts[j] = false := Bool.eq_false_iff.mpr c1
      have hne : ¬ parts[j].toList = ([42] : List UInt8) := fun e => c1 (beq_iff_eq.mpr e)
      have htok := tok_spec parts[j] (by omega)
      by_cases c2 : tokT parts[j] = true
      · rw [c2] at htok
        obtain ⟨o', m1, m2, m3⟩ := ins_step st out parts (lowT parts[j]) (parts.length : Int) (j : Int) (by omega) out.length 0 (by omega)
        obtain ⟨R, h1, h2, h3⟩ := ih (j + 1) st o' (by omega) (by omega)
        refine ⟨R, Ev.step (f := fun k => (spec_l3Token.f k parts[j]).bind fun t => if t = true then (spec_l1Lower.f parts[j]).bind fun q => spec_l9Vary.l1 k st out q 0 parts (parts.length : Int) (j : Int) else some (([] : List ByteArray), false, false)) (fun k => ?_) (Ev.bind htok ?_), by rw [h2, List.all_cons, c2, Bool.true_and], fun hR => ⟨by rw [(h3 hR).1, List.any_cons, c1', Bool.false_or], fun x => ?_⟩⟩
        · simp only [spec_l9Vary.l0]
          rw [if_pos (by omega), if_pos (by omega), if_pos (by omega), hr, if_neg hne]
        · simp only [if_true, low_spec parts[j] (by omega), Option.bind_some]
          exact m3 R (by rw [w1]; exact h1)
        · rw [(h3 hR).2 x, m1 x, or_assoc]
          refine or_congr_right ⟨fun h => h.elim (fun e => ⟨_, List.mem_cons_self .., c1', e⟩) (fun ⟨p, hp, h⟩ => ⟨p, List.mem_cons_of_mem _ hp, h⟩), fun ⟨p, hp, h, e⟩ => ?_⟩
          rcases List.mem_cons.1 hp with rfl | hp
          · exact .inl e
          · exact .inr ⟨p, hp, h, e⟩
      · have c2' : tokT parts[j] = false := Bool.eq_false_iff.mpr c2
        rw [c2'] at htok
        refine ⟨(([] : List ByteArray), false, false), Ev.step (f := fun k => (spec_l3Token.f k parts[j]).bind fun t => if t = true then (spec_l1Lower.f parts[j]).bind fun q => spec_l9Vary.l1 k st out q 0 parts (parts.length : Int) (j : Int) else some (([] : List ByteArray), false, false)) (fun k => ?_) (Ev.bind htok (Ev.congr (f := fun _ => some (([] : List ByteArray), false, false)) (fun k => rfl) (Ev.now _))), by rw [List.all_cons, c2', Bool.false_and], fun h => by cases h⟩
        simp only [spec_l9Vary.l0]
        rw [if_pos (by omega), if_pos (by omega), if_pos (by omega), hr, if_neg hne]
theorem varyI_loop (parts : List ByteArray) (hl : parts.length ≤ 100000000) (hx : ∀ x ∈ parts, x.size ≤ 100000000) : ∀ (d j : Nat) (st : Bool) (out : List ByteArray), j + d = parts.length → out.length ≤ j →
    Ev (fun k => impl_vary.l0 k out st parts (parts.length : Int) (j : Int)) (uniqT (out ++ ((parts.drop j).filter (fun p => !isStar p)).map lowT), st || (parts.drop j).any isStar, true) := by
  intro d
  induction d with
  | zero =>
    intro j st out hj ho
    rw [List.drop_of_length_le (by omega)]
    refine Ev.step (f := fun _ => some (uniqT out, st, true)) (fun k => ?_) (by simpa using Ev.now (uniqT out, st, true))
    simp only [impl_vary.l0]
    rw [if_neg (by omega), if_pos (by omega)]
  | succ d ih =>
    intro j st out hj ho
    have hlt : j < parts.length := by omega
    have hr : rdOf ByteArray.empty parts (j : Int) = parts[j] := getD_at hlt _
    have w1 : wrap64 ((j : Int) + 1) = ((j + 1 : Nat) : Int) := by unfold wrap64; omega
    have hsz := hx _ (List.getElem_mem hlt)
    rw [List.drop_eq_getElem_cons hlt]
    by_cases c1 : isStar parts[j] = true
    · have := ih (j + 1) true out (by omega) (by omega)
      rw [List.filter_cons, if_neg (by simp [c1]), List.any_cons, c1, Bool.true_or, Bool.or_true]
      rw [Bool.true_or] at this
      refine Ev.step (fun k => ?_) this
      simp only [impl_vary.l0]
      rw [if_pos (by omega), if_pos (by omega), if_pos (by omega), hr, if_pos (beq_iff_eq.mp c1), w1]
    · have c1' : isStar parts[j] = false := Bool.eq_false_iff.mpr c1
      have hne : ¬ parts[j].toList = ([42] : List UInt8) := fun e => c1 (beq_iff_eq.mpr e)
      have := ih (j + 1) st (out ++ [lowT parts[j]]) (by omega) (by simp; omega)
      rw [List.filter_cons, if_pos (by simp [c1']), List.any_cons, c1', Bool.false_or, List.map_cons]
      rw [List.append_assoc] at this
      refine Ev.step (fun k => ?_) this
      simp only [impl_vary.l0]
      rw [if_pos (by omega), if_pos (by omega), if_pos (by omega), hr, if_neg hne, low_impl parts[j] (by omega), Option.bind_some, if_pos (by omega), w1]
theorem compactUpTo_mem {α : Type} [Inhabited α] [DecidableEq α] (d : Array α) (x : α) : ∀ m, x ∈ Lib.compactUpTo d m ↔ ∃ j, j < m ∧ d[j]! = x
  | 0 => by simp [Lib.compactUpTo]
  | m + 1 => by
    rw [Lib.compactUpTo_succ, List.mem_append, compactUpTo_mem d x m]
    constructor
    · rintro (⟨j, hj, e⟩ | h)
      · exact ⟨j, by omega, e⟩
      · split at h
        · exact ⟨m, by omega, (List.mem_singleton.1 h).symm⟩
        · cases h
    · rintro ⟨j, hj, e⟩
      rcases Nat.lt_or_ge j m with h | h
      · exact .inl ⟨j, h, e⟩
      · obtain rfl : j = m := by omega
        by_cases c : Lib.keeps d j = true
        · exact .inr (by rw [if_pos c]; exact List.mem_singleton.2 e.symm)
        · have hj0 : 0 < j := by
            rcases Nat.eq_zero_or_pos j with h0 | h0
            · subst h0; exact absurd (Lib.keeps_lt_one d 0 (by omega)) c
            · exact h0
          have e2 : d[j]! = d[j - 1]! := by
            by_cases c2 : d[j]! = d[j - 1]!
            · exact c2
            · exact absurd (Lib.keeps_pos c2) c
          exact .inl ⟨j - 1, by omega, by rw [← e2]; exact e⟩
theorem compact_mem {α : Type} [Inhabited α] [DecidableEq α] (zs : List α) (x : α) : x ∈ Lib.compact zs ↔ x ∈ zs := by
  unfold Lib.compact
  rw [compactUpTo_mem]
  constructor
  · rintro ⟨j, hj, e⟩
    rw [← e, getElem!_pos zs.toArray j (by simpa using hj)]
    simp
  · intro h
    obtain ⟨j, hj, e⟩ := List.getElem_of_mem h
    exact ⟨j, hj, by rw [getElem!_pos zs.toArray j (by simpa using hj)]; simpa using e⟩
theorem uniqT_mem (xs : List ByteArray) (x : ByteArray) : x ∈ uniqT xs ↔ x ∈ xs := by
  unfold uniqT sortT
  rw [List.mem_map]
  constructor
  · rintro ⟨y, hy, rfl⟩
    rw [compact_mem, List.mem_mergeSort, List.mem_map] at hy
    obtain ⟨z, hz, rfl⟩ := hy
    rw [mk_data]; exact hz
  · intro h
    exact ⟨x.data.toList, by rw [compact_mem, List.mem_mergeSort, List.mem_map]; exact ⟨x, h, rfl⟩, mk_data x⟩
theorem allO_tok (l : List ByteArray) (hx : ∀ x ∈ l, x.size ≤ 100000000) : impl_areAll_string__144.f l = some (l.all tokT) :=
  allO_all' l (fun x hx' => tok_impl x (by have := hx x hx'; omega))
/-- What both tell of the names that an answer depends on. -/
theorem vary_both (n : Int) (t b : ByteArray) (l : List S105) (h : fsz l ≤ 1048576) : ∃ R1 R2 : List ByteArray × Bool × Bool, Ev (fun k => spec_l9Vary.f k n t l b) R1 ∧ Ev (fun k => impl_vary.f k n t l b) R2 ∧ R1.2.2 = R2.2.2 ∧
    (R1.2.2 = true → R1.2.1 = R2.2.1 ∧ ∀ x, x ∈ R1.1 ↔ x ∈ R2.1) := by
  obtain ⟨j1, j2, j3⟩ := vary_val l h (⟨#[118, 97, 114, 121]⟩ : ByteArray) (by decide)
  have h4 : l.length ≤ fsz l := by unfold fsz; omega
  obtain ⟨_, v2⟩ := vals_both l (⟨#[118, 97, 114, 121]⟩ : ByteArray) (by omega) (by decide) (fun f hf => by have := fsz_mem hf; omega)
  generalize hJ : joinT (valT l (⟨#[118, 97, 114, 121]⟩ : ByteArray)) sep2 = J at j1 j2 j3
  obtain ⟨⟨parts, ok⟩, p1, p2, p3, p4⟩ := List_both J (by omega)
  simp only at p3 p4
  have hx : ∀ x ∈ parts, x.size ≤ 100000000 := fun x hx => by have := p3 x hx; omega
  have spec0 : ∀ R, Ev (fun k => if ok = true then spec_l9Vary.l0 k false ([] : List ByteArray) parts (parts.length : Int) 0 else some (([] : List ByteArray), false, false)) R → Ev (fun k => spec_l9Vary.f k n t l b) R := fun R hR => Ev.bind j1 (Ev.bind p1 hR)
  have impl0 : ∀ R, Ev (fun k => if ok = true then ((impl_areAll_string__144.f parts).bind fun u => impl_vary.j0 k parts (!u)) else impl_vary.j0 k parts true) R → Ev (fun k => impl_vary.f k n t l b) R := fun R hR => Ev.bind v2 (Ev.congr (fun k => by rw [show (⟨#[44, 32]⟩ : ByteArray) = sep2 from rfl, j2, Option.bind_some]) (Ev.bind p2 hR))
  have noI : Ev (fun k => impl_vary.j0 k parts true) (([] : List ByteArray), false, false) := Ev.step (f := fun _ => some (([] : List ByteArray), false, false)) (fun k => by simp only [impl_vary.j0, if_true]) (Ev.now _)
  cases ok with
  | false => exact ⟨_, _, spec0 _ (Ev.congr (f := fun _ => some (([] : List ByteArray), false, false)) (fun k => rfl) (Ev.now _)), impl0 _ (Ev.congr (fun k => rfl) noI), rfl, fun h => by cases h⟩
  | true =>
    obtain ⟨R, h1, h2, h3⟩ := varyS_loop parts (by omega) hx parts.length 0 false [] (by omega) (by simp)
    rw [List.drop_zero] at h2 h3
    have hI := varyI_loop parts (by omega) hx parts.length 0 false [] (by omega) (by simp)
    rw [List.drop_zero] at hI
    by_cases c : parts.all tokT = true
    · refine ⟨R, _, spec0 R (by simpa using h1), impl0 _ (Ev.congr (f := fun k => impl_vary.j0 k parts false) (fun k => by rw [if_pos rfl, allO_tok parts hx, c]; rfl) (Ev.step (fun k => by simp only [impl_vary.j0]; rw [if_neg (by simp)]; rfl) hI)), by rw [h2, c], fun hR => ⟨by rw [(h3 hR).1], fun x => ?_⟩⟩
      rw [(h3 hR).2 x, uniqT_mem, List.nil_append, List.mem_map]
      constructor
      · rintro (hx | ⟨p, hp, hs, rfl⟩)
        · cases hx
        · exact ⟨p, List.mem_filter.2 ⟨hp, by rw [hs]; rfl⟩, rfl⟩
      · rintro ⟨p, hp, rfl⟩
        obtain ⟨hp, hs⟩ := List.mem_filter.1 hp
        exact .inr ⟨p, hp, by simpa using hs, rfl⟩
    · have c' : parts.all tokT = false := Bool.eq_false_iff.mpr c
      refine ⟨R, _, spec0 R (by simpa using h1), impl0 _ (Ev.congr (f := fun k => impl_vary.j0 k parts true) (fun k => by rw [if_pos rfl, allO_tok parts hx, c']; rfl) noI), by rw [h2, c'], fun hR => absurd (hR.symm.trans (h2.trans c')) (by simp)⟩
theorem kept_both (n : Int) (t b : ByteArray) (l : List S105) (p q : Int) (ht : t.size ≤ 100000000) (hb : b.size ≤ 100000000) (hl : l.length ≤ 100000000) (hs : ∀ f ∈ l, f.f0.size ≤ 100000000 ∧ f.f1.size ≤ 100000000) :
    ∃ r, Ev (fun k => spec_GoodKept.f k n t l b p q) r ∧ Ev (fun k => impl_GoodKept.f k n t l b p q) r := by
  obtain ⟨r, h1, h2, _⟩ := resp_both n t b l ht hb hl hs
  refine ⟨r && ((decide (0 ≤ p) && decide (p ≤ q)) && decide (q ≤ 253402300799)), Ev.bind h1 ?_, Ev.bind h2 ?_⟩
  · cases r with
    | false => exact Ev.now _
    | true =>
      refine Ev.congr (f := fun _ => some _) (fun k => ?_) (Ev.now _)
      rw [if_pos rfl, Bool.true_and]
      by_cases c1 : 0 ≤ p
      · rw [if_pos (show p ≥ 0 from c1), decide_eq_true c1, Bool.true_and]
        by_cases c2 : p ≤ q
        · rw [if_pos c2, decide_eq_true c2, Bool.true_and]
        · rw [if_neg c2, decide_eq_false c2, Bool.false_and]
      · rw [if_neg (show ¬ p ≥ 0 from c1), decide_eq_false c1, Bool.false_and, Bool.false_and]
  · cases r with
    | false => exact Ev.now _
    | true =>
      refine Ev.congr (f := fun _ => some _) (fun k => ?_) (Ev.now _)
      rw [if_pos rfl, Bool.true_and, within_is, Option.bind_some]
      cases (decide (0 ≤ p) && decide (p ≤ q)) with
      | false => rw [if_neg (by simp), Bool.false_and]
      | true => rw [if_pos rfl, Bool.true_and]
def SzF (l : List S105) : Prop := fsz l ≤ 1048576
theorem SzF.len {l : List S105} (h : SzF l) : l.length ≤ 100000000 := by unfold SzF fsz at h; omega
theorem SzF.mem {l : List S105} (h : SzF l) : ∀ f ∈ l, f.f0.size ≤ 100000000 ∧ f.f1.size ≤ 100000000 := fun f hf => by have := fsz_mem hf; unfold SzF at h; omega
def SzI (x : S61) : Prop := x.f0.size ≤ 1048576 ∧ SzF x.f1 ∧ SzF x.f2.f0.f2 ∧ x.f2.f0.f1.size ≤ 1048576 ∧ x.f2.f0.f3.size ≤ 1048576
theorem item_both (x : S61) (h : SzI x) : ∃ r, Ev (fun k => spec_l9Item.f k x.f0 x.f1 x.f2.f0.f0 x.f2.f0.f1 x.f2.f0.f2 x.f2.f0.f3 x.f2.f1 x.f2.f2) r ∧ Ev (fun k => impl_isItem.f k x.f0 x.f1 x.f2.f0.f0 x.f2.f0.f1 x.f2.f0.f2 x.f2.f0.f3 x.f2.f1 x.f2.f2) r := by
  obtain ⟨h1, h2, h3, h4, h5⟩ := h
  obtain ⟨R1, R2, v1, v2, v3, v4⟩ := vary_both x.f2.f0.f0 x.f2.f0.f1 x.f2.f0.f3 x.f2.f0.f2 h3
  obtain ⟨f1, f2⟩ := fields_total x.f1 h2.len h2.mem
  obtain ⟨r, k1, k2⟩ := kept_both x.f2.f0.f0 x.f2.f0.f1 x.f2.f0.f3 x.f2.f0.f2 x.f2.f1 x.f2.f2 (by omega) (by omega) h3.len h3.mem
  obtain ⟨o1, s1, g1⟩ := R1
  obtain ⟨o2, s2, g2⟩ := R2
  simp only at v3 v4
  subst v3
  refine ⟨decide ((x.f0.size : Int) ≤ 200) && (fieldsB x.f1 && (r && (g1 && !s1))), Ev.bind v1 ?_, ?_⟩
  · by_cases c : (x.f0.size : Int) ≤ 200
    · simp only [if_pos c, decide_eq_true c, Bool.true_and]
      refine Ev.bind f1 ?_
      cases fieldsB x.f1 with
      | false => exact Ev.now _
      | true =>
        simp only [if_true, Bool.true_and]
        refine Ev.bind k1 ?_
        cases r with
        | false => exact Ev.now _
        | true =>
          simp only [if_true, Bool.true_and]
          cases g1 <;> exact Ev.now _
    · simp only [if_neg c, decide_eq_false c, Bool.false_and]
      exact Ev.now _
  · unfold impl_isItem.f
    by_cases c : (x.f0.size : Int) ≤ 200
    · simp only [if_neg (show ¬ (x.f0.size : Int) > 200 by omega), decide_eq_true c, Bool.true_and, f2, Option.bind_some]
      cases fieldsB x.f1 with
      | false => exact Ev.now _
      | true =>
        simp only [if_true, Bool.true_and]
        refine Ev.bind k2 ?_
        cases r with
        | false => exact Ev.now _
        | true =>
          simp only [if_true, Bool.true_and]
          refine Ev.bind v2 ?_
          cases g1 with
          | false => exact Ev.now _
          | true => simp only [if_true, Bool.true_and]; rw [(v4 rfl).1]; exact Ev.now _
    · simp only [if_pos (show (x.f0.size : Int) > 200 by omega), decide_eq_false c, Bool.false_and]
      exact Ev.now _
theorem Ev_allO {α : Type} {p : Nat → α → Option Bool} {q : α → Bool} : ∀ l : List α, (∀ x ∈ l, Ev (fun k => p k x) (q x)) → Ev (fun k => allO (p k) l) (l.all q)
  | [], _ => Ev.now _
  | x :: xs, h => by
    refine Ev.bind (h x (List.mem_cons_self ..)) ?_
    rw [List.all_cons]
    cases q x with
    | false => exact Ev.now _
    | true => simp only [if_true, Bool.true_and]; exact Ev_allO xs (fun y hy => h y (List.mem_cons_of_mem _ hy))
theorem rd61 (l : List S61) (j : Nat) (h : j < l.length) : rd_T61 l (j : Int) = l[j] := getD_at h _
theorem items_both (l : List S61) (hl : l.length ≤ 100000000) (h : ∀ x ∈ l, SzI x) : ∃ r, Ev (fun k => spec_l9Items.f k l) r ∧ Ev (fun k => impl_areItems.f k l) r := by
  obtain ⟨q, hq⟩ : ∃ q : S61 → Bool, ∀ x, SzI x → Ev (fun k => spec_l9Item.f k x.f0 x.f1 x.f2.f0.f0 x.f2.f0.f1 x.f2.f0.f2 x.f2.f0.f3 x.f2.f1 x.f2.f2) (q x) ∧ Ev (fun k => impl_isItem.f k x.f0 x.f1 x.f2.f0.f0 x.f2.f0.f1 x.f2.f0.f2 x.f2.f0.f3 x.f2.f1 x.f2.f2) (q x) := by
    have : ∀ x : S61, ∃ r : Bool, SzI x → Ev (fun k => spec_l9Item.f k x.f0 x.f1 x.f2.f0.f0 x.f2.f0.f1 x.f2.f0.f2 x.f2.f0.f3 x.f2.f1 x.f2.f2) r ∧ Ev (fun k => impl_isItem.f k x.f0 x.f1 x.f2.f0.f0 x.f2.f0.f1 x.f2.f0.f2 x.f2.f0.f3 x.f2.f1 x.f2.f2) r := fun x => by
      by_cases c : SzI x
      · obtain ⟨r, h1, h2⟩ := item_both x c; exact ⟨r, fun _ => ⟨h1, h2⟩⟩
      · exact ⟨true, fun h => absurd h c⟩
    exact Classical.axiomOfChoice this
  have go : ∀ (d j : Nat), j + d = l.length → Ev (fun k => spec_l9Items.l0 k l l (l.length : Int) (j : Int)) ((l.drop j).all q && decide ((l.length : Int) ≤ 30)) := by
    intro d
    induction d with
    | zero =>
      intro j hj
      rw [List.drop_of_length_le (by omega)]
      refine Ev.step (f := fun _ => some (decide ((l.length : Int) ≤ 30))) (fun k => ?_) (Ev.now _)
      simp only [spec_l9Items.l0]
      rw [if_neg (by omega)]
    | succ d ih =>
      intro j hj
      have hlt : j < l.length := by omega
      rw [List.drop_eq_getElem_cons hlt, List.all_cons]
      refine Ev.step (fun k => by simp only [spec_l9Items.l0]; rw [if_pos (by omega), if_pos (by omega), if_pos (by omega), rd61 l j hlt, show wrap64 ((j : Int) + 1) = ((j + 1 : Nat) : Int) from by unfold wrap64; omega]) (Ev.bind (hq _ (h _ (List.getElem_mem hlt))).1 ?_)
      cases q l[j] with
      | false => exact Ev.now _
      | true => simp only [if_true, Bool.true_and]; exact ih (j + 1) (by omega)
  have h0 := go l.length 0 (by omega)
  rw [List.drop_zero] at h0
  refine ⟨l.all q && decide ((l.length : Int) ≤ 30), h0, ?_⟩
  unfold impl_areItems.f
  by_cases c : (l.length : Int) ≤ 30
  · simp only [if_pos c, decide_eq_true c, Bool.and_true]
    exact Ev.bind (Ev_allO l (fun x hx => (hq x (h x hx)).2)) (Ev.now _)
  · simp only [if_neg c, decide_eq_false c, Bool.and_false]
    exact Ev.now _
theorem gw_both (s h : ByteArray) (p : Int) (t q : ByteArray) (a : Bool) (now : Int) (l : List S61) (hs : s.size ≤ 1125899906842624) (hh : h.size ≤ 1125899906842624) (ht : t.size ≤ 1125899906842624) (hq : q.size ≤ 1125899906842624) (hl : l.length ≤ 100000000) (hx : ∀ x ∈ l, SzI x) :
    ∃ r, Ev (fun k => spec_GoodGateway.f k s h p t q a now l) r ∧ Ev (fun k => impl_GoodGateway.f k s h p t q a now l) r := by
  obtain ⟨u, u1, u2⟩ := GoodUrl_both s h p t q a hs hh ht hq
  obtain ⟨r, i1, i2⟩ := items_both l hl hx
  obtain ⟨tm, htm⟩ : ∃ z, z = (decide ((0 : Int) ≤ now) && decide (now ≤ 253402300799)) := ⟨_, rfl⟩
  have go : ∀ (d j : Nat), j + d = l.length → Ev (fun k => spec_GoodGateway.l0 k l (l.length : Int) (j : Int) s h p t q a now l) ((l.drop j).all (fun x => decide (x.f2.f2 ≤ now)) && (u && (tm && r))) := by
    intro d
    induction d with
    | zero =>
      intro j hj
      rw [List.drop_of_length_le (by omega)]
      refine Ev.step (f := fun k => (spec_GoodUrl.f k s h p t q a).bind fun t345 => if t345 = true then ((spec_l1In.f now 0 253402300799).bind fun t346 => (if t346 = true then ((spec_l9Items.f k l).bind fun t347 => (some t347)) else (some false))) else (some false)) (fun k => ?_) (Ev.bind u1 ?_)
      · simp only [spec_GoodGateway.l0]
        rw [if_neg (by omega)]
      · rw [List.all_nil, Bool.true_and]
        cases u with
        | false => exact Ev.now _
        | true =>
          simp only [if_true, Bool.true_and, l1In_is, Option.bind_some, ← htm]
          cases tm with
          | false => exact Ev.now _
          | true => simp only [if_true, Bool.true_and]; exact Ev.bind i1 (Ev.now _)
    | succ d ih =>
      intro j hj
      have hlt : j < l.length := by omega
      rw [List.drop_eq_getElem_cons hlt, List.all_cons]
      by_cases c : l[j].f2.f2 ≤ now
      · rw [decide_eq_true c, Bool.true_and]
        refine Ev.step (fun k => ?_) (ih (j + 1) (by omega))
        simp only [spec_GoodGateway.l0]
        rw [if_pos (by omega), if_pos (by omega), if_pos (by omega), rd61 l j hlt, if_neg (by omega), show wrap64 ((j : Int) + 1) = ((j + 1 : Nat) : Int) from by unfold wrap64; omega]
      · rw [decide_eq_false c, Bool.false_and, Bool.false_and]
        refine Ev.step (f := fun _ => some false) (fun k => ?_) (Ev.now _)
        simp only [spec_GoodGateway.l0]
        rw [if_pos (by omega), if_pos (by omega), if_pos (by omega), rd61 l j hlt, if_pos (by omega)]
  have h0 := go l.length 0 (by omega)
  rw [List.drop_zero] at h0
  refine ⟨_, h0, ?_⟩
  have h1 : Ev (fun k => impl_GoodGateway.f k s h p t q a now l) (u && (tm && (r && l.all (fun x => decide (x.f2.f2 ≤ now))))) := by
    refine Ev.bind u2 ?_
    cases u with
    | false => exact Ev.now _
    | true =>
      unfold impl_isTime.f
      simp only [if_true, Bool.true_and, within_is, Option.bind_some, ← htm]
      cases tm with
      | false => exact Ev.now _
      | true =>
        simp only [if_true, Bool.true_and]
        refine Ev.bind i2 ?_
        cases r with
        | false => exact Ev.now _
        | true =>
          simp only [if_true, Bool.true_and]
          exact Ev.congr (f := fun _ => some (l.all (fun x => decide (x.f2.f2 ≤ now)))) (fun k => allO_all' l (fun x _ => rfl)) (Ev.now _)
  have e : (u && (tm && (r && l.all (fun x => decide (x.f2.f2 ≤ now))))) = (l.all (fun x => decide (x.f2.f2 ≤ now)) && (u && (tm && r))) := by
    cases u <;> cases tm <;> cases r <;> cases (l.all (fun x => decide (x.f2.f2 ≤ now))) <;> rfl
  rw [e] at h1
  exact h1
def keyNe (key : ByteArray) (x : S61) : Bool := !(x.f0.toList == key.toList)
theorem own_is (x : S61) (h : SzI x) : impl_Item_own.f x.f0 x.f1 x.f2.f0.f0 x.f2.f0.f1 x.f2.f0.f2 x.f2.f0.f3 x.f2.f1 x.f2.f2 = some (x.f0, x.f1, x.f2.f0.f0, x.f2.f0.f1, x.f2.f0.f2, x.f2.f0.f3, x.f2.f1, x.f2.f2) := by
  have h1 := h.2.1.len
  have h2 := h.2.2.1.len
  unfold impl_Item_own.f impl_Kept_own.f slices_CloneF.f
  rw [if_pos (by omega), Option.bind_some, if_pos (by omega)]
  rfl
theorem forget_is (key : ByteArray) (l : List S61) (hl : l.length ≤ 100000000) (hx : ∀ x ∈ l, SzI x) : ∀ (d j : Nat) (out : List S61), j + d = l.length → out.length ≤ j → Ev (fun k => impl_forget.l0 k key out l (l.length : Int) (j : Int)) (out ++ (l.drop j).filter (keyNe key)) := by
  intro d
  induction d with
  | zero =>
    intro j out hj ho
    rw [List.drop_of_length_le (by omega), List.filter_nil, List.append_nil]
    refine Ev.step (f := fun _ => some out) (fun k => ?_) (Ev.now _)
    simp only [impl_forget.l0]
    rw [if_neg (by omega)]
  | succ d ih =>
    intro j out hj ho
    have hlt : j < l.length := by omega
    have w1 : wrap64 ((j : Int) + 1) = ((j + 1 : Nat) : Int) := by unfold wrap64; omega
    rw [List.drop_eq_getElem_cons hlt, List.filter_cons]
    by_cases c : l[j].f0.toList = key.toList
    · rw [if_neg (by simp [keyNe, c])]
      refine Ev.step (fun k => ?_) (ih (j + 1) out (by omega) (by omega))
      simp only [impl_forget.l0]
      rw [if_pos (by omega), if_pos (by omega), if_pos (by omega), rd61 l j hlt, if_pos c, w1]
    · rw [if_pos (by simp [keyNe, c])]
      have := ih (j + 1) (out ++ [l[j]]) (by omega) (by simp; omega)
      rw [List.append_assoc] at this
      refine Ev.step (fun k => ?_) this
      simp only [impl_forget.l0]
      rw [if_pos (by omega), if_pos (by omega), if_pos (by omega), rd61 l j hlt, if_neg c, own_is _ (hx _ (List.getElem_mem hlt)), Option.bind_some, if_pos (by omega), w1]
theorem count_is (key : ByteArray) (l : List S61) (hl : l.length ≤ 100000000) : ∀ (d j n : Nat), j + d = l.length → n ≤ j → Ev (fun k => spec_KeptFor.l0 k key (n : Int) l (l.length : Int) (j : Int)) (((n + ((l.drop j).length - ((l.drop j).filter (keyNe key)).length) : Nat) : Int), true) := by
  intro d
  induction d with
  | zero =>
    intro j n hj hn
    rw [List.drop_of_length_le (by omega)]
    refine Ev.step (f := fun _ => some ((n : Int), true)) (fun k => ?_) (Ev.now _)
    simp only [spec_KeptFor.l0]
    rw [if_neg (by omega)]
  | succ d ih =>
    intro j n hj hn
    have hlt : j < l.length := by omega
    have w1 : wrap64 ((j : Int) + 1) = ((j + 1 : Nat) : Int) := by unfold wrap64; omega
    have wn : wrap64 ((n : Int) + 1) = ((n + 1 : Nat) : Int) := by unfold wrap64; omega
    have hf := List.length_filter_le (keyNe key) (l.drop (j + 1))
    rw [List.drop_eq_getElem_cons hlt, List.filter_cons]
    by_cases c : l[j].f0.toList = key.toList
    · rw [if_neg (by simp [keyNe, c])]
      have := ih (j + 1) (n + 1) (by omega) (by omega)
      rw [show n + 1 + ((l.drop (j + 1)).length - ((l.drop (j + 1)).filter (keyNe key)).length) = n + ((l[j] :: l.drop (j + 1)).length - ((l.drop (j + 1)).filter (keyNe key)).length) from by rw [List.length_cons]; omega] at this
      refine Ev.step (fun k => ?_) this
      simp only [spec_KeptFor.l0]
      rw [if_pos (by omega), if_pos (by omega), if_pos (by omega), rd61 l j hlt, if_pos c, w1, wn]
    · rw [if_pos (by simp [keyNe, c])]
      have := ih (j + 1) n (by omega) (by omega)
      rw [show n + ((l.drop (j + 1)).length - ((l.drop (j + 1)).filter (keyNe key)).length) = n + ((l[j] :: l.drop (j + 1)).length - (l[j] :: (l.drop (j + 1)).filter (keyNe key)).length) from by rw [List.length_cons, List.length_cons]; omega] at this
      refine Ev.step (fun k => ?_) this
      simp only [spec_KeptFor.l0]
      rw [if_pos (by omega), if_pos (by omega), if_pos (by omega), rd61 l j hlt, if_neg c, w1]
theorem keptfor_both (s h : ByteArray) (p : Int) (t q : ByteArray) (a : Bool) (now : Int) (l : List S61) (key : ByteArray) (hs : s.size ≤ 1125899906842624) (hh : h.size ≤ 1125899906842624) (ht : t.size ≤ 1125899906842624) (hq : q.size ≤ 1125899906842624) (hl : l.length ≤ 100000000) (hx : ∀ x ∈ l, SzI x) :
    ∃ r, Ev (fun k => spec_KeptFor.f k s h p t q a now l key) r ∧ Ev (fun k => impl_KeptFor.f k s h p t q a now l key) r := by
  obtain ⟨r, g1, g2⟩ := gw_both s h p t q a now l hs hh ht hq hl hx
  cases r with
  | false => exact ⟨(0, false), Ev.bind g1 (Ev.congr (f := fun _ => some (0, false)) (fun k => rfl) (Ev.now _)), Ev.bind g2 (Ev.congr (f := fun _ => some (0, false)) (fun k => rfl) (Ev.now _))⟩
  | true =>
    have h1 := count_is key l hl l.length 0 0 (by omega) (by omega)
    have h2 := forget_is key l hl hx l.length 0 [] (by omega) (by simp)
    rw [List.drop_zero] at h1 h2
    have hf := List.length_filter_le (keyNe key) l
    refine ⟨_, Ev.bind g1 h1, Ev.bind g2 (Ev.bind h2 (Ev.congr (f := fun _ => some _) (fun k => ?_) (Ev.now _)))⟩
    rw [List.nil_append, Nat.zero_add, show wrap64 ((l.length : Int) - (((l.filter (keyNe key)).length : Nat) : Int)) = ((l.length - (l.filter (keyNe key)).length : Nat) : Int) from by unfold wrap64; omega]
def cvF (f : S122) : S105 := ⟨f.f0, f.f1⟩
def cvI (x : S52) : S61 := ⟨x.f0, x.f1.map cvF, ⟨⟨x.f2.f0.f0, x.f2.f0.f1, x.f2.f0.f2.map cvF, x.f2.f0.f3⟩, x.f2.f1, x.f2.f2⟩⟩
theorem fsz_cv (f : S122) (l : List S122) : fsz ((f :: l).map cvF) = fsz (l.map cvF) + (f.f0.size + f.f1.size + 1) := by
  rw [List.map_cons, fsz_cons]; rfl
def Big (n : Nat) : Prop := n ≤ 140737488351232
theorem wsub {a : Int} {n : Nat} (h0 : 0 ≤ a) (h1 : a ≤ 1048576) (hn : Big n) : wrap64 (a - (n : Int)) = a - (n : Int) := by unfold Big at hn; unfold wrap64; omega
theorem szF_loop (l : List S122) (hl : l.length ≤ 1048576) (hw : ∀ f ∈ l, Big f.f0.size ∧ Big f.f1.size) : ∀ (d j : Nat) (a : Int), j + d = l.length → 0 ≤ a → a ≤ 1048576 →
    ∃ r, Ev (fun k => laws_szFieldS.l0 k l a (j : Int)) r ∧ -1 ≤ r ∧ (0 ≤ r → r + (fsz ((l.drop j).map cvF) : Nat) ≤ a + (l.length - j : Nat)) := by
  intro d
  induction d with
  | zero =>
    intro j a hj h0 h1
    rw [List.drop_of_length_le (by omega)]
    refine ⟨a, Ev.step (f := fun _ => some a) (fun k => ?_) (Ev.now _), by omega, fun _ => by simp [fsz]; omega⟩
    simp only [laws_szFieldS.l0]
    rw [if_neg (by omega)]
  | succ d ih =>
    intro j a hj h0 h1
    have hlt : j < l.length := by omega
    have hr : rd_T122 l (j : Int) = l[j] := getD_at hlt _
    have w1 : wrap64 ((j : Int) + 1) = ((j + 1 : Nat) : Int) := by unfold wrap64; omega
    obtain ⟨b0, b1⟩ := hw _ (List.getElem_mem hlt)
    have st : ∀ t : Int, laws_szField.f l[j].f0 l[j].f1 a = some t → ∀ k, laws_szFieldS.l0 (k + 1) l a (j : Int) = if t < 0 then some (-1) else laws_szFieldS.l0 k l t ((j + 1 : Nat) : Int) := by
      intro t ht k
      simp only [laws_szFieldS.l0]
      rw [if_pos (by omega), if_pos (by omega), hr, ht, Option.bind_some, w1]
    have no : laws_szField.f l[j].f0 l[j].f1 a = some (-1) → ∃ r, Ev (fun k => laws_szFieldS.l0 k l a (j : Int)) r ∧ -1 ≤ r ∧ (0 ≤ r → r + (fsz ((l.drop j).map cvF) : Nat) ≤ a + (l.length - j : Nat)) := fun h => ⟨-1, Ev.step (f := fun _ => some (-1)) (fun k => by rw [st _ h, if_pos (by decide)]) (Ev.now _), by omega, fun h => by omega⟩
    by_cases c0 : a - (l[j].f0.size : Int) < 0
    · exact no (by unfold laws_szField.f; rw [wsub h0 h1 b0, if_pos c0])
    by_cases c1 : a - (l[j].f0.size : Int) - (l[j].f1.size : Int) < 0
    · exact no (by unfold laws_szField.f; rw [wsub h0 h1 b0, if_neg c0, wsub (by omega) (by omega) b1, if_pos c1])
    obtain ⟨r, e1, e2, e3⟩ := ih (j + 1) (a - (l[j].f0.size : Int) - (l[j].f1.size : Int)) (by omega) (by omega) (by omega)
    refine ⟨r, Ev.step (fun k => ?_) e1, e2, fun h => ?_⟩
    · rw [st (a - (l[j].f0.size : Int) - (l[j].f1.size : Int)) (by unfold laws_szField.f; rw [wsub h0 h1 b0, if_neg c0, wsub (by omega) (by omega) b1, if_neg c1]), if_neg c1]
    · have := e3 h
      rw [List.drop_eq_getElem_cons hlt, fsz_cv]; omega
theorem szF_is (l : List S122) (hb : Big l.length) (hw : ∀ f ∈ l, Big f.f0.size ∧ Big f.f1.size) (a : Int) (h0 : 0 ≤ a) (h1 : a ≤ 1048576) : ∃ r, Ev (fun k => laws_szFieldS.f k l a) r ∧ -1 ≤ r ∧ (0 ≤ r → r + (fsz (l.map cvF) : Nat) ≤ a) := by
  unfold laws_szFieldS.f
  simp only [wsub h0 h1 hb]
  by_cases c : a - (l.length : Int) < 0
  · exact ⟨-1, Ev.congr (f := fun _ => some (-1)) (fun k => by rw [if_pos c]) (Ev.now _), by omega, fun h => by omega⟩
  · obtain ⟨r, e1, e2, e3⟩ := szF_loop l (by omega) hw l.length 0 (a - (l.length : Int)) (by omega) (by omega) (by omega)
    rw [List.drop_zero] at e3
    exact ⟨r, Ev.congr (fun k => by rw [if_neg c]; rfl) e1, e2, fun h => by have := e3 h; omega⟩
def WfI (x : S52) : Prop := Big x.f0.size ∧ Big x.f1.length ∧ (∀ f ∈ x.f1, Big f.f0.size ∧ Big f.f1.size) ∧ Big x.f2.f0.f1.size ∧ Big x.f2.f0.f2.length ∧ (∀ f ∈ x.f2.f0.f2, Big f.f0.size ∧ Big f.f1.size) ∧ Big x.f2.f0.f3.size
/-- A size that is told: what is left, or -1; where it isn't -1, P holds. -/
def Sz (g : Nat → Int → Option Int) (P : Prop) : Prop := ∀ a : Int, 0 ≤ a → a ≤ 1048576 → ∃ r, Ev (fun k => g k a) r ∧ -1 ≤ r ∧ r ≤ a ∧ (0 ≤ r → P)
theorem sz_end : Sz (fun _ a => some a) True := fun a _ _ => ⟨a, Ev.now _, by omega, Int.le_refl _, fun _ => trivial⟩
theorem sz_sub {n : Nat} (hn : Big n) {G : Nat → Int → Option Int} {P : Prop} (h : n ≤ 1048576 → Sz G P) : Sz (fun k a => if wrap64 (a - (n : Int)) < 0 then some (-1) else G k (wrap64 (a - (n : Int)))) (n ≤ 1048576 ∧ P) := by
  intro a h0 h1
  simp only [wsub h0 h1 hn]
  by_cases c : a - (n : Int) < 0
  · exact ⟨-1, Ev.congr (f := fun _ => some (-1)) (fun k => by rw [if_pos c]) (Ev.now _), by omega, by omega, fun h => by omega⟩
  · obtain ⟨r, e1, e2, e3, e4⟩ := h (by omega) (a - (n : Int)) (by omega) (by omega)
    exact ⟨r, Ev.congr (fun k => by rw [if_neg c]) e1, e2, by omega, fun h => ⟨by omega, e4 h⟩⟩
theorem sz_call {g G : Nat → Int → Option Int} {P Q : Prop} (hg : Sz g P) (hG : Sz G Q) : Sz (fun k a => (g k a).bind fun t => if t < 0 then some (-1) else G k t) (P ∧ Q) := by
  intro a h0 h1
  obtain ⟨r, e1, e2, e3, e4⟩ := hg a h0 h1
  by_cases c : r < 0
  · exact ⟨-1, Ev.bind e1 (Ev.congr (f := fun _ => some (-1)) (fun k => by rw [if_pos c]) (Ev.now _)), by omega, by omega, fun h => by omega⟩
  · obtain ⟨r', f1, f2, f3, f4⟩ := hG r (by omega) (by omega)
    exact ⟨r', Ev.bind e1 (Ev.congr (fun k => by rw [if_neg c]) f1), f2, by omega, fun h => ⟨e4 (by omega), f4 h⟩⟩
theorem szFs (l : List S122) (hb : Big l.length) (hw : ∀ f ∈ l, Big f.f0.size ∧ Big f.f1.size) : Sz (fun k a => laws_szFieldS.f k l a) (SzF (l.map cvF)) := fun a h0 h1 => by
  obtain ⟨r, e1, e2, e3⟩ := szF_is l hb hw a h0 h1
  by_cases c : 0 ≤ r
  · have := e3 c; exact ⟨r, e1, e2, by omega, fun _ => by unfold SzF; omega⟩
  · exact ⟨r, e1, e2, by omega, fun h => absurd h c⟩
def itemSz (x : S52) (k : Nat) (a : Int) : Option Int := laws_szItem.f k x.f0 x.f1 x.f2.f0.f0 x.f2.f0.f1 x.f2.f0.f2 x.f2.f0.f3 x.f2.f1 x.f2.f2 a
theorem szI (x : S52) (hw : WfI x) : Sz (itemSz x) (SzI (cvI x)) := by
  obtain ⟨w1, w2, w3, w4, w5, w6, w7⟩ := hw
  have hr : Sz (fun k a => laws_szResponse.f k x.f2.f0.f0 x.f2.f0.f1 x.f2.f0.f2 x.f2.f0.f3 a) _ := sz_sub w4 (fun _ => sz_call (szFs _ w5 w6) (sz_sub w7 (fun _ => sz_end)))
  have hk : Sz (fun k a => laws_szKept.f k x.f2.f0.f0 x.f2.f0.f1 x.f2.f0.f2 x.f2.f0.f3 x.f2.f1 x.f2.f2 a) _ := sz_call hr sz_end
  have hi : Sz (itemSz x) _ := sz_sub w1 (fun _ => sz_call (szFs _ w2 w3) (sz_call hk sz_end))
  intro a h0 h1
  obtain ⟨r, e1, e2, e3, e4⟩ := hi a h0 h1
  refine ⟨r, e1, e2, e3, fun h => ?_⟩
  obtain ⟨p1, p2, ⟨⟨p3, p4, p5, _⟩, _⟩, _⟩ := e4 h
  exact ⟨p1, p2, p4, p3, p5⟩
theorem szIs_loop (l : List S52) (hl : l.length ≤ 1048576) (hw : ∀ x ∈ l, WfI x) : ∀ (d j : Nat), j + d = l.length → Sz (fun k a => laws_szItemS.l0 k l a (j : Int)) (∀ x ∈ l.drop j, SzI (cvI x)) := by
  intro d
  induction d with
  | zero =>
    intro j hj a h0 h1
    rw [List.drop_of_length_le (by omega)]
    refine ⟨a, Ev.step (f := fun _ => some a) (fun k => ?_) (Ev.now _), by omega, by omega, fun _ x hx => by cases hx⟩
    simp only [laws_szItemS.l0]
    rw [if_neg (by omega)]
  | succ d ih =>
    intro j hj a h0 h1
    have hlt : j < l.length := by omega
    have hr : rd_T52 l (j : Int) = l[j] := getD_at hlt _
    have w1 : wrap64 ((j : Int) + 1) = ((j + 1 : Nat) : Int) := by unfold wrap64; omega
    obtain ⟨r, e1, e2, e3, e4⟩ := sz_call (szI l[j] (hw _ (List.getElem_mem hlt))) (ih (j + 1) (by omega)) a h0 h1
    refine ⟨r, Ev.step (fun k => ?_) e1, e2, e3, fun h => ?_⟩
    · simp only [laws_szItemS.l0]
      rw [if_pos (by omega), if_pos (by omega), hr, w1]
      rfl
    · rw [List.drop_eq_getElem_cons hlt]
      intro x hx
      rcases List.mem_cons.1 hx with rfl | hx
      · exact (e4 h).1
      · exact (e4 h).2 x hx
theorem szIs (l : List S52) (hb : Big l.length) (hw : ∀ x ∈ l, WfI x) : Sz (fun k a => laws_szItemS.f k l a) (l.length ≤ 1048576 ∧ ∀ x ∈ l, SzI (cvI x)) :=
  sz_sub (G := fun k a => laws_szItemS.l0 k l a 0) hb (fun hl => by have := szIs_loop l hl hw l.length 0 (by omega); rwa [List.drop_zero] at this)
theorem szU (s h : ByteArray) (p : Int) (t q : ByteArray) (b : Bool) (h1 : Big s.size) (h2 : Big h.size) (h3 : Big t.size) (h4 : Big q.size) : Sz (fun _ a => laws_szUrl.f s h p t q b a) (s.size ≤ 1048576 ∧ h.size ≤ 1048576 ∧ t.size ≤ 1048576 ∧ q.size ≤ 1048576 ∧ True) :=
  sz_sub h1 (fun _ => sz_sub h2 (fun _ => sz_sub h3 (fun _ => sz_sub h4 (fun _ => sz_end))))
theorem toFs_loop (l : List S122) (hl : l.length ≤ 1048576) : ∀ (d j : Nat), j + d = l.length → Ev (fun k => laws_toFieldS.l0 k l ((l.take j).map cvF ++ List.replicate d z105) (j : Int)) (l.map cvF) := by
  intro d
  induction d with
  | zero =>
    intro j hj
    rw [List.take_of_length_le (by omega), List.replicate_zero, List.append_nil]
    refine Ev.step (f := fun _ => some (l.map cvF)) (fun k => ?_) (Ev.now _)
    simp only [laws_toFieldS.l0]
    rw [if_neg (by omega)]
  | succ d ih =>
    intro j hj
    have hlt : j < l.length := by omega
    have hr : rd_T122 l (j : Int) = l[j] := getD_at hlt _
    have w1 : wrap64 ((j : Int) + 1) = ((j + 1 : Nat) : Int) := by unfold wrap64; omega
    have hn : ((l.take j).map cvF).length = j := by rw [List.length_map, List.length_take]; omega
    have hs : ((l.take j).map cvF ++ List.replicate (d + 1) z105).set j (cvF l[j]) = (l.take (j + 1)).map cvF ++ List.replicate d z105 := by
      rw [List.set_append_right _ _ (by omega), hn, Nat.sub_self, List.replicate_succ, List.set_cons_zero, List.take_add_one, List.getElem?_eq_getElem hlt, List.map_append, List.append_assoc]
      rfl
    refine Ev.step (fun k => ?_) (ih (j + 1) (by omega))
    simp only [laws_toFieldS.l0]
    rw [if_pos (by omega), if_pos (by omega), hr]
    simp only [laws_toField.f, Option.bind_some]
    rw [if_pos (by rw [List.length_append, hn, List.length_replicate]; omega), w1, Int.toNat_natCast]
    exact congrArg (fun z => laws_toFieldS.l0 k l z ((j + 1 : Nat) : Int)) hs
theorem toFs (l : List S122) (hl : l.length ≤ 1048576) : Ev (fun k => laws_toFieldS.f k l) (l.map cvF) := by
  refine Ev.congr (fun k => ?_) (toFs_loop l hl l.length 0 (by omega))
  unfold laws_toFieldS.f
  rw [if_pos (by omega), if_pos (by omega), Int.toNat_natCast]
  rfl
theorem Ev_mapO {α β : Type} {f : Nat → α → Option β} {g : α → β} : ∀ l : List α, (∀ x ∈ l, Ev (fun k => f k x) (g x)) → Ev (fun k => mapO (f k) l) (l.map g)
  | [], _ => Ev.now _
  | x :: xs, h => Ev.bind (h x (List.mem_cons_self ..)) (Ev.bind (Ev_mapO xs (fun y hy => h y (List.mem_cons_of_mem _ hy))) (Ev.now _))
theorem cv_len {l : List S122} (h : SzF (l.map cvF)) : l.length ≤ 1048576 := by unfold SzF fsz at h; rw [List.length_map] at h; omega
theorem toI_is (x : S52) (h : SzI (cvI x)) : Ev (fun k => toI k x) (cvI x) :=
  Ev.bind (Ev.bind (toFs x.f1 (cv_len h.2.1)) (Ev.bind (Ev.bind (Ev.bind (toFs x.f2.f0.f2 (cv_len h.2.2.1)) (Ev.now _)) (Ev.now _)) (Ev.now _))) (Ev.now _)
theorem toIs (l : List S52) (hl : l.length ≤ 1048576) (h : ∀ x ∈ l, SzI (cvI x)) : Ev (fun k => laws_toItemS.f k l) (l.map cvI) := by
  unfold laws_toItemS.f
  simp only [if_pos (show l.length ≤ 1000000000 by omega)]
  exact Ev_mapO l (fun x hx => toI_is x (h x hx))
theorem eqFs_loop (l : List S105) (hl : l.length ≤ 100000000) : ∀ (d j : Nat), j + d = l.length → Ev (fun k => laws_eqFieldS.l0 k l l (j : Int)) true := by
  intro d
  induction d with
  | zero =>
    intro j hj
    refine Ev.step (f := fun _ => some true) (fun k => ?_) (Ev.now _)
    simp only [laws_eqFieldS.l0]
    rw [if_neg (by omega)]
  | succ d ih =>
    intro j hj
    refine Ev.step (fun k => ?_) (ih (j + 1) (by omega))
    simp only [laws_eqFieldS.l0, laws_eqField.f, if_true, Option.bind_some]
    rw [if_pos (by omega), if_pos (by omega), if_pos (by omega), show wrap64 ((j : Int) + 1) = ((j + 1 : Nat) : Int) from by unfold wrap64; omega]
theorem eqFs (l : List S105) (hl : l.length ≤ 100000000) : Ev (fun k => laws_eqFieldS.f k l l) true := by
  refine Ev.congr (fun k => ?_) (eqFs_loop l hl l.length 0 (by omega))
  simp only [laws_eqFieldS.f, if_true]
  rfl
theorem eqI (x : S61) (h : SzI x) : Ev (fun k => laws_eqItem.f k x.f0 x.f1 x.f2.f0.f0 x.f2.f0.f1 x.f2.f0.f2 x.f2.f0.f3 x.f2.f1 x.f2.f2 x.f0 x.f1 x.f2.f0.f0 x.f2.f0.f1 x.f2.f0.f2 x.f2.f0.f3 x.f2.f1 x.f2.f2) true := by
  unfold laws_eqItem.f laws_eqKept.f laws_eqResponse.f
  simp only [if_true]
  exact Ev.bind (eqFs x.f1 h.2.1.len) (Ev.bind (Ev.bind (Ev.bind (eqFs x.f2.f0.f2 h.2.2.1.len) (Ev.now _)) (Ev.now _)) (Ev.now _))
theorem eqIs_loop (l : List S61) (hl : l.length ≤ 100000000) (h : ∀ x ∈ l, SzI x) : ∀ (d j : Nat), j + d = l.length → Ev (fun k => laws_eqItemS.l0 k l l (j : Int)) true := by
  intro d
  induction d with
  | zero =>
    intro j hj
    refine Ev.step (f := fun _ => some true) (fun k => ?_) (Ev.now _)
    simp only [laws_eqItemS.l0]
    rw [if_neg (by omega)]
  | succ d ih =>
    intro j hj
    have hlt : j < l.length := by omega
    refine Ev.step (fun k => by simp only [laws_eqItemS.l0]; rw [if_pos (by omega), if_pos (by omega), if_pos (by omega), rd61 l j hlt, show wrap64 ((j : Int) + 1) = ((j + 1 : Nat) : Int) from by unfold wrap64; omega]) (Ev.bind (eqI l[j] (h _ (List.getElem_mem hlt))) ?_)
    simp only [if_true]
    exact ih (j + 1) (by omega)
theorem eqIs (l : List S61) (hl : l.length ≤ 100000000) (h : ∀ x ∈ l, SzI x) : Ev (fun k => laws_eqItemS.f k l l) true := by
  refine Ev.congr (fun k => ?_) (eqIs_loop l hl h l.length 0 (by omega))
  simp only [laws_eqItemS.f, if_true]
  rfl
def gwSz (s h : ByteArray) (p : Int) (t q : ByteArray) (b : Bool) (now : Int) (l : List S52) (k : Nat) (a : Int) : Option Int := laws_szGateway.f k s h p t q b now l a
theorem szG (s h : ByteArray) (p : Int) (t q : ByteArray) (b : Bool) (now : Int) (l : List S52) (h1 : Big s.size) (h2 : Big h.size) (h3 : Big t.size) (h4 : Big q.size) (hb : Big l.length) (hw : ∀ x ∈ l, WfI x) :
    Sz (gwSz s h p t q b now l) ((s.size ≤ 1048576 ∧ h.size ≤ 1048576 ∧ t.size ≤ 1048576 ∧ q.size ≤ 1048576 ∧ True) ∧ (l.length ≤ 1048576 ∧ ∀ x ∈ l, SzI (cvI x)) ∧ True) :=
  sz_call (szU s h p t q b h1 h2 h3 h4) (sz_call (szIs l hb hw) sz_end)
theorem toG (s h : ByteArray) (p : Int) (t q : ByteArray) (b : Bool) (now : Int) (l : List S52) (hl : l.length ≤ 1048576) (hx : ∀ x ∈ l, SzI (cvI x)) : Ev (fun k => laws_toGateway.f k s h p t q b now l) (s, h, p, t, q, b, now, l.map cvI) := by
  unfold laws_toGateway.f laws_toUrl.f
  simp only [Option.bind_some]
  exact Ev.bind (toIs l hl hx) (Ev.now _)
theorem eqG (s h : ByteArray) (p : Int) (t q : ByteArray) (b : Bool) (now : Int) (l : List S61) (hl : l.length ≤ 100000000) (hx : ∀ x ∈ l, SzI x) : Ev (fun k => laws_eqGateway.f k s h p t q b now l s h p t q b now l) true := by
  unfold laws_eqGateway.f laws_eqUrl.f
  simp only [if_true, bne_self_eq_false, Bool.false_eq_true, if_false, Option.bind_some]
  exact Ev.bind (eqIs l hl hx) (Ev.now _)
theorem wfI_of {x : S52} (h : wf52 x) : WfI x := by
  obtain ⟨h1, ⟨h2, h3⟩, ⟨⟨_, h4, ⟨h5, h6⟩, h7⟩, _⟩⟩ := h
  exact ⟨h1, by unfold Big; omega, fun f hf => h3 f hf, h4, by unfold Big; omega, fun f hf => h6 f hf, h7⟩
theorem FnExactKeptFor : laws_FnExactKeptFor.Pure := by
  rintro ⟨⟨s, h, p, t, q, b⟩, now, l⟩ a1 ⟨⟨w1, w2, _, w3, w4, _⟩, _, w5, w6⟩ ha
  show ∃ k, laws_FnExactKeptFor.f k s h p t q b now l a1 = some true
  refine Ev.law ?_
  unfold laws_FnExactKeptFor.f
  by_cases c : (a1.size : Int) > 1048576
  · simp only [if_pos c]; exact Ev.now _
  simp only [if_neg c]
  obtain ⟨r, e1, e2, e3, e4⟩ := szG s h p t q b now l w1 w2 w3 w4 (by simp only at w5; unfold Big; omega) (fun x hx => wfI_of (w6 x hx)) 1048576 (by decide) (by decide)
  refine Ev.bind e1 ?_
  by_cases c1 : r < 0
  · simp only [if_pos c1]; exact Ev.now _
  simp only [if_neg c1]
  obtain ⟨⟨u1, u2, u3, u4, _⟩, ⟨hl, hx⟩, _⟩ := e4 (by omega)
  have hx' : ∀ x ∈ l.map cvI, SzI x := fun x hx0 => by obtain ⟨y, hy, rfl⟩ := List.mem_map.1 hx0; exact hx y hy
  have hl' : (l.map cvI).length ≤ 100000000 := by rw [List.length_map]; omega
  have tg := toG s h p t q b now l hl hx
  obtain ⟨⟨n, ok⟩, k1, k2⟩ := keptfor_both s h p t q b now (l.map cvI) a1 (by omega) (by omega) (by omega) (by omega) hl' hx'
  refine Ev.bind tg (Ev.bind k1 (Ev.bind tg (Ev.bind k2 ?_)))
  simp only [if_true, bne_self_eq_false]
  refine Ev.step (fun k => by simp only [laws_FnExactKeptFor.j0]; rw [if_neg (by simp)]) (Ev.bind tg (Ev.bind (eqG s h p t q b now (l.map cvI) hl' hx') ?_))
  exact Ev.congr (f := fun _ => some true) (fun k => rfl) (Ev.now _)
end Go.Proofs.YtlmnmakkojgfnaaGreatDoor.Pure
