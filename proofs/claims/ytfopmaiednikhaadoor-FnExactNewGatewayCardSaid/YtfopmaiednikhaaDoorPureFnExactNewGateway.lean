/- The pure part of the law of NewGateway: both programs tell of the same addresses that they are good. -/
import Derived.Test.YtfopmaiednikhaaDoorPFnExactNewGatewayx7
namespace Go.Proofs.YtfopmaiednikhaaDoor.Pure
open Go.RowKit Go.Proofs.YtfopmaiednikhaaDoor.PFnExactNewGateway Go.Proofs.YtfopmaiednikhaaDoorW.PrintWords Go.Proofs.YtfopmaiednikhaaDoorW.PrintLast Go.Proofs.YtfopmaiednikhaaDoorW.PrintMore Go.Proofs.YtfopmaiednikhaaDoorOwn
set_option linter.unusedVariables false
set_option linter.unusedSimpArgs false

theorem getD_at {α : Type} {l : List α} {j : Nat} (h : j < l.length) (z : α) : l.getD j z = l[j] := by
  rw [List.getD_eq_getElem?_getD, List.getElem?_eq_getElem h]; rfl
def sgn17 : ByteArray := ⟨#[45, 46, 95, 126, 33, 36, 38, 39, 40, 41, 42, 43, 44, 59, 61, 58, 64]⟩
def sgn13 : ByteArray := ⟨#[33, 36, 38, 39, 40, 41, 42, 43, 44, 59, 61, 58, 64]⟩
def free3 (x1 : ByteArray) (c : Int) : Option Bool := (spec_l1Free.f c).bind fun t => if t = true then some true else (spec_l1Has.f 20 sgn13 c).bind fun u => if u = true then some true else spec_l1Has.f 20 x1 c
structure Oth (x1 : ByteArray) : Prop where
  eq : ∀ c : Fin 256, impl_isAmong.f (c.val : Int) (sgn17 ++ x1) = free3 x1 (c.val : Int)
  is : ∀ c : Fin 256, (free3 x1 (c.val : Int)).isSome = true
  no : free3 x1 37 = some false
  sz : x1.size ≤ 2
theorem oth1 : Oth (⟨#[47]⟩ : ByteArray) := ⟨by decide +kernel, by decide +kernel, by decide +kernel, by decide⟩
theorem oth2 : Oth (⟨#[47, 63]⟩ : ByteArray) := ⟨by decide +kernel, by decide +kernel, by decide +kernel, by decide⟩
theorem hex_fin : ∀ c : Fin 256, impl_hexValue.f (c.val : Int) = spec_l1Hex.f 1 (c.val : Int) ∧ (spec_l1Hex.f 1 (c.val : Int)).isSome = true := by decide +kernel
theorem host_fin : ∀ c : Fin 256, impl_GoodUrl_1.f (c.val : Int) = ((spec_l1Letter.f (c.val : Int)).bind fun t => if t = true then some true else (spec_l1Digit.f (c.val : Int)).bind fun u => if u = true then some true else if (c.val : Int) = 45 then some true else if (c.val : Int) = 46 then some true else some false) ∧ (impl_GoodUrl_1.f (c.val : Int)).isSome = true := by decide +kernel
theorem fin_of (s : ByteArray) (i : Int) : ∃ c : Fin 256, bt s i = (c.val : Int) := by
  have h := bt_range s i
  exact ⟨⟨(bt s i).toNat, by omega⟩, by simp only; omega⟩
theorem bt_ext (s : ByteArray) (i j : Nat) (h : i + j < s.size) : bt (s.extract i s.size) (j : Int) = bt s ((i + j : Nat) : Int) := by
  have h1 : j < (s.extract i s.size).size := by rw [ByteArray.size_extract]; omega
  unfold bt
  rw [dif_pos (show ((j : Nat) : Int).toNat < _ by rw [Int.toNat_natCast]; exact h1), dif_pos (show ((i + j : Nat) : Int).toNat < _ by rw [Int.toNat_natCast]; exact h)]
  simp only [Int.toNat_natCast, ByteArray.getElem_extract]
theorem hex_rng : ∀ c : Fin 256, -1 ≤ (spec_l1Hex.f 1 (c.val : Int)).getD 0 ∧ (spec_l1Hex.f 1 (c.val : Int)).getD 0 ≤ 15 := by decide +kernel
theorem hexE (c : Fin 256) : ∃ v, impl_hexValue.f (c.val : Int) = some v ∧ Ev (fun k => spec_l1Hex.f k (c.val : Int)) v ∧ -1 ≤ v ∧ v ≤ 15 := by
  obtain ⟨h1, h2⟩ := hex_fin c
  obtain ⟨v, hv⟩ := Option.isSome_iff_exists.mp h2
  have h3 := hex_rng c
  rw [hv] at h3
  exact ⟨v, h1.trans hv, Ev.of (fun k => spec_l1Hex.mono _ _) hv, h3.1, h3.2⟩
theorem w2 {i n : Nat} (h : i ≤ n) (hn : n ≤ 1125899906842624) (j : Nat) (hj : j ≤ 3) : wrap64 ((i : Int) + (j : Int)) = ((i + j : Nat) : Int) := by unfold wrap64; omega
theorem pct (x0 : ByteArray) (hz : x0.size ≤ 1125899906842624) (i : Nat) (hi : i < x0.size) (h37 : bt x0 (i : Int) = 37) :
    ∃ n b v, Ev (fun k => impl_percent.f k (x0.extract i x0.size)) (n, b) ∧ Ev (fun k => spec_l1Byte.f k x0 (i : Int)) v ∧ (b = true → 0 ≤ v ∧ i + 2 < x0.size) ∧ (b = false → v < 0) := by
  have hs : (x0.extract i x0.size).size = x0.size - i := by rw [ByteArray.size_extract]; omega
  have w12 : wrap64 ((i : Int) + 2) = ((i + 2 : Nat) : Int) := w2 (Nat.le_of_lt hi) hz 2 (by omega)
  have w11 : wrap64 ((i : Int) + 1) = ((i + 1 : Nat) : Int) := w2 (Nat.le_of_lt hi) hz 1 (by omega)
  have jt : ∀ y, Ev (fun k => impl_percent.j0 k y true) (0, false) := fun y => Ev.step (f := fun _ => some (0, false)) (fun k => by simp only [impl_percent.j0, if_true]) (Ev.now _)
  by_cases c3 : x0.size - i < 3
  · refine ⟨0, false, -1, ?_, ?_, by simp, by simp⟩
    · refine Ev.congr (f := fun k => impl_percent.j0 k (x0.extract i x0.size) true) (fun k => ?_) (jt _)
      unfold impl_percent.f
      rw [if_pos (by omega)]
    · refine Ev.congr (f := fun k => spec_l1Byte.j0 k x0 (i : Int) true) (fun k => ?_) (Ev.step (f := fun _ => some (-1)) (fun k => by simp only [spec_l1Byte.j0, if_true]) (Ev.now _))
      unfold spec_l1Byte.f
      rw [w12, if_pos (by omega)]
  · obtain ⟨c1, e1⟩ := fin_of x0 ((i + 1 : Nat) : Int)
    obtain ⟨c2, e2⟩ := fin_of x0 ((i + 2 : Nat) : Int)
    obtain ⟨v1, a1, b1, l1, u1⟩ := hexE c1
    obtain ⟨v2, a2, b2, l2, u2⟩ := hexE c2
    have f0 : bt (x0.extract i x0.size) 0 = 37 := by have := bt_ext x0 i 0 (by omega); simp only [Nat.add_zero] at this; exact this.trans h37
    have f1 : bt (x0.extract i x0.size) 1 = (c1.val : Int) := (bt_ext x0 i 1 (by omega)).trans e1
    have f2 : bt (x0.extract i x0.size) 2 = (c2.val : Int) := (bt_ext x0 i 2 (by omega)).trans e2
    have hI : ∀ k, impl_percent.f k (x0.extract i x0.size) = if v1 < 0 then impl_percent.j0 k (x0.extract i x0.size) true else impl_percent.j0 k (x0.extract i x0.size) (decide (v2 < 0)) := by
      intro k
      unfold impl_percent.f
      rw [if_neg (by omega), if_pos (by omega), f0, if_pos rfl, if_pos (by omega), f1, a1, if_pos (by omega), f2, a2]
      rfl
    have hJ : Ev (fun k => impl_percent.j0 k (x0.extract i x0.size) false) ((Go.bits .or .i64 (wrap64 (v1 * 16)) v2) % 256, true) := Ev.step (f := fun _ => some ((Go.bits .or .i64 (wrap64 (v1 * 16)) v2) % 256, true)) (fun k => by
      simp only [impl_percent.j0]
      rw [if_neg (by simp), if_pos (by omega), f1, a1]
      simp only [Option.bind_some]
      rw [if_pos (by omega), f2, a2]
      rfl) (Ev.now _)
    have hS : ∀ v, Ev (fun k => if v1 < 0 then some (-1) else if v2 < 0 then some (-1) else some (wrap64 ((wrap64 (16 * v1)) + v2))) v → Ev (fun k => spec_l1Byte.f k x0 (i : Int)) v := by
      intro v h
      refine Ev.congr (f := fun k => spec_l1Byte.j0 k x0 (i : Int) false) (fun k => ?_) (Ev.step (fun k => by
        simp only [spec_l1Byte.j0]
        rw [if_neg (by simp), w11, w12, if_pos (by omega), if_pos (by omega), e1]) (Ev.bind b1 ?_))
      · unfold spec_l1Byte.f
        rw [w12, if_neg (by omega), if_pos (by omega), if_pos (by omega), h37]
        rfl
      · simp only [if_pos (show (0 : Int) ≤ ((i + 2 : Nat) : Int) by omega), if_pos (show ((i + 2 : Nat) : Int) < (x0.size : Int) by omega), e2]
        exact Ev.bind b2 h
    by_cases n1 : v1 < 0
    · refine ⟨0, false, -1, Ev.congr (fun k => by rw [hI, if_pos n1]) (jt _), hS _ (Ev.congr (fun k => by rw [if_pos n1]) (Ev.now _)), by simp, by simp⟩
    by_cases n2 : v2 < 0
    · refine ⟨0, false, -1, Ev.congr (fun k => by rw [hI, if_neg n1, decide_eq_true n2]) (jt _), hS _ (Ev.congr (fun k => by rw [if_neg n1, if_pos n2]) (Ev.now _)), by simp, by simp⟩
    refine ⟨_, true, _, Ev.congr (fun k => by rw [hI, if_neg n1, decide_eq_false n2]) hJ, hS _ (Ev.congr (fun k => by rw [if_neg n1, if_neg n2]) (Ev.now _)), fun _ => ⟨?_, by omega⟩, by simp⟩
    unfold wrap64; omega

theorem oth_bits {x1 : ByteArray} (O : Oth x1) (c : Fin 256) : ∃ b, impl_isAmong.f (c.val : Int) (sgn17 ++ x1) = some b ∧ free3 x1 (c.val : Int) = some b := by
  obtain ⟨b, hb⟩ := Option.isSome_iff_exists.mp (O.is c)
  exact ⟨b, (O.eq c).trans hb, hb⟩
theorem spec_step {x0 x1 : ByteArray} {i : Nat} {c : Fin 256} {b : Bool} (hi : i < x0.size) (hc : bt x0 (i : Int) = (c.val : Int)) (hb : free3 x1 (c.val : Int) = some b) {r : Bool} (h : Ev (fun k => spec_l1Chars.j1 k x0 x1 (i : Int) b) r) :
    Ev (fun k => spec_l1Chars.l0 k x0 x1 (i : Int)) r := by
  refine Ev.step (f := fun k => (spec_l1Free.f (c.val : Int)).bind fun t110 => (if t110 = true then (spec_l1Chars.j1 k x0 x1 (i : Int) true) else ((spec_l1Has.f k sgn13 (c.val : Int)).bind fun t111 => (if t111 = true then (spec_l1Chars.j1 k x0 x1 (i : Int) true) else ((spec_l1Has.f k x1 (c.val : Int)).bind fun t112 => (spec_l1Chars.j1 k x0 x1 (i : Int) t112)))))) (fun k => ?_) ?_
  · simp only [spec_l1Chars.l0]
    rw [if_pos (by omega), if_pos (by omega), hc]
    rfl
  · unfold free3 at hb
    obtain ⟨t, ht, hb⟩ := Option.bind_eq_some_iff.mp hb
    rw [ht]
    simp only [Option.bind_some]
    by_cases c1 : t = true
    · rw [if_pos c1] at hb
      obtain rfl := Option.some.inj hb
      exact Ev.congr (fun k => by rw [if_pos c1]) h
    · rw [if_neg c1] at hb
      simp only [if_neg c1]
      obtain ⟨u, hu, hb⟩ := Option.bind_eq_some_iff.mp hb
      refine Ev.bind (Ev.of (fun k => spec_l1Has.mono _ _ _) hu) ?_
      by_cases c2 : u = true
      · rw [if_pos c2] at hb
        obtain rfl := Option.some.inj hb
        exact Ev.congr (fun k => by rw [if_pos c2]) h
      · rw [if_neg c2] at hb
        simp only [if_neg c2]
        exact Ev.bind (Ev.of (fun k => spec_l1Has.mono _ _ _) hb) h
theorem byte_no {x0 : ByteArray} {i : Nat} (hi : i < x0.size) (h37 : ¬ bt x0 (i : Int) = 37) : Ev (fun k => spec_l1Byte.f k x0 (i : Int)) (-1) := by
  refine Ev.congr (f := fun k => spec_l1Byte.j0 k x0 (i : Int) true) (fun k => ?_) (Ev.step (f := fun _ => some (-1)) (fun k => by simp only [spec_l1Byte.j0, if_true]) (Ev.now _))
  unfold spec_l1Byte.f
  by_cases c : wrap64 ((i : Int) + 2) ≥ (x0.size : Int)
  · rw [if_pos c]
  · rw [if_neg c, if_pos (by omega), if_pos (by omega), bne_iff_ne.mpr h37]
theorem chars_both {x1 : ByteArray} (O : Oth x1) (x0 : ByteArray) (hz : x0.size ≤ 1125899906842624) : ∀ (d i : Nat), x0.size - i ≤ d → i ≤ x0.size →
    ∃ r, Ev (fun k => spec_l1Chars.l0 k x0 x1 (i : Int)) r ∧ Ev (fun k => impl_arePchars.l0 k x0 x1 (i : Int)) r := by
  intro d
  induction d with
  | zero =>
    intro i hd hi
    exact ⟨true, Ev.step (f := fun _ => some true) (fun k => by simp only [spec_l1Chars.l0]; rw [if_neg (by omega)]) (Ev.now _), Ev.step (f := fun _ => some true) (fun k => by simp only [impl_arePchars.l0]; rw [if_neg (by omega)]) (Ev.now _)⟩
  | succ d ih =>
    intro i hd hi
    by_cases hlt : i < x0.size
    rotate_left
    · exact ⟨true, Ev.step (f := fun _ => some true) (fun k => by simp only [spec_l1Chars.l0]; rw [if_neg (by omega)]) (Ev.now _), Ev.step (f := fun _ => some true) (fun k => by simp only [impl_arePchars.l0]; rw [if_neg (by omega)]) (Ev.now _)⟩
    obtain ⟨c, hc⟩ := fin_of x0 (i : Int)
    obtain ⟨b, hb1, hb2⟩ := oth_bits O c
    have w1 : wrap64 ((i : Int) + 1) = ((i + 1 : Nat) : Int) := w2 hi hz 1 (by omega)
    have w3 : wrap64 ((wrap64 ((i : Int) + 2)) + 1) = ((i + 3 : Nat) : Int) := by unfold wrap64; omega
    by_cases h37 : bt x0 (i : Int) = 37
    · have hb : b = false := by
        have h0 : (c.val : Int) = 37 := hc.symm.trans h37
        rw [h0, O.no] at hb2
        exact (Option.some.inj hb2).symm
      subst hb
      obtain ⟨n, q, v, p1, p2, p3, p4⟩ := pct x0 hz i hlt h37
      have hI : ∀ r, Ev (fun k => if q = true then impl_arePchars.l0 k x0 x1 ((i + 3 : Nat) : Int) else some false) r → Ev (fun k => impl_arePchars.l0 k x0 x1 (i : Int)) r := by
        intro r h
        refine Ev.step (f := fun k => (impl_percent.f k (x0.extract i x0.size)).bind fun bt147 => if bt147.2 = true then impl_arePchars.l0 k x0 x1 ((i + 3 : Nat) : Int) else some false) (fun k => ?_) (Ev.bind p1 h)
        simp only [impl_arePchars.l0]
        rw [if_pos (by omega), if_pos (by omega), if_pos h37, if_pos (by omega), w3]
        rfl
      have hS : ∀ r, Ev (fun k => if v < 0 then some false else spec_l1Chars.l0 k x0 x1 ((i + 3 : Nat) : Int)) r → Ev (fun k => spec_l1Chars.l0 k x0 x1 (i : Int)) r := by
        intro r h
        refine spec_step hlt hc hb2 (Ev.step (f := fun k => (spec_l1Byte.f k x0 (i : Int)).bind fun t113 => if t113 < 0 then some false else spec_l1Chars.l0 k x0 x1 ((i + 3 : Nat) : Int)) (fun k => ?_) (Ev.bind p2 h))
        simp only [spec_l1Chars.j1]
        rw [if_neg (by simp), w3]
      cases q with
      | true =>
        obtain ⟨r, r1, r2⟩ := ih (i + 3) (by omega) (by have := p3 rfl; omega)
        exact ⟨r, hS r (Ev.congr (fun k => by rw [if_neg (by have := p3 rfl; omega)]) r1), hI r (Ev.congr (fun k => by rw [if_pos rfl]) r2)⟩
      | false => exact ⟨false, hS _ (Ev.congr (fun k => by rw [if_pos (p4 rfl)]) (Ev.now _)), hI _ (Ev.congr (fun k => by rw [if_neg (by simp)]) (Ev.now _))⟩
    · have hI : ∀ r, Ev (fun k => if b = true then impl_arePchars.l0 k x0 x1 ((i + 1 : Nat) : Int) else some false) r → Ev (fun k => impl_arePchars.l0 k x0 x1 (i : Int)) r := by
        intro r h
        refine Ev.step (fun k => ?_) h
        simp only [impl_arePchars.l0]
        rw [if_pos (by omega), if_pos (by omega), if_neg h37, if_pos (by have := O.sz; omega), w1, hc]
        rw [show (⟨#[45, 46, 95, 126, 33, 36, 38, 39, 40, 41, 42, 43, 44, 59, 61, 58, 64]⟩ : ByteArray) = sgn17 from rfl, hb1]
        rfl
      cases b with
      | true =>
        obtain ⟨r, r1, r2⟩ := ih (i + 1) (by omega) (by omega)
        refine ⟨r, spec_step hlt hc hb2 (Ev.step (fun k => ?_) r1), hI r (Ev.congr (fun k => by rw [if_pos rfl]) r2)⟩
        simp only [spec_l1Chars.j1]
        rw [if_pos trivial, w1]
      | false =>
        refine ⟨false, spec_step hlt hc hb2 (Ev.step (f := fun k => (spec_l1Byte.f k x0 (i : Int)).bind fun t113 => if t113 < 0 then some false else spec_l1Chars.l0 k x0 x1 ((i + 3 : Nat) : Int)) (fun k => ?_) (Ev.bind (byte_no hlt h37) ?_)), hI _ (Ev.congr (fun k => by rw [if_neg (by simp)]) (Ev.now _))⟩
        · simp only [spec_l1Chars.j1]
          rw [if_neg (by simp), w3]
        · exact Ev.congr (fun k => by rw [if_pos (by decide)]) (Ev.now _)
theorem Chars_both {x1 : ByteArray} (O : Oth x1) (x0 : ByteArray) (hz : x0.size ≤ 1125899906842624) : ∃ r, Ev (fun k => spec_l1Chars.f k x0 x1) r ∧ Ev (fun k => impl_arePchars.f k x0 x1) r :=
  chars_both O x0 hz x0.size 0 (by omega) (by omega)

def hostB (c : Int) : Bool := (impl_GoodUrl_1.f c).getD false
theorem hostB_is (c : Fin 256) : impl_GoodUrl_1.f (c.val : Int) = some (hostB (c.val : Int)) := by
  obtain ⟨b, hb⟩ := Option.isSome_iff_exists.mp (host_fin c).2
  unfold hostB; rw [hb]; rfl
theorem bytes_fin (s : ByteArray) : ∀ x ∈ bytesOf s, ∃ c : Fin 256, x = (c.val : Int) := by
  intro x hx
  unfold bytesOf at hx
  obtain ⟨u, _, rfl⟩ := List.mem_map.mp hx
  exact ⟨⟨u.toNat, u.toNat_lt⟩, rfl⟩
theorem host_impl (s : ByteArray) (hz : s.size ≤ 1125899906842624) : impl_areBytes_87.f s = some ((bytesOf s).all hostB) := by
  unfold impl_areBytes_87.f
  rw [if_pos (by omega)]
  exact allO_all' (bytesOf s) (fun x hx => by obtain ⟨c, rfl⟩ := bytes_fin s x hx; exact hostB_is c)
theorem host_loop (s : ByteArray) (hz : s.size ≤ 1125899906842624) : ∀ (d i : Nat), s.size - i ≤ d → i ≤ s.size →
    Ev (fun k => spec_l1Host.l0 k s (i : Int)) (((bytesOf s).drop i).all hostB && (decide ((s.size : Int) ≥ 1) && decide ((s.size : Int) ≤ 60))) := by
  have fin : ∀ i : Nat, ¬ i < s.size → i ≤ s.size → Ev (fun k => spec_l1Host.l0 k s (i : Int)) (((bytesOf s).drop i).all hostB && (decide ((s.size : Int) ≥ 1) && decide ((s.size : Int) ≤ 60))) := by
    intro i hn hi
    rw [List.drop_of_length_le (by rw [bytesOf_length]; omega)]
    refine Ev.step (f := fun _ => some (decide ((s.size : Int) ≥ 1) && decide ((s.size : Int) ≤ 60))) (fun k => ?_) (Ev.now _)
    simp only [spec_l1Host.l0]
    rw [if_neg (by omega)]
    unfold spec_l1In.f
    by_cases c : (s.size : Int) ≥ 1
    · rw [if_pos c, decide_eq_true c]; rfl
    · rw [if_neg c, decide_eq_false c]; rfl
  intro d
  induction d with
  | zero => intro i hd hi; exact fin i (by omega) hi
  | succ d ih =>
    intro i hd hi
    by_cases hlt : i < s.size
    rotate_left
    · exact fin i hlt hi
    obtain ⟨c, hc⟩ := fin_of s (i : Int)
    have w1 : wrap64 ((i : Int) + 1) = ((i + 1 : Nat) : Int) := w2 hi hz 1 (by omega)
    have hl : i < (bytesOf s).length := by rw [bytesOf_length]; exact hlt
    have hd' : (bytesOf s).drop i = (c.val : Int) :: (bytesOf s).drop (i + 1) := by
      rw [List.drop_eq_getElem_cons hl]
      congr 1
      rw [← getD_at hl 0]
      exact (rd_bytesOf s (i : Int)).trans hc
    have hb := (hostB_is c).symm.trans (host_fin c).1
    have go := ih (i + 1) (by omega) (by omega)
    rw [hd', List.all_cons]
    have hS : ∀ k, spec_l1Host.l0 (k + 1) s (i : Int) = (spec_l1Letter.f (c.val : Int)).bind fun t103 => (if t103 = true then (spec_l1Host.l0 k s ((i + 1 : Nat) : Int)) else ((spec_l1Digit.f (c.val : Int)).bind fun t104 => (if t104 = true then (spec_l1Host.l0 k s ((i + 1 : Nat) : Int)) else (if (c.val : Int) = 45 then (spec_l1Host.l0 k s ((i + 1 : Nat) : Int)) else (if (c.val : Int) = 46 then (spec_l1Host.l0 k s ((i + 1 : Nat) : Int)) else (some false)))))) := by
      intro k
      simp only [spec_l1Host.l0]
      rw [if_pos (by omega), if_pos (by omega), hc, w1]
    refine Ev.step hS ?_
    obtain ⟨t, ht, hb⟩ := Option.bind_eq_some_iff.mp hb.symm
    rw [ht]
    simp only [Option.bind_some]
    by_cases c1 : t = true
    · rw [if_pos c1] at hb
      rw [← Option.some.inj hb]
      exact Ev.congr (fun k => by rw [if_pos c1]) go
    rw [if_neg c1] at hb
    simp only [if_neg c1]
    obtain ⟨u, hu, hb⟩ := Option.bind_eq_some_iff.mp hb
    rw [hu]
    simp only [Option.bind_some]
    by_cases c2 : u = true
    · rw [if_pos c2] at hb
      rw [← Option.some.inj hb]
      exact Ev.congr (fun k => by rw [if_pos c2]) go
    rw [if_neg c2] at hb
    simp only [if_neg c2]
    by_cases c3 : (c.val : Int) = 45
    · rw [if_pos c3] at hb
      rw [← Option.some.inj hb]
      exact Ev.congr (fun k => by rw [if_pos c3]) go
    rw [if_neg c3] at hb
    simp only [if_neg c3]
    by_cases c4 : (c.val : Int) = 46
    · rw [if_pos c4] at hb
      rw [← Option.some.inj hb]
      exact Ev.congr (fun k => by rw [if_pos c4]) go
    rw [if_neg c4] at hb
    simp only [if_neg c4]
    rw [← Option.some.inj hb]
    exact Ev.now _
theorem host_spec (s : ByteArray) (hz : s.size ≤ 1125899906842624) : Ev (fun k => spec_l1Host.f k s) ((bytesOf s).all hostB && (decide ((s.size : Int) ≥ 1) && decide ((s.size : Int) ≤ 60))) := by
  have h := host_loop s hz s.size 0 (by omega) (by omega)
  rw [List.drop_zero] at h
  exact h
theorem nDigits_le (n : Nat) : Lib.nDigits n ≤ n + 1 := by
  induction n using Nat.strongRecOn with
  | _ n ih =>
    rw [Lib.nDigits]
    split
    · omega
    · have := ih (n / 10) (by omega)
      omega
theorem num_size (n : Nat) (hn : n ≤ 1000000) : ∃ t : ByteArray, Ev (fun k => spec_l1Num.f k (n : Int)) t ∧ t.size = Lib.nDigits n := by
  induction n using Nat.strongRecOn with
  | _ n ih =>
    by_cases c : n < 10
    · refine ⟨_, Ev.step (f := fun _ => some (strOfNums (([(wrap64 (48 + (n : Int))) % 256] : List Int)))) (fun k => ?_) (Ev.now _), ?_⟩
      · simp only [spec_l1Num.f]; rw [if_pos (by omega)]
      · rw [Lib.nDigits, dif_pos c]; rfl
    · obtain ⟨t, h1, h2⟩ := ih (n / 10) (by omega) (by omega)
      have hq : wrap64 (Int.tdiv (n : Int) 10) = ((n / 10 : Nat) : Int) := by
        rw [show Int.tdiv (n : Int) 10 = ((n / 10 : Nat) : Int) from by rw [Int.tdiv_eq_ediv_of_nonneg (by omega)]; omega]
        unfold wrap64; omega
      have hd := nDigits_le (n / 10)
      refine ⟨t ++ strOfNums ([(wrap64 (48 + (Int.tmod (n : Int) 10))) % 256] : List Int), Ev.step (f := fun k => (spec_l1Num.f k ((n / 10 : Nat) : Int)).bind fun t117 => ((some (([(wrap64 (48 + (Int.tmod (n : Int) 10))) % 256] : List Int) : List Int)).bind fun y118 => (if t117.size + (strOfNums y118).size ≤ 9223372036854775807 then (some (t117 ++ (strOfNums y118))) else (none)))) (fun k => ?_) (Ev.bind h1 ?_), ?_⟩
      · simp only [spec_l1Num.f]
        rw [if_neg (by omega), hq]
      · simp only [Option.bind_some]
        refine Ev.congr (fun k => ?_) (Ev.now _)
        rw [if_pos]
        show t.size + 1 ≤ _
        omega
      · rw [ByteArray.size_append, h2, Lib.nDigits.eq_def n, dif_neg c]; rfl

def txt (a0_0 : ByteArray) (a0_1 : ByteArray) (a0_2 : Int) (a0_3 : ByteArray) (a0_4 : ByteArray) (a0_5 : Bool) (num : Option ByteArray) : Option ByteArray := if a0_0.size + 3 ≤ 9223372036854775807 then (if (a0_0 ++ (⟨#[58, 47, 47]⟩ : ByteArray)).size + a0_1.size ≤ 9223372036854775807 then (if a0_2 = 0 then (if ((a0_0 ++ (⟨#[58, 47, 47]⟩ : ByteArray)) ++ a0_1).size + a0_3.size ≤ 9223372036854775807 then (if a0_5 = true then (if 1 + a0_4.size ≤ 9223372036854775807 then (if (((a0_0 ++ (⟨#[58, 47, 47]⟩ : ByteArray)) ++ a0_1) ++ a0_3).size + ((⟨#[63]⟩ : ByteArray) ++ a0_4).size ≤ 9223372036854775807 then (some ((((a0_0 ++ (⟨#[58, 47, 47]⟩ : ByteArray)) ++ a0_1) ++ a0_3) ++ ((⟨#[63]⟩ : ByteArray) ++ a0_4))) else (none)) else (none)) else (some (((a0_0 ++ (⟨#[58, 47, 47]⟩ : ByteArray)) ++ a0_1) ++ a0_3))) else (none)) else ((num).bind fun t151 => (if 1 + t151.size ≤ 9223372036854775807 then (if ((a0_0 ++ (⟨#[58, 47, 47]⟩ : ByteArray)) ++ a0_1).size + ((⟨#[58]⟩ : ByteArray) ++ t151).size ≤ 9223372036854775807 then (if (((a0_0 ++ (⟨#[58, 47, 47]⟩ : ByteArray)) ++ a0_1) ++ ((⟨#[58]⟩ : ByteArray) ++ t151)).size + a0_3.size ≤ 9223372036854775807 then (if a0_5 = true then (if 1 + a0_4.size ≤ 9223372036854775807 then (if ((((a0_0 ++ (⟨#[58, 47, 47]⟩ : ByteArray)) ++ a0_1) ++ ((⟨#[58]⟩ : ByteArray) ++ t151)) ++ a0_3).size + ((⟨#[63]⟩ : ByteArray) ++ a0_4).size ≤ 9223372036854775807 then (some (((((a0_0 ++ (⟨#[58, 47, 47]⟩ : ByteArray)) ++ a0_1) ++ ((⟨#[58]⟩ : ByteArray) ++ t151)) ++ a0_3) ++ ((⟨#[63]⟩ : ByteArray) ++ a0_4))) else (none)) else (none)) else (some ((((a0_0 ++ (⟨#[58, 47, 47]⟩ : ByteArray)) ++ a0_1) ++ ((⟨#[58]⟩ : ByteArray) ++ t151)) ++ a0_3))) else (none)) else (none)) else (none)))) else (none)) else (none)
def txtV (s h : ByteArray) (p : Int) (t q : ByteArray) (b : Bool) (u : ByteArray) : ByteArray :=
  if b = true then (((if p = 0 then (s ++ ⟨#[58, 47, 47]⟩) ++ h else ((s ++ ⟨#[58, 47, 47]⟩) ++ h) ++ (⟨#[58]⟩ ++ u)) ++ t) ++ (⟨#[63]⟩ ++ q)) else ((if p = 0 then (s ++ ⟨#[58, 47, 47]⟩) ++ h else ((s ++ ⟨#[58, 47, 47]⟩) ++ h) ++ (⟨#[58]⟩ ++ u)) ++ t)
theorem txt_val (s h : ByteArray) (p : Int) (t q : ByteArray) (b : Bool) (u : ByteArray) (hs : s.size ≤ 1125899906842624) (hh : h.size ≤ 1125899906842624) (ht : t.size ≤ 1125899906842624) (hq : q.size ≤ 1125899906842624) (hu : u.size ≤ 1125899906842624) :
    txt s h p t q b (some u) = some (txtV s h p t q b u) := by
  have e3 : (⟨#[58, 47, 47]⟩ : ByteArray).size = 3 := rfl
  have e1 : (⟨#[58]⟩ : ByteArray).size = 1 := rfl
  have e2 : (⟨#[63]⟩ : ByteArray).size = 1 := rfl
  unfold txt txtV
  by_cases c0 : p = 0
  · cases b with
    | true => rw [if_pos (by omega), if_pos (by simp only [ByteArray.size_append]; omega), if_pos c0, if_pos (by simp only [ByteArray.size_append]; omega), if_pos rfl, if_pos (by omega), if_pos (by simp only [ByteArray.size_append]; omega), if_pos rfl, if_pos c0]
    | false => rw [if_pos (by omega), if_pos (by simp only [ByteArray.size_append]; omega), if_pos c0, if_pos (by simp only [ByteArray.size_append]; omega), if_neg (by simp), if_neg (by simp), if_pos c0]
  · cases b with
    | true =>
      rw [if_pos (by omega), if_pos (by simp only [ByteArray.size_append]; omega), if_neg c0, Option.bind_some, if_pos (by omega), if_pos (by simp only [ByteArray.size_append]; omega), if_pos (by simp only [ByteArray.size_append]; omega), if_pos rfl, if_pos (by omega), if_pos (by simp only [ByteArray.size_append]; omega), if_pos rfl, if_neg c0]
    | false =>
      rw [if_pos (by omega), if_pos (by simp only [ByteArray.size_append]; omega), if_neg c0, Option.bind_some, if_pos (by omega), if_pos (by simp only [ByteArray.size_append]; omega), if_pos (by simp only [ByteArray.size_append]; omega), if_neg (by simp), if_neg (by simp), if_neg c0]
theorem txtV_size (s h : ByteArray) (p : Int) (t q : ByteArray) (b : Bool) (u v : ByteArray) (e : u.size = v.size) : (txtV s h p t q b u).size = (txtV s h p t q b v).size := by
  unfold txtV
  by_cases c0 : p = 0 <;> cases b <;> simp [c0, ByteArray.size_append, e]
theorem Text_both (s h : ByteArray) (p : Int) (t q : ByteArray) (b : Bool) (hs : s.size ≤ 1125899906842624) (hh : h.size ≤ 1125899906842624) (ht : t.size ≤ 1125899906842624) (hq : q.size ≤ 1125899906842624) (p0 : 0 ≤ p) (p1 : p ≤ 65535) :
    ∃ x y : ByteArray, Ev (fun k => spec_l1Text.f k s h p t q b) x ∧ impl_urlText.f s h p t q b = some y ∧ x.size = y.size := by
  obtain ⟨n, rfl⟩ : ∃ n : Nat, p = (n : Int) := ⟨p.toNat, by omega⟩
  obtain ⟨u, ⟨K, hK⟩, zu⟩ := num_size n (by omega)
  have hd := nDigits_le n
  have hi : strconv_Itoa.f (n : Int) = some ⟨(Lib.itoa (n : Int)).toArray⟩ := by unfold strconv_Itoa.f; rw [if_pos ⟨by omega, by omega⟩]
  obtain ⟨v, hv⟩ : ∃ v : ByteArray, v = ⟨(Lib.itoa (n : Int)).toArray⟩ := ⟨_, rfl⟩
  have zv : v.size = Lib.nDigits n := by
    rw [hv]
    show (Lib.itoa (n : Int)).toArray.size = _
    rw [List.size_toArray]
    unfold Lib.itoa
    rw [if_neg (by omega), Int.toNat_natCast, Lib.decDigits_length]
  rw [← hv] at hi
  clear hv
  refine ⟨txtV s h n t q b u, txtV s h n t q b v, ⟨K, fun k hk => ?_⟩, ?_, txtV_size _ _ _ _ _ _ _ _ (by omega)⟩
  · show txt s h n t q b (spec_l1Num.f k n) = _
    rw [show spec_l1Num.f k (n : Int) = some u from hK k hk]
    exact txt_val s h n t q b u hs hh ht hq (by omega)
  · show txt s h n t q b (strconv_Itoa.f n) = _
    rw [hi]
    exact txt_val s h n t q b v hs hh ht hq (by omega)

theorem within_is (a lo hi : Int) : impl_within.f a lo hi = some (decide (lo ≤ a) && decide (a ≤ hi)) := by
  unfold impl_within.f
  by_cases c : lo ≤ a
  · rw [if_pos c, decide_eq_true c]; rfl
  · rw [if_neg c, decide_eq_false c]; rfl
theorem l1In_is (a lo hi : Int) : spec_l1In.f a lo hi = some (decide (lo ≤ a) && decide (a ≤ hi)) := by
  unfold spec_l1In.f
  by_cases c : a ≥ lo
  · rw [if_pos c, decide_eq_true (show lo ≤ a from c)]; rfl
  · rw [if_neg c, decide_eq_false (show ¬ lo ≤ a from c)]; rfl
theorem pre_is (t : ByteArray) : strings_HasPrefix.f t (⟨#[47]⟩ : ByteArray) = some (decide (0 < t.size) && decide (bt t 0 = 47)) := by
  unfold strings_HasPrefix.f Lib.hasPrefix
  congr 1
  rw [← rd_bytesOf, ← data_length]
  unfold bytesOf rd
  cases h : t.data.toList with
  | nil => rfl
  | cons x xs =>
    show ((47 : UInt8) == x && [].isPrefixOf xs) = _
    simp only [List.isPrefixOf, Bool.and_true, List.length_cons, Nat.zero_lt_succ, decide_true, Bool.true_and, List.map_cons, Int.toNat_zero, List.getD_cons_zero]
    by_cases c : x = 47
    · subst c; rfl
    · have h1 : ¬ (x.toNat : Int) = 47 := fun h2 => c (UInt8.toNat_inj.mp (show x.toNat = (47 : UInt8).toNat by rw [show (47 : UInt8).toNat = 47 from rfl]; omega))
      rw [decide_eq_false h1, beq_eq_false_iff_ne]
      exact fun h2 => c h2.symm
def spT (k : Nat) (s h : ByteArray) (p : Int) (t q : ByteArray) (b : Bool) : Option Bool := (spec_l1Host.f k h).bind fun t124 => (if t124 = true then ((spec_l1In.f p 0 65535).bind fun t125 => (if t125 = true then (if (t.size : Int) = 0 then (spec_GoodUrl.j0 k true s h p t q b) else (if 0 < (t.size : Int) then (spec_GoodUrl.j0 k ((bt t 0) != 47) s h p t q b) else (none))) else (spec_GoodUrl.j0 k true s h p t q b))) else (spec_GoodUrl.j0 k true s h p t q b))
def imT (k : Nat) (s h : ByteArray) (p : Int) (t q : ByteArray) (b : Bool) : Option Bool := (impl_within.f (h.size : Int) 1 60).bind fun t155 => (if t155 = true then ((impl_areBytes_87.f h).bind fun t156 => (if t156 = true then ((impl_within.f p 0 65535).bind fun t157 => (if t157 = true then ((strings_HasPrefix.f t (⟨#[47]⟩ : ByteArray)).bind fun t158 => (if t158 = true then ((impl_arePchars.f k t (⟨#[47]⟩ : ByteArray)).bind fun t159 => (if t159 = true then ((impl_arePchars.f k q (⟨#[47, 63]⟩ : ByteArray)).bind fun t160 => (if t160 = true then (if b = true then ((impl_urlText.f s h p t q b).bind fun t161 => (some (decide ((t161.size : Int) ≤ 200)))) else (if q.toList = ([] : List UInt8) then ((impl_urlText.f s h p t q b).bind fun t162 => (some (decide ((t162.size : Int) ≤ 200)))) else (some false))) else (some false))) else (some false))) else (some false))) else (some false))) else (some false))) else (some false))
theorem tail_both (s h : ByteArray) (p : Int) (t q : ByteArray) (b : Bool) (hs : s.size ≤ 1125899906842624) (hh : h.size ≤ 1125899906842624) (ht : t.size ≤ 1125899906842624) (hq : q.size ≤ 1125899906842624) :
    ∃ g, Ev (fun k => spT k s h p t q b) g ∧ Ev (fun k => imT k s h p t q b) g := by
  have noS : Ev (fun k => spec_GoodUrl.j0 k true s h p t q b) false := Ev.step (f := fun _ => some false) (fun k => by simp only [spec_GoodUrl.j0, if_true]) (Ev.now _)
  have hS := host_spec h hh
  have hI := host_impl h hh
  obtain ⟨z, hz⟩ : ∃ z, z = (decide ((1 : Int) ≤ (h.size : Int)) && decide ((h.size : Int) ≤ 60)) := ⟨_, rfl⟩
  obtain ⟨pr, hp⟩ : ∃ z, z = (decide ((0 : Int) ≤ p) && decide (p ≤ 65535)) := ⟨_, rfl⟩
  obtain ⟨pf, hf⟩ : ∃ z, z = (decide (0 < t.size) && decide (bt t 0 = 47)) := ⟨_, rfl⟩
  have hS' : Ev (fun k => spec_l1Host.f k h) ((bytesOf h).all hostB && z) := by rw [hz]; exact hS
  generalize (bytesOf h).all hostB = hb at hS' hI
  unfold spT imT
  simp only [within_is, l1In_is, pre_is, hI, Option.bind_some, ← hz, ← hp, ← hf]
  by_cases cz : z = true
  rotate_left
  · refine ⟨false, Ev.bind hS' ?_, Ev.congr (fun k => by rw [if_neg cz]) (Ev.now _)⟩
    simp only [if_neg (show ¬ (hb && z) = true by simp [cz])]
    exact noS
  simp only [if_pos cz]
  by_cases cb : hb = true
  rotate_left
  · refine ⟨false, Ev.bind hS' ?_, Ev.congr (fun k => by rw [if_neg cb]) (Ev.now _)⟩
    simp only [if_neg (show ¬ (hb && z) = true by simp [cb])]
    exact noS
  simp only [if_pos cb]
  by_cases cp : pr = true
  rotate_left
  · refine ⟨false, Ev.bind hS' ?_, Ev.congr (fun k => by rw [if_neg cp]) (Ev.now _)⟩
    simp only [if_pos (show (hb && z) = true by simp [cb, cz]), if_neg cp]
    exact noS
  simp only [if_pos cp]
  have pp : 0 ≤ p ∧ p ≤ 65535 := by rw [hp] at cp; simpa using cp
  by_cases cf : pf = true
  rotate_left
  · refine ⟨false, Ev.bind hS' ?_, Ev.congr (fun k => by rw [if_neg cf]) (Ev.now _)⟩
    simp only [if_pos (show (hb && z) = true by simp [cb, cz]), if_pos cp]
    by_cases c0 : (t.size : Int) = 0
    · simp only [if_pos c0]; exact noS
    · have hb4 : (bt t 0 != 47) = true := by
        rw [bne_iff_ne]
        intro h4
        exact cf (by rw [hf, decide_eq_true h4, decide_eq_true (by omega)]; rfl)
      simp only [if_neg c0, if_pos (show (0 : Int) < (t.size : Int) by omega), hb4]; exact noS
  simp only [if_pos cf]
  have pt : 0 < t.size ∧ bt t 0 = 47 := by rw [hf] at cf; simpa using cf
  obtain ⟨r1, c1, d1⟩ := Chars_both oth1 t ht
  obtain ⟨r2, c2, d2⟩ := Chars_both oth2 q hq
  obtain ⟨x, y, x1, y1, xy⟩ := Text_both s h p t q b hs hh ht hq pp.1 pp.2
  have up : ∀ g, Ev (fun k => (spec_l1Chars.f k t (⟨#[47]⟩ : ByteArray)).bind fun t128 => (if t128 = true then ((spec_l1Chars.f k q (⟨#[47, 63]⟩ : ByteArray)).bind fun t129 => (if t129 = true then (if b = true then ((spec_l1Text.f k s h p t q b).bind fun t130 => (some (decide ((t130.size : Int) ≤ 200)))) else (if q.toList = ([] : List UInt8) then ((spec_l1Text.f k s h p t q b).bind fun t131 => (some (decide ((t131.size : Int) ≤ 200)))) else (some false))) else (some false))) else (some false))) g →
      Ev (fun k => (spec_l1Host.f k h).bind fun t124 => if t124 = true then (if (t.size : Int) = 0 then (spec_GoodUrl.j0 k true s h p t q b) else (if 0 < (t.size : Int) then (spec_GoodUrl.j0 k ((bt t 0) != 47) s h p t q b) else (none))) else (spec_GoodUrl.j0 k true s h p t q b)) g := by
    intro g hg
    refine Ev.bind hS' ?_
    simp only [if_pos (show (hb && z) = true by simp [cb, cz]), if_neg (show ¬ (t.size : Int) = 0 by omega), if_pos (show (0 : Int) < (t.size : Int) by omega), pt.2]
    exact Ev.step (fun k => by simp only [spec_GoodUrl.j0]; rw [if_neg (by simp)]) hg
  by_cases e1 : r1 = true
  rotate_left
  · exact ⟨false, up _ (Ev.bind c1 (by simp only [if_neg e1]; exact Ev.now _)), Ev.bind d1 (by simp only [if_neg e1]; exact Ev.now _)⟩
  by_cases e2 : r2 = true
  rotate_left
  · exact ⟨false, up _ (Ev.bind c1 (by simp only [if_pos e1]; exact Ev.bind c2 (by simp only [if_neg e2]; exact Ev.now _))), Ev.bind d1 (by simp only [if_pos e1]; exact Ev.bind d2 (by simp only [if_neg e2]; exact Ev.now _))⟩
  have fin : ∃ g, Ev (fun k => if b = true then ((spec_l1Text.f k s h p t q b).bind fun t130 => (some (decide ((t130.size : Int) ≤ 200)))) else (if q.toList = ([] : List UInt8) then ((spec_l1Text.f k s h p t q b).bind fun t131 => (some (decide ((t131.size : Int) ≤ 200)))) else (some false))) g ∧
      Ev (fun k => if b = true then ((impl_urlText.f s h p t q b).bind fun t161 => (some (decide ((t161.size : Int) ≤ 200)))) else (if q.toList = ([] : List UInt8) then ((impl_urlText.f s h p t q b).bind fun t162 => (some (decide ((t162.size : Int) ≤ 200)))) else (some false))) g := by
    rw [y1]
    simp only [Option.bind_some]
    by_cases f1 : b = true
    · simp only [if_pos f1]
      exact ⟨_, Ev.bind x1 (Ev.now _), by rw [xy]; exact Ev.now _⟩
    · simp only [if_neg f1]
      by_cases f2 : q.toList = ([] : List UInt8)
      · simp only [if_pos f2]
        exact ⟨_, Ev.bind x1 (Ev.now _), by rw [xy]; exact Ev.now _⟩
      · simp only [if_neg f2]
        exact ⟨false, Ev.now _, Ev.now _⟩
  obtain ⟨g, g1, g2⟩ := fin
  exact ⟨g, up _ (Ev.bind c1 (by simp only [if_pos e1]; exact Ev.bind c2 (by simp only [if_pos e2]; exact g1))), Ev.bind d1 (by simp only [if_pos e1]; exact Ev.bind d2 (by simp only [if_pos e2]; exact g2))⟩
theorem GoodUrl_both (s h : ByteArray) (p : Int) (t q : ByteArray) (b : Bool) (hs : s.size ≤ 1125899906842624) (hh : h.size ≤ 1125899906842624) (ht : t.size ≤ 1125899906842624) (hq : q.size ≤ 1125899906842624) :
    ∃ g, Ev (fun k => spec_GoodUrl.f k s h p t q b) g ∧ Ev (fun k => impl_GoodUrl.f k s h p t q b) g := by
  have noS : Ev (fun k => spec_GoodUrl.j0 k true s h p t q b) false := Ev.step (f := fun _ => some false) (fun k => by simp only [spec_GoodUrl.j0, if_true]) (Ev.now _)
  obtain ⟨g, g1, g2⟩ := tail_both s h p t q b hs hh ht hq
  unfold spec_GoodUrl.f impl_GoodUrl.f
  by_cases c1 : s.toList = ([104, 116, 116, 112] : List UInt8)
  · simp only [if_pos c1]; exact ⟨g, g1, g2⟩
  · simp only [if_neg c1]
    by_cases c2 : s.toList = ([104, 116, 116, 112, 115] : List UInt8)
    · simp only [if_pos c2]; exact ⟨g, g1, g2⟩
    · simp only [if_neg c2]; exact ⟨false, noS, Ev.now _⟩

theorem eqUrl_same (s h : ByteArray) (p : Int) (t q : ByteArray) (b : Bool) : laws_eqUrl.f s h p t q b s h p t q b = some true := by
  unfold laws_eqUrl.f
  rw [if_pos rfl, if_pos rfl, if_pos rfl, if_pos rfl, if_pos rfl, if_neg (by cases b <;> simp)]
theorem eqGw_same (s h : ByteArray) (p : Int) (t q : ByteArray) (b : Bool) : laws_eqGateway.f s h p t q b 0 [] s h p t q b 0 [] = some true := by
  unfold laws_eqGateway.f
  rw [eqUrl_same]
  rfl
theorem markGw (s h : ByteArray) (p : Int) (t q : ByteArray) (b : Bool) : laws_markGateway.f s h p t q b 0 [] 1 = some 1 := rfl
theorem heldGw (s h : ByteArray) (p : Int) (t q : ByteArray) (b : Bool) : laws_heldGateway.f s h p t q b 0 [] 1 = some 1 := rfl
theorem FnExactNewGateway : laws_FnExactNewGateway.Pure := by
  rintro ⟨s, h, p, t, q, b⟩ ⟨hs, hh, _, ht, hq, _⟩
  have hs : s.size ≤ 140737488351232 := hs
  have hh : h.size ≤ 140737488351232 := hh
  have ht : t.size ≤ 140737488351232 := ht
  have hq : q.size ≤ 140737488351232 := hq
  obtain ⟨g, ⟨K1, g1⟩, ⟨K2, g2⟩⟩ := GoodUrl_both s h p t q b (by omega) (by omega) (by omega) (by omega)
  obtain ⟨k, hk1, hk2⟩ : ∃ k, K1 ≤ k ∧ K2 ≤ k := ⟨max K1 K2, Nat.le_max_left _ _, Nat.le_max_right _ _⟩
  have e1 : spec_GoodUrl.f k s h p t q b = some g := g1 k hk1
  have e2 : impl_GoodUrl.f k s h p t q b = some g := g2 k hk2
  obtain ⟨r, hr⟩ : ∃ r, laws_szUrl.f s h p t q b 1048576 = some r := by
    unfold laws_szUrl.f
    repeat' split
    all_goals exact ⟨_, rfl⟩
  refine ⟨k, ?_⟩
  show laws_FnExactNewGateway.f k s h p t q b = some true
  unfold laws_FnExactNewGateway.f
  rw [hr]
  simp only [Option.bind_some]
  by_cases c : r < 0
  · rw [if_pos c]
  · rw [if_neg c]
    unfold laws_toUrl.f spec_NewGateway.f impl_NewGateway.f
    simp only [Option.bind_some, e1, e2]
    cases g with
    | true => simp only [if_true, Option.bind_some, eqGw_same, markGw, heldGw]; rfl
    | false => simp only [Bool.false_eq_true, if_false, Option.bind_some, eqGw_same, markGw, heldGw]; rfl

end Go.Proofs.YtfopmaiednikhaaDoor.Pure
