-- written by a program of this session (wip/tool)
import Derived.Test.YtfopmaiednikhaaPFnExactPutEntryx0
import Derived.Test.YtfopmaiednikhaaPFnExactPutEntryx3
import Derived.Test.YtfopmaiednikhaaVOwn0
import Derived.Test.YtfopmaiednikhaaVOwnOpen
import Derived.WalkKit
import Derived.BigCall
import Derived.Lib.SliceRun
import Derived.Deep.RegionLaw
import Derived.Maps.OwnSet
import Derived.Maps.OwnOps
import Derived.Maps.Views
import Derived.Test.YtfopmaiednikhaaVWZeros
import Derived.Test.YtfopmaiednikhaaVWArr
import Derived.Test.YtfopmaiednikhaaVOwnShort
namespace Go.Proofs.Ytfopmaiednikhaa.PFnExactPutEntry
open Go.RowKit Go.Proofs.YtfopmaiednikhaaW.PrintWords Go.Proofs.YtfopmaiednikhaaW.PrintLast Go.Proofs.YtfopmaiednikhaaW.PrintMore Go.Shelf Go.Proofs.YtfopmaiednikhaaOwn
attribute [local go_sem] max2_int min2_int max_two min_two max_three min_three max_four min_four   -- for this text's walks alone
set_option linter.unusedVariables false
set_option linter.unusedSimpArgs false

/-! ### impl_fits: function 59 -/
def impl_fits.f (k : Nat) (l0 : List (S45)) (a1 : Int) : Option (Bool) := if (l0.length : Int) ≤ 60 then ((impl_weight.f k l0).bind fun t160 => (some (decide (t160 ≤ a1)))) else (some false)
theorem impl_fits.mono : ∀ a0 a1 k, LeO (impl_fits.f k a0 a1) (impl_fits.f (k + 1) a0 a1) := by
 intro a0 a1 k
 unfold impl_fits.f
 repeat' first
   | (with_reducible exact impl_weight.mono _ _)
   | (with_reducible exact LeO.refl _)
   | (with_reducible exact LeO.none _)
   | (with_reducible refine LeO.ite ?_ ?_)
   | (with_reducible refine LeO.bind ?_ (fun _ => ?_))
   | exact impl_weight.mono _ _
   | exact LeO.none _
   | refine LeO.ite ?_ ?_
   | refine LeO.bind ?_ (fun _ => ?_)
set_option maxHeartbeats 8000000 in
set_option maxRecDepth 100000 in
theorem impl_fits.calls (k : Nat) (A0 : Option Addr) (c0 : Nat) (l0 : List (S45)) (a1 : Int) (r : Bool) (w : World) (hr0 : Kd.C k45 w A0 l0.length l0) (hc0 : l0.length ≤ c0) (h : impl_fits.f k l0 a1 = some r) :
  Calls Try.prog 59 #[.slice A0 l0.length c0, .int .i64 a1] w fun e w' => e = .returned (.bool r) ∧ Below w.heap.size w w' := by
 have HR0 := Aside0.mk hr0
 have HC0 := Aside0.mk hc0
 clear hr0 hc0
 have HB := Aside0.mk (Below.refl w.heap.size w)
 have H : (if (l0.length : Int) ≤ 60 then ((impl_weight.f k l0).bind fun t160 => (some (decide (t160 ≤ a1)))) else (some false)) = some r := h
 clear h
 by_cases c3 : (l0.length : Int) ≤ 60
 ·rw [if_pos c3] at H
  have c3b0 : decide ((l0.length : Int) ≤ 60) = true := decide_eq_true c3
  have c3b1 : decide (l0.length ≤ 60) = true := decide_eq_true (by omega)
  clear c3
  replace H := Option.bind_eq_some_iff.mp H
  obtain ⟨t160, A40, H⟩ := H
  try dsimp only at H
  have A4 := Aside0.mk A40
  clear A40
  obtain rfl := Option.some.inj H
  go_enter Try.func59, Try.ntmps59
  go_wp2_with (first | (go_at_call 65; (with_reducible refine (impl_weight.calls k _ _ l0 t160 _ ?side1 ?side2 A4.out).mono ?_); (case side1 => exact kc HR0.out); (case side2 => exact HC0.out); rintro e w5 ⟨rfl, hb⟩; have n0_ := Aside0.mk (below_step (bl HB.out) hb); clear HB; have HB := n0_; clear n0_; (try clear hb); (try clear hb2); (try clear hk); (try clear hi)))
  go_ret
  exact ⟨by first | rfl | (simp [errW_none, errW_some] <;> rfl) | (simp [*, errW_none, errW_some] <;> rfl), bl HB.out⟩
 ·rw [if_neg c3] at H
  have c3b0 : decide ((l0.length : Int) ≤ 60) = false := decide_eq_false c3
  have c3b1 : decide (l0.length ≤ 60) = false := decide_eq_false (by omega)
  clear c3
  obtain rfl := Option.some.inj H
  go_enter Try.func59, Try.ntmps59
  go_wp2
  go_ret
  exact ⟨by first | rfl | (simp [errW_none, errW_some] <;> rfl) | (simp [*, errW_none, errW_some] <;> rfl), bl HB.out⟩

-- NOT PRINTED: function 83 (impl_Entry_83)

/-! ### slices.Grow of nil, slices.Concat over rows of entries: functions 83, 60 -/
set_option maxHeartbeats 2000000 in
set_option maxRecDepth 100000 in
theorem slices_GrowE.calls (m : Nat) (w : World) (hm : m < 4398046511104) :
  Calls Try.prog 83 #[.slice none 0 0, .int .i64 m] w fun e w' => ∃ v0_ : Value, e = .returned v0_ ∧ Kd.R k45 45 w' w.heap.size (fun _ => True) v0_ [] ∧ Below w.heap.size w w' := by
 by_cases h0 : m = 0
 ·subst h0
  go_enter Try.func83, Try.ntmps83
  go_wp2
  go_ret
  exact ⟨_, rfl, Kd.R_nil _ _ _ _ _, Below.refl _ _⟩
 ·have hp : (0 : Int) < m := by omega
  have hnn : ¬ ((m : Int) < 0) := by omega
  have LM := Aside0.mk hm
  have hb1 : decide ((0 : Int) < m) = true := decide_eq_true hp
  have hb2 : decide ((m : Int) < 0) = false := decide_eq_false hnn
  go_enter Try.func83, Try.ntmps83
  go_wp2_with (first
   | ((with_reducible refine gate_builtin (b := .append) (xs := #[.tmp 20, .tmp 21]) rfl ?_); at_builtin; refine Kd.R_append_zeros k45 (w0 := w) w.heap.size rfl (.tmp 20) (.tmp 21) 26 3 45 (.agg #[(.string ⟨#[]⟩), (.string ⟨#[]⟩)]) 32 rfl Try.underlying26 Try.underlying3 info45 rfl (by decide) (by omega) (.slice none 0 0) [] z45 (kx := .i64) (m : Int) (fun _ => True) rfl ?aX ?aZ ?aF ?aO ?a0 ?aB ?aS ?aL ?_; (case aX => first | rfl | (show Value.int .i64 _ = _; congr 1; unfold wrap64; omega)); (case aZ => exact k45_mkM _ _ _ z45); (case aF => exact (fun _ _ => trivial)); (case aO => exact Kd.R_nil _ _ _ _ _); (case a0 => omega); (case aB => exact Below.refl _ _); (case aS => exact Nat.le_refl _); (case aL => have := LM.out; simp only [List.length_nil, Int.toNat_natCast]; omega); intro v2 w2 ho hb hg hat; have HO2 := Aside0.mk ho; have HB2 := Aside0.mk hb; clear ho hb hg hat; obtain ⟨g, cap, ev, hg1, hg2, hg3⟩ := Kd.R_form HO2.out (by simp; omega); subst ev; clear hg1 hg2 hg3))
  go_ret
  refine ⟨_, rfl, ?_, HB2.out⟩
  have := Kd.R_take (m := 0) HO2.out (Nat.zero_le _)
  simpa using this
def slices_ConcatE.f (xss : List (List S45)) : Option (List S45) := if xss.flatten.length < 4398046511104 then some xss.flatten else none
def rd_E45 (xs : List (List S45)) (i : Int) : (List S45) := xs.getD i.toNat ([] : List S45)
theorem at_E45 {w : World} {A : Option Addr} {n : Nat} {xs : List (List S45)} (h : Kd.C (Kd.slice 45 k45) w A n xs) (i : Int) (h0 : 0 ≤ i) (h1 : i < n) : ∃ ad A0 c0, A = some ad ∧ w.cell? (ad.add i.toNat) = some (.slice A0 (rd_E45 xs i).length c0) ∧ (rd_E45 xs i).length ≤ c0 ∧ k45.C w A0 (rd_E45 xs i).length (rd_E45 xs i) := by
 obtain ⟨ad, c, e, _, hK, hc0⟩ := Kd.C_get h ([] : List S45) i h0 h1
 have hc : ∀ j u, c[j]? = some u → w.cell? (ad.add (i.toNat * 1 + j)) = some u := hc0
 obtain ⟨A0, c0, rfl, l0, g0⟩ := hK
 exact ⟨ad, A0, c0, e, by have hq := hc 0 _ rfl; rwa [Nat.mul_one, Nat.add_zero] at hq, l0, g0⟩
theorem flat_take (xss : List (List S45)) (j : Nat) (hj : j < xss.length) : (xss.take (j + 1)).flatten = (xss.take j).flatten ++ rd_E45 xss (j : Int) := by
 have e : rd_E45 xss (j : Int) = xss[j] := by
  show xss.getD j _ = _
  rw [List.getD_eq_getElem?_getD, List.getElem?_eq_getElem hj]; rfl
 rw [e, List.take_succ_eq_append_getElem hj, List.flatten_append]; simp
theorem flat_le (xss : List (List S45)) (j : Nat) : (xss.take j).flatten.length ≤ xss.flatten.length := by
 conv => rhs; rw [← List.take_append_drop j xss, List.flatten_append, List.length_append]
 omega
set_option maxHeartbeats 4000000 in
set_option maxRecDepth 100000 in
theorem slices_ConcatE.calls (A0 : Option Addr) (c0 : Nat) (xss : List (List S45)) (r : List S45) (w : World) (hr0 : Kd.C (Kd.slice 45 k45) w A0 xss.length xss) (h : slices_ConcatE.f xss = some r) :
  Calls Try.prog 60 #[.slice A0 xss.length c0] w fun e w' => ∃ v0_ : Value, e = .returned v0_ ∧ Kd.R k45 45 w' w.heap.size (fun _ => True) v0_ r ∧ Below w.heap.size w w' := by
 unfold slices_ConcatE.f at h
 by_cases c : xss.flatten.length < 4398046511104
 ·rw [if_pos c, Option.some.injEq] at h
  subst h
  have LM := Aside0.mk c
  have hm := Kd.C_max hr0
  have HR := Aside0.mk hr0
  clear hr0 c
  go_enter Try.func60, Try.ntmps60
  go_wp2
  go_loopg [3, 5, 11] xss.length (fun gg s3 _ s11 wr => ∃ j p : Nat, j ≤ xss.length ∧ xss.length - j ≤ gg ∧ s11 = .int .i64 j ∧ s3 = .int .i64 (p : Int) ∧ Aside0 (p = (xss.take j).flatten.length) ∧ w = wr)
  case atStart => exact ⟨0, 0, Nat.zero_le _, by omega, rfl, rfl, ⟨by simp⟩, rfl⟩
  case round =>
   obtain ⟨j, p, hj, hg, rfl, rfl, HP, rfl⟩ := hrel
   by_cases hlt : j < xss.length
   ·have hlt' : (j : Int) < (xss.length : Int) := by omega
    have h0 : (0 : Int) ≤ (j : Int) := by omega
    obtain ⟨ad, A1, c1, ea, hx, _, _⟩ := at_E45 HR.out (j : Int) h0 hlt'
    cases ea
    simp only [Int.toNat_natCast] at hx
    have ef := flat_take xss j hlt
    have el := flat_le xss (j + 1)
    have hsum : (p : Int) + (((rd_E45 xss (j : Int)).length : Nat) : Int) = ((xss.take (j + 1)).flatten.length : Nat) := by rw [ef, List.length_append, HP.out]; push_cast; rfl
    have hlim : (xss.take (j + 1)).flatten.length < 4398046511104 := Nat.lt_of_le_of_lt el LM.out
    obtain ⟨q, hq⟩ : ∃ q, q = (xss.take (j + 1)).flatten.length := ⟨_, rfl⟩
    rw [← hq] at hsum hlim
    have HQ := Aside0.mk hq
    clear hq
    generalize rd_E45 xss (j : Int) = y at hx hsum
    have hq0 : decide ((q : Int) < 0) = false := decide_eq_false (by omega)
    have hw3 : wrap64 (q : Int) = (q : Int) := by unfold wrap64; omega
    have hlt2 := decide_eq_true hlt'
    clear ef el hlim
    go_wp2
    go_roundg (xss.length - (j + 1))
    case measure => omega
    case rel => exact ⟨j + 1, q, by omega, by omega, by go_num, (by rw [hw3]), HQ, rfl⟩
   ·have hlt' : ¬ (j : Int) < (xss.length : Int) := by omega
    obtain rfl : j = xss.length := by omega
    have hp : p < 4398046511104 := by rw [HP.out, List.take_length]; exact LM.out
    go_wp2_with (go_at_call 83; refine (slices_GrowE.calls p _ hp).mono ?_; rintro e w1 ⟨v1, rfl, ho, hb⟩; have HO := Aside0.mk ho; have HB := Aside0.mk hb; clear ho hb)
    go_loopg [6, 8, 27] xss.length (fun gg s6 _ s27 w' => ∃ j : Nat, j ≤ xss.length ∧ xss.length - j ≤ gg ∧ s27 = .int .i64 j ∧ Aside0 (Kd.R k45 45 w' w.heap.size (fun _ => True) s6 (xss.take j).flatten) ∧ Aside0 (Below w.heap.size w w'))
    case atStart => exact ⟨0, Nat.zero_le _, by omega, rfl, HO, HB⟩
    case round =>
     obtain ⟨j, hj, hg, rfl, HO6, HB6⟩ := hrel
     by_cases hlt : j < xss.length
     ·have hlt' : (j : Int) < (xss.length : Int) := by omega
      have h0 : (0 : Int) ≤ (j : Int) := by omega
      obtain ⟨ad, A1, c1, ea, hx, _, hC⟩ := at_E45 (Kd.C_below HR.out HB6.out) (j : Int) h0 hlt'
      cases ea
      simp only [Int.toNat_natCast] at hx
      have ef := flat_take xss j hlt
      have hlim : (xss.take (j + 1)).flatten.length < 4398046511104 := Nat.lt_of_le_of_lt (flat_le xss (j + 1)) LM.out
      rw [ef, List.length_append] at hlim
      have EF := Aside0.mk ef
      have HL := Aside0.mk hlim
      generalize rd_E45 xss (j : Int) = y at hx EF HL hC
      have HC := Aside0.mk hC
      clear ef hlim hC
      go_wp2_with (first
       | ((with_reducible refine gate_builtin (b := .append) (xs := #[.tmp 31, .tmp 32]) rfl ?_); at_builtin; refine Kd.R_append_rows k45 (w0 := w) w.heap.size rfl (.tmp 31) (.tmp 32) 26 45 (.agg #[(.string ⟨#[]⟩), (.string ⟨#[]⟩)]) 32 rfl Try.underlying26 info45 rfl (by decide) (by omega) u6 (xss.take j).flatten y _ _ _ (fun _ => True) (fun _ => False) rfl rfl ?aO ?aR (fun _ _ h => h) (fun _ h => h.elim) ?aF ?aB ?aS ?aL ?_; (case aR => exact HC.out); (case aB => exact HB6.out); (case aF => exact (fun _ _ => trivial)); (case aO => exact HO6.out); (case aS => exact HB6.out.size); (case aL => have := HL.out; omega); intro v2 w2 ho hb hg hat; have HO2 := Aside0.mk ho; have HB2 := Aside0.mk hb; clear ho hb hg hat))
      go_roundg (xss.length - (j + 1))
      case measure => omega
      case rel => exact ⟨j + 1, by omega, by omega, by go_num, ⟨by rw [EF.out]; exact HO2.out⟩, HB2⟩
     ·have hlt' : ¬ (j : Int) < (xss.length : Int) := by omega
      obtain rfl : j = xss.length := by omega
      have HO7 := HO6.out
      rw [List.take_length] at HO7
      have HO8 := Aside0.mk HO7
      clear HO7
      go_wp2
      go_ret
      exact ⟨_, rfl, HO8.out, HB6.out⟩
 ·rw [if_neg c] at h; exact absurd h (by simp)

/-! ### areAll, function 50, at any predicate -/
set_option maxHeartbeats 800000 in
theorem areAll_g50.neg (h : Nat) (p : S45 → Option Bool) (hp : PredOk Try.prog h (fun x : S45 => Value.agg #[.string x.f0, .string x.f1]) p) (eg : ∀ args w, (callFunc h args).run Try.prog w = .ok (.enter h args) w)
  (x : S45) (r : Bool) (b : Nat) (w : World) (hb : b < w.heap.size) (hc : w.cell? ⟨b, 0, none⟩ = some (.func (.func h) #[] #[])) (hx : p x = some r) :
  Calls Try.prog 75 #[.agg #[.string x.f0, .string x.f1], .pointer (some ⟨b, 0, none⟩)] w fun e w' => e = .returned (.bool (!r)) ∧ Below w.heap.size w w' := by
 have hh := hp x r
 clear hp
 go_enter Try.func75, Try.ntmps75
 go_wp2_with (go_at_fn h; refine (hh _ hx).mono ?_; rintro e w' ⟨rfl, hb'⟩)
 go_ret
 exact ⟨rfl, below_then (below_alloc (Below.refl _ _) _) (by simp) hb'⟩
set_option maxHeartbeats 800000 in
theorem areAll_g50.idx (h : Nat) (p : S45 → Option Bool) (hp : PredOk Try.prog h (fun x : S45 => Value.agg #[.string x.f0, .string x.f1]) p) (eg : ∀ args w, (callFunc h args).run Try.prog w = .ok (.enter h args) w)
  (eg90 : ∀ args w, (callFunc 75 args).run Try.prog w = .ok (.enter 75 args) w)
  (A : Option Addr) (c : Nat) (l : List S45) (r : Int) (b : Nat) (w : World) (hr : Kd.C k45 w A l.length l) (hb : b < w.heap.size) (hcb : w.cell? ⟨b, 0, none⟩ = some (.func (.func h) #[] #[])) (hx : idxO p l 0 = some r) :
  Calls Try.prog 86 #[.slice A l.length c, .func (.func 75) #[] #[.pointer (some ⟨b, 0, none⟩)]] w fun e w' => e = .returned (.int .i64 r) ∧ Below w.heap.size w w' := by
 have hm := Kd.C_max hr
 have HX := Aside0.mk hx
 have HP := Aside0.mk hp
 have HR := Aside0.mk hr
 have HC := Aside0.mk hcb
 have EG := Aside0.mk eg
 clear hx hp hr hcb eg
 go_enter Try.func86, Try.ntmps86
 go_wp2
 go_loopg [5, 8] l.length (fun gg _ s8 wr => ∃ j : Nat, j ≤ l.length ∧ l.length - j ≤ gg ∧ s8 = .int .i64 j ∧ Aside0 (Below w.heap.size w wr) ∧ Aside0 (idxO p (l.drop j) j = some r))
 case atStart => exact ⟨0, Nat.zero_le _, by omega, rfl, ⟨Below.refl _ w⟩, ⟨HX.out⟩⟩
 case round =>
  obtain ⟨j, hj, hg, rfl, BW, HA⟩ := hrel
  by_cases hlt : j < l.length
  ·have hlt' : (j : Int) < (l.length : Int) := by omega
   have h0 : (0 : Int) ≤ (j : Int) := by omega
   obtain ⟨bo, hbo, hy, hn⟩ := idxO_step p l z45 j hlt r HA.out
   obtain ⟨ad, ea, hx0, hx1⟩ := at_T45 (Kd.C_below HR.out BW.out) (j : Int) h0 hlt'
   cases ea
   simp only [Int.toNat_natCast] at hx0 hx1
   have hc2 := (BW.out.cell (p := ⟨b, 0, none⟩) hb).trans HC.out
   have hbw : w.heap.size ≤ wr.heap.size := BW.out.size
   rw [show rd_T45 l (j : Int) = l.getD j z45 from rfl] at hx0 hx1
   generalize l.getD j z45 = y at hbo hx0 hx1
   have hcall := areAll_g50.neg h p HP.out EG.out y bo b wr (by omega) hc2 hbo
   have HY := Aside0.mk hy
   have HN := Aside0.mk hn
   have HC2 := Aside0.mk hcall
   clear hy hn hbo hcall hc2
   cases bo with
   | true =>
    go_wp2_with (go_at_fn 75; refine HC2.out.mono ?_; rintro e w' ⟨rfl, hb'⟩)
    go_roundg (l.length - (j + 1))
    case measure => omega
    case rel => exact ⟨j + 1, by omega, by omega, by go_num, ⟨below_then BW.out hbw hb'⟩, ⟨HY.out (by simp)⟩⟩
   | false =>
    go_wp2_with (go_at_fn 75; refine HC2.out.mono ?_; rintro e w' ⟨rfl, hb'⟩)
    go_ret
    exact ⟨congrArg (fun z => Ending.returned (.int .i64 z)) (HN.out (by simp)).symm, below_then BW.out hbw hb'⟩
  ·have hlt' : ¬ (j : Int) < (l.length : Int) := by omega
   have : j = l.length := by omega
   subst this
   have HA2 := HA.out
   rw [List.drop_length] at HA2
   simp only [idxO, Option.some.injEq] at HA2
   have HA3 := Aside0.mk HA2
   clear HA2
   go_wp2
   go_ret
   exact ⟨congrArg (fun z => Ending.returned (.int .i64 z)) HA3.out, BW.out⟩
set_option maxHeartbeats 800000 in
theorem areAll_g50.has (h : Nat) (p : S45 → Option Bool) (hp : PredOk Try.prog h (fun x : S45 => Value.agg #[.string x.f0, .string x.f1]) p) (eg : ∀ args w, (callFunc h args).run Try.prog w = .ok (.enter h args) w)
  (eg90 : ∀ args w, (callFunc 75 args).run Try.prog w = .ok (.enter 75 args) w)
  (A : Option Addr) (c : Nat) (l : List S45) (r : Bool) (b : Nat) (w : World) (hr : Kd.C k45 w A l.length l) (hb : b < w.heap.size) (hcb : w.cell? ⟨b, 0, none⟩ = some (.func (.func h) #[] #[])) (hx : allO p l = some r) :
  Calls Try.prog 74 #[.slice A l.length c, .func (.func 75) #[] #[.pointer (some ⟨b, 0, none⟩)]] w fun e w' => e = .returned (.bool (!r)) ∧ Below w.heap.size w w' := by
 obtain ⟨i, hi, h1, h2⟩ := allO_idx p l r hx 0
 have hcall := fun W hr hb hcb => areAll_g50.idx h p hp eg eg90 A c l i b W hr hb hcb hi
 have HC := Aside0.mk hcall
 have HR := Aside0.mk hr
 have HB := Aside0.mk hcb
 have EG := Aside0.mk eg
 clear hcall hr hp hx hi hcb eg
 cases r with
 | true =>
  obtain rfl := h1 rfl
  clear h1 h2
  go_enter Try.func74, Try.ntmps74
  go_wp2_with (go_at_call 86; refine (HC.out _ HR.out hb HB.out).mono ?_; rintro e w' ⟨rfl, hb'⟩)
  go_ret
  exact ⟨rfl, hb'⟩
 | false =>
  have h3 := h2 rfl
  have h4 : decide (0 ≤ i) = true := decide_eq_true h3
  clear h1 h2
  go_enter Try.func74, Try.ntmps74
  go_wp2_with (go_at_call 86; refine (HC.out _ HR.out hb HB.out).mono ?_; rintro e w' ⟨rfl, hb'⟩)
  go_ret
  exact ⟨rfl, hb'⟩
set_option maxHeartbeats 800000 in
theorem areAll_g50.all (h : Nat) (p : S45 → Option Bool) (hp : PredOk Try.prog h (fun x : S45 => Value.agg #[.string x.f0, .string x.f1]) p) (eg : ∀ args w, (callFunc h args).run Try.prog w = .ok (.enter h args) w)
  (A : Option Addr) (c : Nat) (l : List S45) (r : Bool) (w : World) (hr : Kd.C k45 w A l.length l) (hx : allO p l = some r) :
  Calls Try.prog 50 #[.slice A l.length c, .func (.func h) #[] #[]] w fun e w' => e = .returned (.bool r) ∧ Below w.heap.size w w' := by
 have eg90 : ∀ args w, (callFunc 75 args).run Try.prog w = .ok (.enter 75 args) w := enters_of Try.func75 (by kernel_rfl) rfl
 have hcall := fun W b hr hb hcb => areAll_g50.has h p hp eg eg90 A c l r b W hr hb hcb hx
 have HC := Aside0.mk hcall
 have HR := Aside0.mk hr
 have EG := Aside0.mk eg
 clear hcall hr hp hx eg
 go_enter Try.func50, Try.ntmps50
 go_wp2_with (go_at_call 74; refine (HC.out _ _ (Kd.C_alloc HR.out _) (by simp) (by simp)).mono ?_; rintro e w' ⟨rfl, hb'⟩)
 go_ret
 exact ⟨rfl, below_then (below_alloc (Below.refl _ _) _) (by simp) hb'⟩
/-! ### two rows of entries side by side -/
theorem C_two {w : World} {a : Addr} {A1 A2 : Option Addr} {c1 c2 : Nat} {l1 l2 : List S45} (g1 : l1.length ≤ c1) (h1 : k45.C w A1 l1.length l1) (g2 : l2.length ≤ c2) (h2 : k45.C w A2 l2.length l2)
  (hx1 : w.cell? (a.add 0) = some (.slice A1 l1.length c1)) (hx2 : w.cell? (a.add 1) = some (.slice A2 l2.length c2)) : Kd.C (Kd.slice 45 k45) w (some a) 2 [l1, l2] := by
 refine ⟨rfl, by omega, fun _ => ⟨a, rfl, fun j p hj => ?_⟩⟩
 match j, hj with
 | 0, hj =>
  simp only [List.getElem?_cons_zero, Option.some.injEq] at hj
  subst hj
  exact ⟨[.slice A1 l1.length c1], rfl, ⟨A1, c1, rfl, g1, h1⟩, fun i u hu => by
   match i, hu with
   | 0, hu => simp at hu; subst hu; exact hx1⟩
 | 1, hj =>
  simp only [List.getElem?_cons_succ, List.getElem?_cons_zero, Option.some.injEq] at hj
  subst hj
  exact ⟨[.slice A2 l2.length c2], rfl, ⟨A2, c2, rfl, g2, h2⟩, fun i u hu => by
   match i, hu with
   | 0, hu => simp at hu; subst hu; exact hx2⟩

/-! ### GoodSegmented: function 22 -/
theorem plainElem_bool_inv {H : Type} {P : Program} {e : TypeId} (he : P.underlying e = some .bool) {v : Value} {z : DataW H × List MemPlace} (h : plainElem P e v = some z) : ∃ a, v = .bool a ∧ z = (.lit (.bool a), []) := by
 unfold plainElem at h
 rw [he] at h
 cases v <;> simp at h
 subst h
 exact ⟨_, rfl, rfl⟩
theorem wpList_lookup_own_bool {H : Type} {P : Program} (w : World) {ops : Array Oper} {rest : List Oper} {o : Oper} {a : Act} {Q : Exit → Act → World → Prop}
  (hg : o.guard = none) (m x : Operand) (t : TypeId) (hop : o.op = Op.lookup t m x false)
  (k e : TypeId) (K : Maps.Keyed P k) (ht : P.underlying t = some (.map k e)) (he : P.underlying e = some .bool) (hz : (zeroValue e).run P w = .ok (.bool false) w) (b n : Nat) (D : DataW H)
  (hm : a.eval m = .map (some b)) (hown : w.ownsMap P k (plainElem P e) b n D) (key : Value) (kl : Lit) (hx : a.eval x = key) (hkey : keyOf P k key = some kl)
  (hK : ∀ c : Bool, D.atKey kl (.lit (.bool false)) = .lit (.bool c) → wpList P ops Q rest (a.put o.dst (.bool c)) w) :
  wpList P ops Q (o :: rest) a w := by
 refine wpList_plain hg fun K' hK' => ?_
 obtain ⟨v, ps, hrun, hv⟩ := hown.lookup K ht hz (plainElem_bool he false) hkey
 obtain ⟨c, rfl, hc⟩ := plainElem_bool_inv he hv
 simp only [Prod.mk.injEq] at hc
 unfold Oper.wp
 simp [execOp, hop, hm, hx, hrun, Result.andThen]
 exact hK' _ _ (hK c hc.1)
/-- No key twice. -/
def uniqE (seen : List (List UInt8)) : List S45 → Bool
 | [] => true
 | x :: xs => if seen.contains x.f0.data.toList = true then false else uniqE (x.f0.data.toList :: seen) xs
def allE (l : List S45) : Option Bool := allO (fun x => impl_isEntry.f x.f0 x.f1) l
theorem allE.calls (A0 : Option Addr) (c0 : Nat) (l0 : List S45) (r : Bool) (w : World) (hr0 : Kd.C k45 w A0 l0.length l0) (h : allE l0 = some r) :
  Calls Try.prog 50 #[.slice A0 l0.length c0, .func (.func 51) #[] #[]] w fun e w' => e = .returned (.bool r) ∧ Below w.heap.size w w' := by
 refine areAll_g50.all 51 (fun x => impl_isEntry.f x.f0 x.f1) (fun x r w h => ?_) (enters_of Try.func51 (by kernel_rfl) rfl) A0 c0 l0 r w hr0 h
 exact impl_isEntry.calls x.f0 x.f1 r w h
def impl_GoodSegmented.f (k : Nat) (a0_0 : Int) (a0_1 : Int) (l0_2 : List S45) (l0_3 : List S45) : Option Bool := (impl_isRoom.f a0_0).bind fun t1 => (if t1 = true then ((impl_isRoom.f a0_1).bind fun t2 => (if t2 = true then ((impl_fits.f k l0_2 a0_0).bind fun t3 => (if t3 = true then ((impl_fits.f k l0_3 a0_1).bind fun t4 => (if t4 = true then ((allE l0_2).bind fun t5 => (if t5 = true then ((allE l0_3).bind fun t6 => (if t6 = true then ((slices_ConcatE.f [l0_2, l0_3]).bind fun l => (if (l.all fun x => decide (x.f0.size ≤ 9223372036854775807)) = true then some (uniqE [] l) else none)) else some false)) else some false)) else some false)) else some false)) else some false)) else some false)
theorem impl_GoodSegmented.mono : ∀ a0_0 a0_1 l0_2 l0_3 k, LeO (impl_GoodSegmented.f k a0_0 a0_1 l0_2 l0_3) (impl_GoodSegmented.f (k + 1) a0_0 a0_1 l0_2 l0_3) := by
 intro a0_0 a0_1 l0_2 l0_3 k
 unfold impl_GoodSegmented.f
 repeat' first
   | (with_reducible exact impl_fits.mono _ _ _)
   | (with_reducible exact LeO.refl _)
   | (with_reducible exact LeO.none _)
   | (with_reducible refine LeO.ite ?_ ?_)
   | (with_reducible refine LeO.bind ?_ (fun _ => ?_))

set_option maxHeartbeats 16000000 in
set_option maxRecDepth 100000 in
theorem impl_GoodSegmented.calls (k : Nat) (a0_0 : Int) (a0_1 : Int) (A0_2 : Option Addr) (c0_2 : Nat) (l0_2 : List (S45)) (A0_3 : Option Addr) (c0_3 : Nat) (l0_3 : List (S45)) (r : Bool) (w : World) (hr0_2 : Kd.C k45 w A0_2 l0_2.length l0_2) (hc0_2 : l0_2.length ≤ c0_2) (hr0_3 : Kd.C k45 w A0_3 l0_3.length l0_3) (hc0_3 : l0_3.length ≤ c0_3) (h : impl_GoodSegmented.f k a0_0 a0_1 l0_2 l0_3 = some r) :
  Calls Try.prog 22 #[.agg #[.int .i64 a0_0, .int .i64 a0_1, .slice A0_2 l0_2.length c0_2, .slice A0_3 l0_3.length c0_3]] w fun e w' => e = .returned (.bool r) ∧ Below w.heap.size w w' := by
 have HR2 := Aside0.mk hr0_2
 have HR3 := Aside0.mk hr0_3
 have HC2 := Aside0.mk hc0_2
 have HC3 := Aside0.mk hc0_3
 clear hr0_2 hr0_3 hc0_2 hc0_3
 have hu28 := Try.underlying28
 unfold impl_GoodSegmented.f at h
 obtain ⟨t1, A1, h⟩ := Option.bind_eq_some_iff.mp h
 have A1 := Aside0.mk A1
 cases t1 with
 | false =>
  simp only [Bool.false_eq_true, if_false, Option.some.injEq] at h
  subst h
  go_enter Try.func22, Try.ntmps22
  go_wp2_with (first
   | (go_at_call 58; (with_reducible refine (impl_isRoom.calls a0_0 false _ A1.out).mono ?_); rintro e w1 ⟨rfl, hb⟩; have HB := Aside0.mk (below_then (below_alloc (Below.refl _ _) (.cells #[.int .i64 a0_0, .int .i64 a0_1, .slice A0_2 l0_2.length c0_2, .slice A0_3 l0_3.length c0_3] 28)) (by simp) hb.below); have BK := Aside0.mk (blk_below (blk_new w (.cells #[.int .i64 a0_0, .int .i64 a0_1, .slice A0_2 l0_2.length c0_2, .slice A0_3 l0_3.length c0_3] 28)) hb.below); clear hb; have hz0 : w1.cell? ⟨w.heap.size, 0, none⟩ = some (.int .i64 a0_0) := (blk_cell BK.out 0).trans rfl; have hz1 : w1.cell? ⟨w.heap.size, 1, none⟩ = some (.int .i64 a0_1) := (blk_cell BK.out 1).trans rfl; have hz2 : w1.cell? ⟨w.heap.size, 2, none⟩ = some (.slice A0_2 l0_2.length c0_2) := (blk_cell BK.out 2).trans rfl; have hz3 : w1.cell? ⟨w.heap.size, 3, none⟩ = some (.slice A0_3 l0_3.length c0_3) := (blk_cell BK.out 3).trans rfl))
  go_ret
  exact ⟨rfl, HB.out⟩
 | true =>
  rw [if_pos rfl] at h
  obtain ⟨t2, A2, h⟩ := Option.bind_eq_some_iff.mp h
  have A2 := Aside0.mk A2
  cases t2 with
  | false =>
   simp only [Bool.false_eq_true, if_false, Option.some.injEq] at h
   subst h
   go_enter Try.func22, Try.ntmps22
   go_wp2_with (first
    | (go_at_call 58; (with_reducible refine (impl_isRoom.calls a0_0 true _ A1.out).mono ?_); rintro e w1 ⟨rfl, hb⟩; have HB := Aside0.mk (below_then (below_alloc (Below.refl _ _) (.cells #[.int .i64 a0_0, .int .i64 a0_1, .slice A0_2 l0_2.length c0_2, .slice A0_3 l0_3.length c0_3] 28)) (by simp) hb.below); have BK := Aside0.mk (blk_below (blk_new w (.cells #[.int .i64 a0_0, .int .i64 a0_1, .slice A0_2 l0_2.length c0_2, .slice A0_3 l0_3.length c0_3] 28)) hb.below); clear hb; have hz0 : w1.cell? ⟨w.heap.size, 0, none⟩ = some (.int .i64 a0_0) := (blk_cell BK.out 0).trans rfl; have hz1 : w1.cell? ⟨w.heap.size, 1, none⟩ = some (.int .i64 a0_1) := (blk_cell BK.out 1).trans rfl; have hz2 : w1.cell? ⟨w.heap.size, 2, none⟩ = some (.slice A0_2 l0_2.length c0_2) := (blk_cell BK.out 2).trans rfl; have hz3 : w1.cell? ⟨w.heap.size, 3, none⟩ = some (.slice A0_3 l0_3.length c0_3) := (blk_cell BK.out 3).trans rfl)
    | (go_at_call 58; (with_reducible refine (impl_isRoom.calls a0_1 false _ A2.out).mono ?_); rintro e w2 ⟨rfl, hb⟩; have n0_ := Aside0.mk (below_then HB.out HB.out.size hb.below); have n1_ := Aside0.mk (blk_below BK.out hb.below); clear HB BK hz0 hz1 hz2 hz3 hb; have HB := n0_; have BK := n1_; clear n0_ n1_; have hz0 : w2.cell? ⟨w.heap.size, 0, none⟩ = some (.int .i64 a0_0) := (blk_cell BK.out 0).trans rfl; have hz1 : w2.cell? ⟨w.heap.size, 1, none⟩ = some (.int .i64 a0_1) := (blk_cell BK.out 1).trans rfl; have hz2 : w2.cell? ⟨w.heap.size, 2, none⟩ = some (.slice A0_2 l0_2.length c0_2) := (blk_cell BK.out 2).trans rfl; have hz3 : w2.cell? ⟨w.heap.size, 3, none⟩ = some (.slice A0_3 l0_3.length c0_3) := (blk_cell BK.out 3).trans rfl))
   go_ret
   exact ⟨rfl, HB.out⟩
  | true =>
   rw [if_pos rfl] at h
   obtain ⟨t3, A3, h⟩ := Option.bind_eq_some_iff.mp h
   have A3 := Aside0.mk A3
   cases t3 with
   | false =>
    simp only [Bool.false_eq_true, if_false, Option.some.injEq] at h
    subst h
    go_enter Try.func22, Try.ntmps22
    go_wp2_with (first
     | (go_at_call 58; (with_reducible refine (impl_isRoom.calls a0_0 true _ A1.out).mono ?_); rintro e w1 ⟨rfl, hb⟩; have HB := Aside0.mk (below_then (below_alloc (Below.refl _ _) (.cells #[.int .i64 a0_0, .int .i64 a0_1, .slice A0_2 l0_2.length c0_2, .slice A0_3 l0_3.length c0_3] 28)) (by simp) hb.below); have BK := Aside0.mk (blk_below (blk_new w (.cells #[.int .i64 a0_0, .int .i64 a0_1, .slice A0_2 l0_2.length c0_2, .slice A0_3 l0_3.length c0_3] 28)) hb.below); clear hb; have hz0 : w1.cell? ⟨w.heap.size, 0, none⟩ = some (.int .i64 a0_0) := (blk_cell BK.out 0).trans rfl; have hz1 : w1.cell? ⟨w.heap.size, 1, none⟩ = some (.int .i64 a0_1) := (blk_cell BK.out 1).trans rfl; have hz2 : w1.cell? ⟨w.heap.size, 2, none⟩ = some (.slice A0_2 l0_2.length c0_2) := (blk_cell BK.out 2).trans rfl; have hz3 : w1.cell? ⟨w.heap.size, 3, none⟩ = some (.slice A0_3 l0_3.length c0_3) := (blk_cell BK.out 3).trans rfl)
     | (go_at_call 58; (with_reducible refine (impl_isRoom.calls a0_1 true _ A2.out).mono ?_); rintro e w2 ⟨rfl, hb⟩; have n0_ := Aside0.mk (below_then HB.out HB.out.size hb.below); have n1_ := Aside0.mk (blk_below BK.out hb.below); clear HB BK hz0 hz1 hz2 hz3 hb; have HB := n0_; have BK := n1_; clear n0_ n1_; have hz0 : w2.cell? ⟨w.heap.size, 0, none⟩ = some (.int .i64 a0_0) := (blk_cell BK.out 0).trans rfl; have hz1 : w2.cell? ⟨w.heap.size, 1, none⟩ = some (.int .i64 a0_1) := (blk_cell BK.out 1).trans rfl; have hz2 : w2.cell? ⟨w.heap.size, 2, none⟩ = some (.slice A0_2 l0_2.length c0_2) := (blk_cell BK.out 2).trans rfl; have hz3 : w2.cell? ⟨w.heap.size, 3, none⟩ = some (.slice A0_3 l0_3.length c0_3) := (blk_cell BK.out 3).trans rfl)
     | (go_at_call 59; (with_reducible refine (impl_fits.calls k A0_2 c0_2 l0_2 a0_0 false _ (Kd.C_below HR2.out HB.out) HC2.out A3.out).mono ?_); rintro e w2 ⟨rfl, hb⟩; have n0_ := Aside0.mk (below_then HB.out HB.out.size hb); have n1_ := Aside0.mk (blk_below BK.out hb); clear HB BK hz0 hz1 hz2 hz3 hb; have HB := n0_; have BK := n1_; clear n0_ n1_; have hz0 : w2.cell? ⟨w.heap.size, 0, none⟩ = some (.int .i64 a0_0) := (blk_cell BK.out 0).trans rfl; have hz1 : w2.cell? ⟨w.heap.size, 1, none⟩ = some (.int .i64 a0_1) := (blk_cell BK.out 1).trans rfl; have hz2 : w2.cell? ⟨w.heap.size, 2, none⟩ = some (.slice A0_2 l0_2.length c0_2) := (blk_cell BK.out 2).trans rfl; have hz3 : w2.cell? ⟨w.heap.size, 3, none⟩ = some (.slice A0_3 l0_3.length c0_3) := (blk_cell BK.out 3).trans rfl))
    go_ret
    exact ⟨rfl, HB.out⟩
   | true =>
    rw [if_pos rfl] at h
    obtain ⟨t4, A4, h⟩ := Option.bind_eq_some_iff.mp h
    have A4 := Aside0.mk A4
    cases t4 with
    | false =>
     simp only [Bool.false_eq_true, if_false, Option.some.injEq] at h
     subst h
     go_enter Try.func22, Try.ntmps22
     go_wp2_with (first
      | (go_at_call 58; (with_reducible refine (impl_isRoom.calls a0_0 true _ A1.out).mono ?_); rintro e w1 ⟨rfl, hb⟩; have HB := Aside0.mk (below_then (below_alloc (Below.refl _ _) (.cells #[.int .i64 a0_0, .int .i64 a0_1, .slice A0_2 l0_2.length c0_2, .slice A0_3 l0_3.length c0_3] 28)) (by simp) hb.below); have BK := Aside0.mk (blk_below (blk_new w (.cells #[.int .i64 a0_0, .int .i64 a0_1, .slice A0_2 l0_2.length c0_2, .slice A0_3 l0_3.length c0_3] 28)) hb.below); clear hb; have hz0 : w1.cell? ⟨w.heap.size, 0, none⟩ = some (.int .i64 a0_0) := (blk_cell BK.out 0).trans rfl; have hz1 : w1.cell? ⟨w.heap.size, 1, none⟩ = some (.int .i64 a0_1) := (blk_cell BK.out 1).trans rfl; have hz2 : w1.cell? ⟨w.heap.size, 2, none⟩ = some (.slice A0_2 l0_2.length c0_2) := (blk_cell BK.out 2).trans rfl; have hz3 : w1.cell? ⟨w.heap.size, 3, none⟩ = some (.slice A0_3 l0_3.length c0_3) := (blk_cell BK.out 3).trans rfl)
      | (go_at_call 58; (with_reducible refine (impl_isRoom.calls a0_1 true _ A2.out).mono ?_); rintro e w2 ⟨rfl, hb⟩; have n0_ := Aside0.mk (below_then HB.out HB.out.size hb.below); have n1_ := Aside0.mk (blk_below BK.out hb.below); clear HB BK hz0 hz1 hz2 hz3 hb; have HB := n0_; have BK := n1_; clear n0_ n1_; have hz0 : w2.cell? ⟨w.heap.size, 0, none⟩ = some (.int .i64 a0_0) := (blk_cell BK.out 0).trans rfl; have hz1 : w2.cell? ⟨w.heap.size, 1, none⟩ = some (.int .i64 a0_1) := (blk_cell BK.out 1).trans rfl; have hz2 : w2.cell? ⟨w.heap.size, 2, none⟩ = some (.slice A0_2 l0_2.length c0_2) := (blk_cell BK.out 2).trans rfl; have hz3 : w2.cell? ⟨w.heap.size, 3, none⟩ = some (.slice A0_3 l0_3.length c0_3) := (blk_cell BK.out 3).trans rfl)
      | (go_at_call 59; (with_reducible refine (impl_fits.calls k A0_2 c0_2 l0_2 a0_0 true _ (Kd.C_below HR2.out HB.out) HC2.out A3.out).mono ?_); rintro e w2 ⟨rfl, hb⟩; have n0_ := Aside0.mk (below_then HB.out HB.out.size hb); have n1_ := Aside0.mk (blk_below BK.out hb); clear HB BK hz0 hz1 hz2 hz3 hb; have HB := n0_; have BK := n1_; clear n0_ n1_; have hz0 : w2.cell? ⟨w.heap.size, 0, none⟩ = some (.int .i64 a0_0) := (blk_cell BK.out 0).trans rfl; have hz1 : w2.cell? ⟨w.heap.size, 1, none⟩ = some (.int .i64 a0_1) := (blk_cell BK.out 1).trans rfl; have hz2 : w2.cell? ⟨w.heap.size, 2, none⟩ = some (.slice A0_2 l0_2.length c0_2) := (blk_cell BK.out 2).trans rfl; have hz3 : w2.cell? ⟨w.heap.size, 3, none⟩ = some (.slice A0_3 l0_3.length c0_3) := (blk_cell BK.out 3).trans rfl)
      | (go_at_call 59; (with_reducible refine (impl_fits.calls k A0_3 c0_3 l0_3 a0_1 false _ (Kd.C_below HR3.out HB.out) HC3.out A4.out).mono ?_); rintro e w2 ⟨rfl, hb⟩; have n0_ := Aside0.mk (below_then HB.out HB.out.size hb); have n1_ := Aside0.mk (blk_below BK.out hb); clear HB BK hz0 hz1 hz2 hz3 hb; have HB := n0_; have BK := n1_; clear n0_ n1_; have hz0 : w2.cell? ⟨w.heap.size, 0, none⟩ = some (.int .i64 a0_0) := (blk_cell BK.out 0).trans rfl; have hz1 : w2.cell? ⟨w.heap.size, 1, none⟩ = some (.int .i64 a0_1) := (blk_cell BK.out 1).trans rfl; have hz2 : w2.cell? ⟨w.heap.size, 2, none⟩ = some (.slice A0_2 l0_2.length c0_2) := (blk_cell BK.out 2).trans rfl; have hz3 : w2.cell? ⟨w.heap.size, 3, none⟩ = some (.slice A0_3 l0_3.length c0_3) := (blk_cell BK.out 3).trans rfl))
     go_ret
     exact ⟨rfl, HB.out⟩
    | true =>
     rw [if_pos rfl] at h
     obtain ⟨t5, A5, h⟩ := Option.bind_eq_some_iff.mp h
     have A5 := Aside0.mk A5
     cases t5 with
     | false =>
      simp only [Bool.false_eq_true, if_false, Option.some.injEq] at h
      subst h
      go_enter Try.func22, Try.ntmps22
      go_wp2_with (first
       | (go_at_call 58; (with_reducible refine (impl_isRoom.calls a0_0 true _ A1.out).mono ?_); rintro e w1 ⟨rfl, hb⟩; have HB := Aside0.mk (below_then (below_alloc (Below.refl _ _) (.cells #[.int .i64 a0_0, .int .i64 a0_1, .slice A0_2 l0_2.length c0_2, .slice A0_3 l0_3.length c0_3] 28)) (by simp) hb.below); have BK := Aside0.mk (blk_below (blk_new w (.cells #[.int .i64 a0_0, .int .i64 a0_1, .slice A0_2 l0_2.length c0_2, .slice A0_3 l0_3.length c0_3] 28)) hb.below); clear hb; have hz0 : w1.cell? ⟨w.heap.size, 0, none⟩ = some (.int .i64 a0_0) := (blk_cell BK.out 0).trans rfl; have hz1 : w1.cell? ⟨w.heap.size, 1, none⟩ = some (.int .i64 a0_1) := (blk_cell BK.out 1).trans rfl; have hz2 : w1.cell? ⟨w.heap.size, 2, none⟩ = some (.slice A0_2 l0_2.length c0_2) := (blk_cell BK.out 2).trans rfl; have hz3 : w1.cell? ⟨w.heap.size, 3, none⟩ = some (.slice A0_3 l0_3.length c0_3) := (blk_cell BK.out 3).trans rfl)
       | (go_at_call 58; (with_reducible refine (impl_isRoom.calls a0_1 true _ A2.out).mono ?_); rintro e w2 ⟨rfl, hb⟩; have n0_ := Aside0.mk (below_then HB.out HB.out.size hb.below); have n1_ := Aside0.mk (blk_below BK.out hb.below); clear HB BK hz0 hz1 hz2 hz3 hb; have HB := n0_; have BK := n1_; clear n0_ n1_; have hz0 : w2.cell? ⟨w.heap.size, 0, none⟩ = some (.int .i64 a0_0) := (blk_cell BK.out 0).trans rfl; have hz1 : w2.cell? ⟨w.heap.size, 1, none⟩ = some (.int .i64 a0_1) := (blk_cell BK.out 1).trans rfl; have hz2 : w2.cell? ⟨w.heap.size, 2, none⟩ = some (.slice A0_2 l0_2.length c0_2) := (blk_cell BK.out 2).trans rfl; have hz3 : w2.cell? ⟨w.heap.size, 3, none⟩ = some (.slice A0_3 l0_3.length c0_3) := (blk_cell BK.out 3).trans rfl)
       | (go_at_call 59; (with_reducible refine (impl_fits.calls k A0_2 c0_2 l0_2 a0_0 true _ (Kd.C_below HR2.out HB.out) HC2.out A3.out).mono ?_); rintro e w2 ⟨rfl, hb⟩; have n0_ := Aside0.mk (below_then HB.out HB.out.size hb); have n1_ := Aside0.mk (blk_below BK.out hb); clear HB BK hz0 hz1 hz2 hz3 hb; have HB := n0_; have BK := n1_; clear n0_ n1_; have hz0 : w2.cell? ⟨w.heap.size, 0, none⟩ = some (.int .i64 a0_0) := (blk_cell BK.out 0).trans rfl; have hz1 : w2.cell? ⟨w.heap.size, 1, none⟩ = some (.int .i64 a0_1) := (blk_cell BK.out 1).trans rfl; have hz2 : w2.cell? ⟨w.heap.size, 2, none⟩ = some (.slice A0_2 l0_2.length c0_2) := (blk_cell BK.out 2).trans rfl; have hz3 : w2.cell? ⟨w.heap.size, 3, none⟩ = some (.slice A0_3 l0_3.length c0_3) := (blk_cell BK.out 3).trans rfl)
       | (go_at_call 59; (with_reducible refine (impl_fits.calls k A0_3 c0_3 l0_3 a0_1 true _ (Kd.C_below HR3.out HB.out) HC3.out A4.out).mono ?_); rintro e w2 ⟨rfl, hb⟩; have n0_ := Aside0.mk (below_then HB.out HB.out.size hb); have n1_ := Aside0.mk (blk_below BK.out hb); clear HB BK hz0 hz1 hz2 hz3 hb; have HB := n0_; have BK := n1_; clear n0_ n1_; have hz0 : w2.cell? ⟨w.heap.size, 0, none⟩ = some (.int .i64 a0_0) := (blk_cell BK.out 0).trans rfl; have hz1 : w2.cell? ⟨w.heap.size, 1, none⟩ = some (.int .i64 a0_1) := (blk_cell BK.out 1).trans rfl; have hz2 : w2.cell? ⟨w.heap.size, 2, none⟩ = some (.slice A0_2 l0_2.length c0_2) := (blk_cell BK.out 2).trans rfl; have hz3 : w2.cell? ⟨w.heap.size, 3, none⟩ = some (.slice A0_3 l0_3.length c0_3) := (blk_cell BK.out 3).trans rfl)
       | (go_at_call 50; (with_reducible refine (allE.calls A0_2 c0_2 l0_2 false _ (Kd.C_below HR2.out HB.out) A5.out).mono ?_); rintro e w2 ⟨rfl, hb⟩; have n0_ := Aside0.mk (below_then HB.out HB.out.size hb); have n1_ := Aside0.mk (blk_below BK.out hb); clear HB BK hz0 hz1 hz2 hz3 hb; have HB := n0_; have BK := n1_; clear n0_ n1_; have hz0 : w2.cell? ⟨w.heap.size, 0, none⟩ = some (.int .i64 a0_0) := (blk_cell BK.out 0).trans rfl; have hz1 : w2.cell? ⟨w.heap.size, 1, none⟩ = some (.int .i64 a0_1) := (blk_cell BK.out 1).trans rfl; have hz2 : w2.cell? ⟨w.heap.size, 2, none⟩ = some (.slice A0_2 l0_2.length c0_2) := (blk_cell BK.out 2).trans rfl; have hz3 : w2.cell? ⟨w.heap.size, 3, none⟩ = some (.slice A0_3 l0_3.length c0_3) := (blk_cell BK.out 3).trans rfl))
      go_ret
      exact ⟨rfl, HB.out⟩
     | true =>
      rw [if_pos rfl] at h
      obtain ⟨t6, A6, h⟩ := Option.bind_eq_some_iff.mp h
      have A6 := Aside0.mk A6
      cases t6 with
      | false =>
       simp only [Bool.false_eq_true, if_false, Option.some.injEq] at h
       subst h
       go_enter Try.func22, Try.ntmps22
       go_wp2_with (first
        | (go_at_call 58; (with_reducible refine (impl_isRoom.calls a0_0 true _ A1.out).mono ?_); rintro e w1 ⟨rfl, hb⟩; have HB := Aside0.mk (below_then (below_alloc (Below.refl _ _) (.cells #[.int .i64 a0_0, .int .i64 a0_1, .slice A0_2 l0_2.length c0_2, .slice A0_3 l0_3.length c0_3] 28)) (by simp) hb.below); have BK := Aside0.mk (blk_below (blk_new w (.cells #[.int .i64 a0_0, .int .i64 a0_1, .slice A0_2 l0_2.length c0_2, .slice A0_3 l0_3.length c0_3] 28)) hb.below); clear hb; have hz0 : w1.cell? ⟨w.heap.size, 0, none⟩ = some (.int .i64 a0_0) := (blk_cell BK.out 0).trans rfl; have hz1 : w1.cell? ⟨w.heap.size, 1, none⟩ = some (.int .i64 a0_1) := (blk_cell BK.out 1).trans rfl; have hz2 : w1.cell? ⟨w.heap.size, 2, none⟩ = some (.slice A0_2 l0_2.length c0_2) := (blk_cell BK.out 2).trans rfl; have hz3 : w1.cell? ⟨w.heap.size, 3, none⟩ = some (.slice A0_3 l0_3.length c0_3) := (blk_cell BK.out 3).trans rfl)
        | (go_at_call 58; (with_reducible refine (impl_isRoom.calls a0_1 true _ A2.out).mono ?_); rintro e w2 ⟨rfl, hb⟩; have n0_ := Aside0.mk (below_then HB.out HB.out.size hb.below); have n1_ := Aside0.mk (blk_below BK.out hb.below); clear HB BK hz0 hz1 hz2 hz3 hb; have HB := n0_; have BK := n1_; clear n0_ n1_; have hz0 : w2.cell? ⟨w.heap.size, 0, none⟩ = some (.int .i64 a0_0) := (blk_cell BK.out 0).trans rfl; have hz1 : w2.cell? ⟨w.heap.size, 1, none⟩ = some (.int .i64 a0_1) := (blk_cell BK.out 1).trans rfl; have hz2 : w2.cell? ⟨w.heap.size, 2, none⟩ = some (.slice A0_2 l0_2.length c0_2) := (blk_cell BK.out 2).trans rfl; have hz3 : w2.cell? ⟨w.heap.size, 3, none⟩ = some (.slice A0_3 l0_3.length c0_3) := (blk_cell BK.out 3).trans rfl)
        | (go_at_call 59; (with_reducible refine (impl_fits.calls k A0_2 c0_2 l0_2 a0_0 true _ (Kd.C_below HR2.out HB.out) HC2.out A3.out).mono ?_); rintro e w2 ⟨rfl, hb⟩; have n0_ := Aside0.mk (below_then HB.out HB.out.size hb); have n1_ := Aside0.mk (blk_below BK.out hb); clear HB BK hz0 hz1 hz2 hz3 hb; have HB := n0_; have BK := n1_; clear n0_ n1_; have hz0 : w2.cell? ⟨w.heap.size, 0, none⟩ = some (.int .i64 a0_0) := (blk_cell BK.out 0).trans rfl; have hz1 : w2.cell? ⟨w.heap.size, 1, none⟩ = some (.int .i64 a0_1) := (blk_cell BK.out 1).trans rfl; have hz2 : w2.cell? ⟨w.heap.size, 2, none⟩ = some (.slice A0_2 l0_2.length c0_2) := (blk_cell BK.out 2).trans rfl; have hz3 : w2.cell? ⟨w.heap.size, 3, none⟩ = some (.slice A0_3 l0_3.length c0_3) := (blk_cell BK.out 3).trans rfl)
        | (go_at_call 59; (with_reducible refine (impl_fits.calls k A0_3 c0_3 l0_3 a0_1 true _ (Kd.C_below HR3.out HB.out) HC3.out A4.out).mono ?_); rintro e w2 ⟨rfl, hb⟩; have n0_ := Aside0.mk (below_then HB.out HB.out.size hb); have n1_ := Aside0.mk (blk_below BK.out hb); clear HB BK hz0 hz1 hz2 hz3 hb; have HB := n0_; have BK := n1_; clear n0_ n1_; have hz0 : w2.cell? ⟨w.heap.size, 0, none⟩ = some (.int .i64 a0_0) := (blk_cell BK.out 0).trans rfl; have hz1 : w2.cell? ⟨w.heap.size, 1, none⟩ = some (.int .i64 a0_1) := (blk_cell BK.out 1).trans rfl; have hz2 : w2.cell? ⟨w.heap.size, 2, none⟩ = some (.slice A0_2 l0_2.length c0_2) := (blk_cell BK.out 2).trans rfl; have hz3 : w2.cell? ⟨w.heap.size, 3, none⟩ = some (.slice A0_3 l0_3.length c0_3) := (blk_cell BK.out 3).trans rfl)
        | (go_at_call 50; (with_reducible refine (allE.calls A0_2 c0_2 l0_2 true _ (Kd.C_below HR2.out HB.out) A5.out).mono ?_); rintro e w2 ⟨rfl, hb⟩; have n0_ := Aside0.mk (below_then HB.out HB.out.size hb); have n1_ := Aside0.mk (blk_below BK.out hb); clear HB BK hz0 hz1 hz2 hz3 hb; have HB := n0_; have BK := n1_; clear n0_ n1_; have hz0 : w2.cell? ⟨w.heap.size, 0, none⟩ = some (.int .i64 a0_0) := (blk_cell BK.out 0).trans rfl; have hz1 : w2.cell? ⟨w.heap.size, 1, none⟩ = some (.int .i64 a0_1) := (blk_cell BK.out 1).trans rfl; have hz2 : w2.cell? ⟨w.heap.size, 2, none⟩ = some (.slice A0_2 l0_2.length c0_2) := (blk_cell BK.out 2).trans rfl; have hz3 : w2.cell? ⟨w.heap.size, 3, none⟩ = some (.slice A0_3 l0_3.length c0_3) := (blk_cell BK.out 3).trans rfl)
        | (go_at_call 50; (with_reducible refine (allE.calls A0_3 c0_3 l0_3 false _ (Kd.C_below HR3.out HB.out) A6.out).mono ?_); rintro e w2 ⟨rfl, hb⟩; have n0_ := Aside0.mk (below_then HB.out HB.out.size hb); have n1_ := Aside0.mk (blk_below BK.out hb); clear HB BK hz0 hz1 hz2 hz3 hb; have HB := n0_; have BK := n1_; clear n0_ n1_; have hz0 : w2.cell? ⟨w.heap.size, 0, none⟩ = some (.int .i64 a0_0) := (blk_cell BK.out 0).trans rfl; have hz1 : w2.cell? ⟨w.heap.size, 1, none⟩ = some (.int .i64 a0_1) := (blk_cell BK.out 1).trans rfl; have hz2 : w2.cell? ⟨w.heap.size, 2, none⟩ = some (.slice A0_2 l0_2.length c0_2) := (blk_cell BK.out 2).trans rfl; have hz3 : w2.cell? ⟨w.heap.size, 3, none⟩ = some (.slice A0_3 l0_3.length c0_3) := (blk_cell BK.out 3).trans rfl))
       go_ret
       exact ⟨rfl, HB.out⟩
      | true =>
       rw [if_pos rfl] at h
       obtain ⟨l, A7, h⟩ := Option.bind_eq_some_iff.mp h
       have A7 := Aside0.mk A7
       by_cases c7 : (l.all fun x => decide (x.f0.size ≤ 9223372036854775807)) = true
       ·rw [if_pos c7, Option.some.injEq] at h
        have H7 := Aside0.mk c7
        have H8 := Aside0.mk h
        clear c7 h
        have hmm := @run_makeMap Try.prog
        have law9 : Maps.Keyed Try.prog 9 := Maps.string_keyed Try.underlying9
        have zero4 : ∀ w, (zeroValue 4).run Try.prog w = .ok (.bool false) w := fun w => by kernel_rfl
        go_enter Try.func22, Try.ntmps22
        go_wp2_with (first
         | (go_at_call 58; (with_reducible refine (impl_isRoom.calls a0_0 true _ A1.out).mono ?_); rintro e w1 ⟨rfl, hb⟩; have HB := Aside0.mk (below_then (below_alloc (Below.refl _ _) (.cells #[.int .i64 a0_0, .int .i64 a0_1, .slice A0_2 l0_2.length c0_2, .slice A0_3 l0_3.length c0_3] 28)) (by simp) hb.below); have BK := Aside0.mk (blk_below (blk_new w (.cells #[.int .i64 a0_0, .int .i64 a0_1, .slice A0_2 l0_2.length c0_2, .slice A0_3 l0_3.length c0_3] 28)) hb.below); clear hb; have hz0 : w1.cell? ⟨w.heap.size, 0, none⟩ = some (.int .i64 a0_0) := (blk_cell BK.out 0).trans rfl; have hz1 : w1.cell? ⟨w.heap.size, 1, none⟩ = some (.int .i64 a0_1) := (blk_cell BK.out 1).trans rfl; have hz2 : w1.cell? ⟨w.heap.size, 2, none⟩ = some (.slice A0_2 l0_2.length c0_2) := (blk_cell BK.out 2).trans rfl; have hz3 : w1.cell? ⟨w.heap.size, 3, none⟩ = some (.slice A0_3 l0_3.length c0_3) := (blk_cell BK.out 3).trans rfl)
         | (go_at_call 58; (with_reducible refine (impl_isRoom.calls a0_1 true _ A2.out).mono ?_); rintro e w2 ⟨rfl, hb⟩; have n0_ := Aside0.mk (below_then HB.out HB.out.size hb.below); have n1_ := Aside0.mk (blk_below BK.out hb.below); clear HB BK hz0 hz1 hz2 hz3 hb; have HB := n0_; have BK := n1_; clear n0_ n1_; have hz0 : w2.cell? ⟨w.heap.size, 0, none⟩ = some (.int .i64 a0_0) := (blk_cell BK.out 0).trans rfl; have hz1 : w2.cell? ⟨w.heap.size, 1, none⟩ = some (.int .i64 a0_1) := (blk_cell BK.out 1).trans rfl; have hz2 : w2.cell? ⟨w.heap.size, 2, none⟩ = some (.slice A0_2 l0_2.length c0_2) := (blk_cell BK.out 2).trans rfl; have hz3 : w2.cell? ⟨w.heap.size, 3, none⟩ = some (.slice A0_3 l0_3.length c0_3) := (blk_cell BK.out 3).trans rfl)
         | (go_at_call 59; (with_reducible refine (impl_fits.calls k A0_2 c0_2 l0_2 a0_0 true _ (Kd.C_below HR2.out HB.out) HC2.out A3.out).mono ?_); rintro e w2 ⟨rfl, hb⟩; have n0_ := Aside0.mk (below_then HB.out HB.out.size hb); have n1_ := Aside0.mk (blk_below BK.out hb); clear HB BK hz0 hz1 hz2 hz3 hb; have HB := n0_; have BK := n1_; clear n0_ n1_; have hz0 : w2.cell? ⟨w.heap.size, 0, none⟩ = some (.int .i64 a0_0) := (blk_cell BK.out 0).trans rfl; have hz1 : w2.cell? ⟨w.heap.size, 1, none⟩ = some (.int .i64 a0_1) := (blk_cell BK.out 1).trans rfl; have hz2 : w2.cell? ⟨w.heap.size, 2, none⟩ = some (.slice A0_2 l0_2.length c0_2) := (blk_cell BK.out 2).trans rfl; have hz3 : w2.cell? ⟨w.heap.size, 3, none⟩ = some (.slice A0_3 l0_3.length c0_3) := (blk_cell BK.out 3).trans rfl)
         | (go_at_call 59; (with_reducible refine (impl_fits.calls k A0_3 c0_3 l0_3 a0_1 true _ (Kd.C_below HR3.out HB.out) HC3.out A4.out).mono ?_); rintro e w2 ⟨rfl, hb⟩; have n0_ := Aside0.mk (below_then HB.out HB.out.size hb); have n1_ := Aside0.mk (blk_below BK.out hb); clear HB BK hz0 hz1 hz2 hz3 hb; have HB := n0_; have BK := n1_; clear n0_ n1_; have hz0 : w2.cell? ⟨w.heap.size, 0, none⟩ = some (.int .i64 a0_0) := (blk_cell BK.out 0).trans rfl; have hz1 : w2.cell? ⟨w.heap.size, 1, none⟩ = some (.int .i64 a0_1) := (blk_cell BK.out 1).trans rfl; have hz2 : w2.cell? ⟨w.heap.size, 2, none⟩ = some (.slice A0_2 l0_2.length c0_2) := (blk_cell BK.out 2).trans rfl; have hz3 : w2.cell? ⟨w.heap.size, 3, none⟩ = some (.slice A0_3 l0_3.length c0_3) := (blk_cell BK.out 3).trans rfl)
         | (go_at_call 50; (with_reducible refine (allE.calls A0_2 c0_2 l0_2 true _ (Kd.C_below HR2.out HB.out) A5.out).mono ?_); rintro e w2 ⟨rfl, hb⟩; have n0_ := Aside0.mk (below_then HB.out HB.out.size hb); have n1_ := Aside0.mk (blk_below BK.out hb); clear HB BK hz0 hz1 hz2 hz3 hb; have HB := n0_; have BK := n1_; clear n0_ n1_; have hz0 : w2.cell? ⟨w.heap.size, 0, none⟩ = some (.int .i64 a0_0) := (blk_cell BK.out 0).trans rfl; have hz1 : w2.cell? ⟨w.heap.size, 1, none⟩ = some (.int .i64 a0_1) := (blk_cell BK.out 1).trans rfl; have hz2 : w2.cell? ⟨w.heap.size, 2, none⟩ = some (.slice A0_2 l0_2.length c0_2) := (blk_cell BK.out 2).trans rfl; have hz3 : w2.cell? ⟨w.heap.size, 3, none⟩ = some (.slice A0_3 l0_3.length c0_3) := (blk_cell BK.out 3).trans rfl)
         | (go_at_call 50; (with_reducible refine (allE.calls A0_3 c0_3 l0_3 true _ (Kd.C_below HR3.out HB.out) A6.out).mono ?_); rintro e w2 ⟨rfl, hb⟩; have n0_ := Aside0.mk (below_then HB.out HB.out.size hb); have n1_ := Aside0.mk (blk_below BK.out hb); clear HB BK hz0 hz1 hz2 hz3 hb; have HB := n0_; have BK := n1_; clear n0_ n1_; have hz0 : w2.cell? ⟨w.heap.size, 0, none⟩ = some (.int .i64 a0_0) := (blk_cell BK.out 0).trans rfl; have hz1 : w2.cell? ⟨w.heap.size, 1, none⟩ = some (.int .i64 a0_1) := (blk_cell BK.out 1).trans rfl; have hz2 : w2.cell? ⟨w.heap.size, 2, none⟩ = some (.slice A0_2 l0_2.length c0_2) := (blk_cell BK.out 2).trans rfl; have hz3 : w2.cell? ⟨w.heap.size, 3, none⟩ = some (.slice A0_3 l0_3.length c0_3) := (blk_cell BK.out 3).trans rfl)
         | ((with_reducible refine gate_dst (N := 44) rfl ?_); refine Kd.event_run (w1 := w2.alloc (.map #[] 0)) (v := .map (some w2.heap.size)) rfl ?hr ?_; (case hr => go_simp; done); have HM := Aside0.mk (World.ownsMap_made (H := Unit) w2 Try.prog 9 (plainElem Try.prog 4)); have n0_ := Aside0.mk (below_alloc HB.out (.map #[] 0)); have n1_ := Aside0.mk (blk_alloc BK.out (.map #[] 0)); have GB := Aside0.mk HB.out.size; clear HB BK hz0 hz1 hz2 hz3; have HB := n0_; have BK := n1_; clear n0_ n1_; generalize w2.alloc (.map #[] 0) = w3 at HM HB BK ⊢; generalize w2.heap.size = B at HM GB ⊢; have hz0 : w3.cell? ⟨w.heap.size, 0, none⟩ = some (.int .i64 a0_0) := (blk_cell BK.out 0).trans rfl; have hz1 : w3.cell? ⟨w.heap.size, 1, none⟩ = some (.int .i64 a0_1) := (blk_cell BK.out 1).trans rfl; have hz2 : w3.cell? ⟨w.heap.size, 2, none⟩ = some (.slice A0_2 l0_2.length c0_2) := (blk_cell BK.out 2).trans rfl; have hz3 : w3.cell? ⟨w.heap.size, 3, none⟩ = some (.slice A0_3 l0_3.length c0_3) := (blk_cell BK.out 3).trans rfl)
         | (go_at_call 60; refine (slices_ConcatE.calls (some ⟨w3.heap.size, 0, none⟩) 2 [l0_2, l0_3] l _ ?hC A7.out).mono ?_; (case hC => exact C_two HC2.out (Kd.C_alloc (Kd.C_below HR2.out HB.out) _) HC3.out (Kd.C_alloc (Kd.C_below HR3.out HB.out) _) (by rw [add_plain]; exact (blk_cell (blk_new w3 _) 0).trans rfl) (by rw [add_plain]; exact (blk_cell (blk_new w3 _) 1).trans rfl)); rintro e w4 ⟨v4, rfl, ho, hb⟩; have HBL := Aside0.mk HM.out.lt; have HM4 := Aside0.mk ((HM.out.alloc _).kept (grown_of_below hb none) (by simp)); have hsz4 : w.heap.size ≤ (w3.alloc (Obj.cells #[Value.slice A0_2 l0_2.length c0_2, Value.slice A0_3 l0_3.length c0_3] 26)).heap.size := (by have := HB.out.size; simp only [World.size_alloc]; omega); have HR4 := Aside0.mk (Kd.R_lower (Kd.R_mono (Kd.R_bound ho) (ok' := fun k => k ≠ B) (fun k hk => by have h1 := hk.2.1; have h2 := HBL.out; simp only [World.size_alloc] at h1; omega)) hsz4); have HB4 := Aside0.mk (below_then (below_alloc HB.out _) hsz4 hb); clear ho hb hsz4 hz0 hz1 hz2 hz3; obtain ⟨Al, cl, ev⟩ := Kd.R_slice HR4.out; subst ev))
        go_loopg [5, 52] l.length (fun gg _ s52 wr => ∃ (j : Nat) (D : DataW Unit) (seen : List (List UInt8)), j ≤ l.length ∧ l.length - j ≤ gg ∧ s52 = .int .i64 j ∧ Aside0 (wr.ownsMap Try.prog 9 (plainElem Try.prog 4) B j D) ∧ Aside0 (∀ s : ByteArray, D.atKey (.string s.data.toList) (.lit (.bool false)) = .lit (.bool (seen.contains s.data.toList))) ∧ Aside0 (Kd.R k45 45 wr w.heap.size (fun k => k ≠ B) (.slice Al l.length cl) l) ∧ Aside0 (Below w.heap.size w wr) ∧ Aside0 (uniqE seen (l.drop j) = r))
        case atStart => exact ⟨0, .map [], [], Nat.zero_le _, by omega, rfl, HM4, ⟨fun s => rfl⟩, HR4, HB4, H8⟩
        case round =>
         obtain ⟨j, D, seen, hj, hg, rfl, HMr, HD, HRr, HBr, HU⟩ := hrel
         have hmax := Kd.C_max (Kd.R_reads' HRr.out).2.2
         by_cases hlt : j < l.length
         ·have hlt' : (j : Int) < (l.length : Int) := by omega
          have h0 : (0 : Int) ≤ (j : Int) := by omega
          have hu := HU.out
          rw [List.drop_eq_getElem_cons hlt] at hu
          simp only [uniqE] at hu
          obtain ⟨ad, ea, hx0, hx1⟩ := at_T45 (Kd.R_reads' HRr.out).2.2 (j : Int) h0 hlt'
          cases ea
          have e : rd_T45 l (j : Int) = l[j] := by
           show l.getD j _ = _
           rw [List.getD_eq_getElem?_getD, List.getElem?_eq_getElem hlt]; rfl
          rw [e] at hx0 hx1
          simp only [Int.toNat_natCast] at hx0 hx1
          have hsz : l[j].f0.size ≤ 9223372036854775807 := of_decide_eq_true (List.all_eq_true.1 H7.out _ (List.getElem_mem hlt))
          generalize l[j] = y at hu hx0 hx1 hsz
          have hkey : keyOf Try.prog 9 (.string y.f0) = some (.string y.f0.data.toList) := Go.WideMaps.keyOf_string_mk Try.underlying9 hsz
          have HU2 := Aside0.mk hu
          have hmx := Aside0.mk hmax
          clear hu hsz
          cases hc : seen.contains y.f0.data.toList with
          | true =>
           rw [hc, if_pos rfl] at HU2
           go_wp2_with (first
            | (at_lookup; refine wpList_lookup_own_bool _ rfl _ _ 90 rfl 9 4 law9 Try.underlying90 Try.underlying4 (zero4 _) B j D rfl (HMr.out.alloc _) _ _ rfl hkey ?_; intro c hat; rw [HD.out, hc] at hat; obtain rfl : true = c := (by simpa using hat); clear hat))
           go_ret
           exact ⟨congrArg (fun z => Ending.returned (.bool z)) HU2.out, below_alloc HBr.out _⟩
          | false =>
           rw [hc, if_neg (by simp)] at HU2
           go_wp2_with (first
            | (at_lookup; refine wpList_lookup_own_bool _ rfl _ _ 90 rfl 9 4 law9 Try.underlying90 Try.underlying4 (zero4 _) B j D rfl (HMr.out.alloc _) _ _ rfl hkey ?_; intro c hat; rw [HD.out, hc] at hat; obtain rfl : false = c := (by simpa using hat); clear hat)
            | (at_mapUpdate; refine wpList_mapUpdate_own _ rfl _ _ _ 90 rfl 9 4 law9 Try.underlying90 _ B j D rfl (HMr.out.alloc _) (by unfold maxLen; have := hmx.out; omega) _ _ _ rfl rfl hkey _ [] (plainElem_bool Try.underlying4 true) ?_; intro w5 hown5 hgrow5; have HM5 := Aside0.mk hown5; have HG5 := Aside0.mk hgrow5; clear hown5 hgrow5))
           go_roundg (l.length - (j + 1))
           case measure => omega
           case rel =>
            refine ⟨j + 1, _, y.f0.data.toList :: seen, by omega, by omega, by go_num, HM5, ⟨fun s => ?_⟩, ⟨Kd.R_grown (Kd.R_alloc HRr.out _) HG5.out (fun k hk => by simpa using hk)⟩, ⟨(below_alloc HBr.out _).grown HG5.out (below_size (below_alloc HBr.out _)) (fun k hk => by cases hk; exact GB.out)⟩, HU2⟩
            by_cases hs : s.data.toList = y.f0.data.toList
            ·rw [hs, Maps.atKey_put_same (k := .string y.f0.data.toList) (HMr.out.tidy law9).isMap trivial]
             simp
            ·rw [Maps.atKey_put_other (by intro hh; injection hh with hh; exact hs hh), HD.out]
             congr 2
             simp [hs]
         ·have hlt' : ¬ (j : Int) < (l.length : Int) := by omega
          obtain rfl : j = l.length := by omega
          have HU2 := HU.out
          rw [List.drop_length] at HU2
          simp only [uniqE] at HU2
          have HU3 := Aside0.mk HU2
          clear HU2
          go_wp2
          go_ret
          exact ⟨congrArg (fun z => Ending.returned (.bool z)) HU3.out, HBr.out⟩
       ·rw [if_neg c7] at h; exact absurd h (by simp)

/-! ### slices.Clone over entries: function 69 -/
def slices_CloneE.f (l0 : List S45) : Option (List S45) := if l0.length < 4398046511104 then some l0 else none
set_option maxHeartbeats 2000000 in
set_option maxRecDepth 100000 in
theorem slices_CloneE.calls (A0 : Option Addr) (c0 : Nat) (l0 : List S45) (r : List S45) (w : World) (hr0 : Kd.C k45 w A0 l0.length l0) (hc0 : l0.length ≤ c0) (h : slices_CloneE.f l0 = some r) :
  Calls Try.prog 69 #[.slice A0 l0.length c0] w fun e w' => ∃ v0_ : Value, e = .returned (v0_) ∧ Kd.R k45 45 w' w.heap.size (fun _ => True) v0_ r ∧ Below w.heap.size w w' := by
 unfold slices_CloneE.f at h
 by_cases c : l0.length < 4398046511104
 ·rw [if_pos c, Option.some.injEq] at h
  subst h
  have LM := Aside0.mk c
  have HR0 := Aside0.mk hr0
  clear hr0 hc0 c
  have hq : ∀ (w : World) (a : Option Addr) (n c n' c' : Nat), (binOp .eql 26 (.slice a n c) (.slice none n' c')).run Try.prog w = .ok (.bool a.isNone) w := fun w a n c n' c' => Lib.run_eql_slice_nil w _ _ a n c n' c' Try.underlying26
  cases A0 with
  | none =>
   have h0 : l0 = [] := by
    rcases Nat.eq_zero_or_pos l0.length with h0 | h0
    ·exact List.eq_nil_of_length_eq_zero h0
    ·obtain ⟨ad, h, _⟩ := HR0.out.2.2 h0; cases h
   subst h0
   go_enter Try.func69, Try.ntmps69
   go_wp2
   go_ret
   exact ⟨_, rfl, Kd.R_nil _ _ _ _ _, Below.refl _ _⟩
  | some ad =>
   go_enter Try.func69, Try.ntmps69
   go_wp2_with (first
    | ((with_reducible refine gate_dst (N := 5) rfl ?_); refine Kd.R_lit k45 _ 45 ?hg (N := 5) ?hd (xs := ([] : List (S45))) (inner := []) (ok := fun _ => True) (okp := fun _ => True) ?hr ?hp (fun _ hk => hk) trivial (Below.refl _ _) (Nat.le_refl _) (by simp) ?_; (case hd => rfl); (case hg => rfl); (case hr => first | (go_simp; done) | (go_simp; rfl)); (case hp => exact (Reps.none _ _)); intro v1 w1 ho1 hb hg_ hnew_; clear hg_ hnew_; have HO := Aside0.mk ho1; have HB := Aside0.mk hb; clear ho1 hb)
    | ((with_reducible refine gate_builtin (b := .append) (xs := #[.tmp 5, .tmp 6]) rfl ?_); at_builtin; refine Kd.R_append_rows k45 (w0 := w) w.heap.size rfl (.tmp 5) (.tmp 6) 26 45 (.agg #[(.string ⟨#[]⟩), (.string ⟨#[]⟩)]) 32 rfl Try.underlying26 info45 rfl (by decide) (by omega) v1 [] l0 _ _ _ (fun _ => True) (fun _ => False) rfl rfl ?aO ?aR (fun _ _ h => h) (fun _ h => h.elim) ?aF ?aB ?aS ?aL ?_; (case aR => exact Kd.C_below HR0.out HB.out); (case aB => exact HB.out); (case aF => exact (fun _ _ => trivial)); (case aO => exact HO.out); (case aS => exact HB.out.size); (case aL => have := LM.out; simp only [List.length_nil]; omega); intro v2 w2 ho hb hg hat; have HO2 := Aside0.mk ho; have HB2 := Aside0.mk hb; clear ho hb hg hat))
   go_ret
   exact ⟨_, rfl, HO2.out, HB2.out⟩
 ·rw [if_neg c] at h; exact absurd h (by simp)

/-! ### impl_Segmented_own: function 45 -/
def impl_Segmented_own.f (a0_0 : Int) (a0_1 : Int) (l0_2 : List (S45)) (l0_3 : List (S45)) : Option (Int × Int × (List (S45)) × (List (S45))) := (slices_CloneE.f l0_2).bind fun t163 => ((slices_CloneE.f l0_3).bind fun t166 => (some (a0_0, a0_1, t163, t166)))
def impl_Segmented_own.T1 : Bool × List (List Nat × List Nat) := (true, [([], []), ([0], [0]), ([1], [1]), ([], []), ([3], [3]), ([4, 2], [4]), ([0, 1, 2, 3, 4], []), ([6, 2, 5, 0, 1, 2, 3, 4], [2, 6]), ([0, 1, 2, 3, 4, 5, 6, 7], []), ([8, 5, 7, 0, 1, 2, 3, 4, 5, 6, 7], [5, 8])])
def impl_Segmented_own.B1 : List Nat := [0, 1, 3, 0, 8, 31, 31, 127, 255, 511]
theorem impl_Segmented_own.tab1 : rtab .any (opsOf Try.f45 1) = impl_Segmented_own.T1 := by kernel_rfl
theorem impl_Segmented_own.bits1 : waitsOk impl_Segmented_own.T1.2 impl_Segmented_own.B1 = true := by kernel_rfl
set_option maxHeartbeats 8000000 in
set_option maxRecDepth 100000 in
theorem impl_Segmented_own.calls (a0_0 : Int) (a0_1 : Int) (A0_2 : Option Addr) (c0_2 : Nat) (l0_2 : List (S45)) (A0_3 : Option Addr) (c0_3 : Nat) (l0_3 : List (S45)) (r1 : Int) (r2 : Int) (r3 : List (S45)) (r4 : List (S45)) (w : World) (hr0_2 : Kd.C k45 w A0_2 l0_2.length l0_2) (hc0_2 : l0_2.length ≤ c0_2) (hr0_3 : Kd.C k45 w A0_3 l0_3.length l0_3) (hc0_3 : l0_3.length ≤ c0_3) (h : impl_Segmented_own.f a0_0 a0_1 l0_2 l0_3 = some (r1, r2, r3, r4)) :
  Calls Try.prog 45 #[.agg #[.int .i64 a0_0, .int .i64 a0_1, .slice A0_2 l0_2.length c0_2, .slice A0_3 l0_3.length c0_3]] w fun e w' => ∃ v2_ v3_ : Value, e = .returned (.agg #[.int .i64 r1, .int .i64 r2, v2_, v3_]) ∧ Kd.R k45 45 w' w.heap.size (fun k_ => some k_ ≠ (v3_ : Value).ownBlock) v2_ r3 ∧ Kd.R k45 45 w' w.heap.size (fun k_ => some k_ ≠ (v2_ : Value).ownBlock) v3_ r4 ∧ Below w.heap.size w w' := by
 have hu28 := Try.underlying28
 have HR0_2 := Aside0.mk hr0_2
 have HC0_2 := Aside0.mk hc0_2
 clear hr0_2 hc0_2
 have HR0_3 := Aside0.mk hr0_3
 have HC0_3 := Aside0.mk hc0_3
 clear hr0_3 hc0_3
 have HB := Aside0.mk (Below.refl w.heap.size w)
 have H : ((slices_CloneE.f l0_2).bind fun t163 => ((slices_CloneE.f l0_3).bind fun t166 => (some (a0_0, a0_1, t163, t166)))) = some (r1, r2, r3, r4) := h
 clear h
 replace H := Option.bind_eq_some_iff.mp H
 obtain ⟨t163, A20, H⟩ := H
 try dsimp only at H
 have A2 := Aside0.mk A20
 clear A20
 replace H := Option.bind_eq_some_iff.mp H
 obtain ⟨t166, A30, H⟩ := H
 try dsimp only at H
 have A3 := Aside0.mk A30
 clear A30
 simp only [Option.some.injEq, Prod.mk.injEq] at H
 obtain ⟨rfl, rfl, rfl, rfl⟩ := H
 go_enter Try.func45, Try.ntmps45
 try go_wp2_with (first | ((with_reducible refine gate_dst (N := 1) rfl ?_); refine box_event ?hg (N := 1) ?hd (cs := #[.int .i64 a0_0, .int .i64 a0_1, .slice A0_2 l0_2.length c0_2, .slice A0_3 l0_3.length c0_3]) (t := 28) ?hr ?_; (case hd => rfl); (case hg => rfl); (case hr => first | (go_simp; done) | (go_simp; rfl)); intro gb161 hg w4 hbox hb; have n0_ := Aside0.mk (below_step (bl HB.out) hb); have n1_ := Aside0.mk (hbox); have n2_ := Aside0.mk ((by rw [hg]; exact (below_size (bl HB.out)) : w.heap.size ≤ gb161)); have n3_ := Aside0.mk ((by rw [hg]; exact (below_size (bl HB.out)) : w.heap.size ≤ gb161)); clear HB; have HB := n0_; have BK161 := n1_; have GW161 := n2_; have GE161 := n3_; clear n0_ n1_ n2_ n3_; clear hb hbox hg) | ((with_reducible refine gate_dst (N := 2) rfl ?_); refine box_event ?hg (N := 2) ?hd (cs := #[.int .i64 0, .int .i64 0, .slice none 0 0, .slice none 0 0]) (t := 28) ?hr ?_; (case hd => rfl); (case hg => rfl); (case hr => first | (go_simp; done) | (go_simp; rfl)); intro gb162 hg w5 hbox hb; have n0_ := Aside0.mk (blk_below (bk BK161.out) hb); have n1_ := Aside0.mk (below_step (bl1 HB.out GE161.out) hb); have n2_ := Aside0.mk (hbox); have n3_ := Aside0.mk ((by rw [hg]; exact (below_size (bl1 HB.out GE161.out)) : w.heap.size ≤ gb162)); have n4_ := Aside0.mk ((by rw [hg]; exact (below_size (bl1 HB.out GE161.out)) : w.heap.size ≤ gb162)); have n5_ := Aside0.mk ((by rw [hg]; exact Nat.ne_of_lt (blk_lt (bk BK161.out)) : gb161 ≠ gb162)); have n6_ := Aside0.mk ((by rw [hg]; exact Nat.ne_of_gt (blk_lt (bk BK161.out)) : gb162 ≠ gb161)); clear BK161; clear HB; have BK161 := n0_; have HB := n1_; have BK162 := n2_; have GW162 := n3_; have GE162 := n4_; have NB161_162 := n5_; have NB162_161 := n6_; clear n0_ n1_ n2_ n3_ n4_ n5_ n6_; clear hb hbox hg))
 have n0_ := Aside0.mk (blk_drew BK161.out)
 have n1_ := Aside0.mk (blk_drew BK162.out)
 have n2_ := Aside0.mk (below_drew1 HB.out)
 clear BK161
 clear BK162
 clear HB
 have BK161 := n0_
 have BK162 := n1_
 have HB := n2_
 clear n0_ n1_ n2_
 refine start_ (n := 10) (S := fun w' => w'.cell? ⟨gb161, 0, none⟩ = some (.int .i64 a0_0) ∧ w'.cell? ⟨gb161, 1, none⟩ = some (.int .i64 a0_1) ∧ w'.cell? ⟨gb161, 2, none⟩ = some (.slice A0_2 l0_2.length c0_2) ∧ w'.cell? ⟨gb161, 3, none⟩ = some (.slice A0_3 l0_3.length c0_3)) (ds := [7, 9]) #[false, false, false, false, false, false, false, false, false, false] (by kernel_rfl) rfl rfl ⟨(blk_cell BK161.out 0).trans rfl, (blk_cell BK161.out 1).trans rfl, (blk_cell BK161.out 2).trans rfl, (blk_cell BK161.out 3).trans rfl⟩ (fun hHeld => ?_); refine with_tabW impl_Segmented_own.tab1 impl_Segmented_own.bits1 (fun HT_ HW_ => ?_)
 generalize w5.drew = w6 at BK161 BK162 HB hHeld ⊢
 refine pure_ (i := 0) (N := some 3) (v := ?_) (a' := ?_) #[true, false, false, false, false, false, false, false, false, false] rfl rfl (any_of HT_.out (by kernel_rfl)) (fun _ _ _ h => h) (Or.inl ⟨by rfl, ?_⟩) ?_ ?_
 rotate_left
 ·intro w'
  go_simp
  with_reducible rfl
 rotate_left
 ·simp only [Act.put, List.setIfInBounds_toArray, List.set_cons_zero, List.set_cons_succ, i64_w, i32_w]
  rfl
 refine pure_ (i := 3) (N := some 6) (v := ?_) (a' := ?_) #[true, false, false, true, false, false, false, false, false, false] rfl rfl (any_of HT_.out (by kernel_rfl)) (fun _ _ _ h => h) (Or.inl ⟨by rfl, ?_⟩) ?_ ?_
 rotate_left
 ·intro w'
  go_simp
  with_reducible rfl
 rotate_left
 ·simp only [Act.put, List.setIfInBounds_toArray, List.set_cons_zero, List.set_cons_succ, i64_w, i32_w]
  rfl
 refine take_ (i := 1) (N := some 4) (v := ?_) (a' := ?_) #[true, true, false, true, false, false, false, false, false, false] rfl rfl (take_ofW HT_.out HW_.out (by kernel_rfl)) (fun _ _ _ h => h) (Or.inl ⟨by rfl, ?_⟩) hHeld ?_ ?_
 rotate_left
 ·rintro w' ⟨s0, s1, s2, s3⟩
  go_simp
  with_reducible rfl
 rotate_left
 ·simp only [Act.put, List.setIfInBounds_toArray, List.set_cons_zero, List.set_cons_succ, i64_w, i32_w]
  rfl
 refine take_ (i := 4) (N := some 7) (v := ?_) (a' := ?_) #[true, true, false, true, true, false, false, false, false, false] rfl rfl (take_ofW HT_.out HW_.out (by kernel_rfl)) (fun _ _ _ h => h) (Or.inl ⟨by rfl, ?_⟩) hHeld ?_ ?_
 rotate_left
 ·rintro w' ⟨s0, s1, s2, s3⟩
  go_simp
  with_reducible rfl
 rotate_left
 ·simp only [Act.put, List.setIfInBounds_toArray, List.set_cons_zero, List.set_cons_succ, i64_w, i32_w]
  rfl
 refine one_ (i := 2) (N := some 5) #[true, true, true, true, true, false, false, false, false, false] rfl rfl (one_of HT_.out (by kernel_rfl)) (by decide) (fun K hK => ?_)
 refine goes_ Try.func69 (by kernel_rfl) rfl #[.slice A0_2 l0_2.length c0_2] (by rfl) rfl rfl (by (try simp only [List.map_toArray, List.map_cons, List.map_nil]); first | done | rfl | (simp only [List.length_drop, List.length_take]; rfl)) ?_
 with_reducible refine (slices_CloneE.calls _ _ l0_2 t163 _ ?side1 ?side2 A2.out).mono ?_
 (case side1 => exact kc (Kd.C_below HR0_2.out HB.out))
 (case side2 => exact HC0_2.out)
 rintro e w7 ⟨v164, rfl, ho0, hb⟩
 refine ⟨_, rfl, ?_⟩
 have n0_ := Aside0.mk (Kd.R_lower ho0 (below_size (bl2 HB.out GE161.out GE162.out)))
 have n1_ := Aside0.mk (blk_below (bk BK161.out) hb)
 have n2_ := Aside0.mk (blk_below (bk BK162.out) hb)
 have n3_ := Aside0.mk (below_step (bl2 HB.out GE161.out GE162.out) hb)
 clear BK161
 clear BK162
 clear HB
 have HO165 := n0_
 have BK161 := n1_
 have BK162 := n2_
 have HB := n3_
 clear n0_ n1_ n2_ n3_
 (try clear hb)
 (try clear hb2)
 (try clear hk)
 (try clear hi)
 (try clear ho0)
 refine hK.out _ _ ⟨(blk_cell BK161.out 0).trans rfl, (blk_cell BK161.out 1).trans rfl, (blk_cell BK161.out 2).trans rfl, (blk_cell BK161.out 3).trans rfl⟩ (fun hHeld => ?_)
 clear hK K
 refine norm_ (a' := ?_) ?_ ?_
 rotate_left
 ·show Act.put _ (some 5) _ = _
  simp only [Act.put, List.setIfInBounds_toArray, List.set_cons_zero, List.set_cons_succ, i64_w, i32_w]
  rfl
 refine pure_ (i := 6) (N := some 9) (v := ?_) (a' := ?_) #[true, true, true, true, true, false, true, false, false, false] rfl rfl (any_of HT_.out (by kernel_rfl)) (fun _ _ _ h => h) (Or.inl ⟨by rfl, ?_⟩) ?_ ?_
 rotate_left
 ·intro w'
  go_simp
  with_reducible rfl
 rotate_left
 ·simp only [Act.put, List.setIfInBounds_toArray, List.set_cons_zero, List.set_cons_succ, i64_w, i32_w]
  rfl
 refine one_ (i := 5) (N := some 8) #[true, true, true, true, true, true, true, false, false, false] rfl rfl (one_of HT_.out (by kernel_rfl)) (by decide) (fun K hK => ?_)
 refine goes_ Try.func69 (by kernel_rfl) rfl #[.slice A0_3 l0_3.length c0_3] (by rfl) rfl rfl (by (try simp only [List.map_toArray, List.map_cons, List.map_nil]); first | done | rfl | (simp only [List.length_drop, List.length_take]; rfl)) ?_
 with_reducible refine (slices_CloneE.calls _ _ l0_3 t166 _ ?side1 ?side2 A3.out).mono ?_
 (case side1 => exact kc (Kd.C_below HR0_3.out HB.out))
 (case side2 => exact HC0_3.out)
 rintro e w8 ⟨v167, rfl, ho0, hb⟩
 refine ⟨_, rfl, ?_⟩
 have n0_ := Aside0.mk (Kd.R_elder' (kr HO165.out) (Kd.R_base ho0) hb)
 have n1_ := Aside0.mk (Kd.R_lower (Kd.R_new' ho0 (Kd.R_lt (kr HO165.out))) (below_size (bl2 HB.out GE161.out GE162.out)))
 have n2_ := Aside0.mk (blk_below (bk BK161.out) hb)
 have n3_ := Aside0.mk (blk_below (bk BK162.out) hb)
 have n4_ := Aside0.mk (below_step (bl2 HB.out GE161.out GE162.out) hb)
 clear HO165
 clear BK161
 clear BK162
 clear HB
 have HO165 := n0_
 have HO168 := n1_
 have BK161 := n2_
 have BK162 := n3_
 have HB := n4_
 clear n0_ n1_ n2_ n3_ n4_
 (try clear hb)
 (try clear hb2)
 (try clear hk)
 (try clear hi)
 (try clear ho0)
 obtain ⟨Ao9, co9, eo9⟩ := Kd.R_slice HO165.out
 (first | subst eo9 | (injection eo9 with f1_ f2_ f3_; have f4_ := f1_.symm; have f5_ := f3_.symm; clear f1_ f2_ f3_; subst f4_; subst f5_))
 obtain ⟨Ao11, co11, eo11⟩ := Kd.R_slice HO168.out
 (first | subst eo11 | (injection eo11 with f1_ f2_ f3_; have f4_ := f1_.symm; have f5_ := f3_.symm; clear f1_ f2_ f3_; subst f4_; subst f5_))
 refine hK.out _ _ ⟨(blk_cell BK161.out 0).trans rfl, (blk_cell BK161.out 1).trans rfl, (blk_cell BK161.out 2).trans rfl, (blk_cell BK161.out 3).trans rfl⟩ (fun hHeld => ?_)
 clear hK K
 refine norm_ (a' := ?_) ?_ ?_
 rotate_left
 ·show Act.put _ (some 8) _ = _
  simp only [Act.put, List.setIfInBounds_toArray, List.set_cons_zero, List.set_cons_succ, i64_w, i32_w]
  rfl
 refine last_ (i := 7) (N := none) #[true, true, true, true, true, true, true, true, false, false] rfl rfl (one_of HT_.out (by kernel_rfl)) (by decide) (fun K hK => ?_)
 have hs10 : w8.cell? ⟨gb161, 2, none⟩ = some (.slice A0_2 l0_2.length c0_2) := (blk_cell BK161.out 2).trans rfl
 have hfs10 := blk_frozen BK161.out 2
 have hns10_1 := NB162_161.out
 have hms10_1 := NB161_162.out
 refine skip_ (w1 := ?_) (by rfl) rfl ?_ ?_
 rotate_left
 ·go_simp
  rfl
 refine hK.out _ _ ?_
 clear hK K
 refine pure_ (i := 8) (N := some 10) (v := ?_) (a' := ?_) #[true, true, true, true, true, true, true, true, true, false] rfl rfl (any_of HT_.out (by kernel_rfl)) (fun _ _ _ h => h) (Or.inl ⟨by rfl, ?_⟩) ?_ ?_
 rotate_left
 ·intro w'
  go_simp
  with_reducible rfl
 rotate_left
 ·simp only [Act.put, List.setIfInBounds_toArray, List.set_cons_zero, List.set_cons_succ, i64_w, i32_w]
  rfl
 refine last_ (i := 9) (N := none) #[true, true, true, true, true, true, true, true, true, true] rfl rfl (one_of HT_.out (by kernel_rfl)) (by decide) (fun K hK => ?_)
 have hs12 : w8.cell? ⟨gb161, 3, none⟩ = some (.slice A0_3 l0_3.length c0_3) := (blk_cell BK161.out 3).trans rfl
 have hfs12 := blk_frozen BK161.out 3
 have hns12_1 := NB162_161.out
 have hms12_1 := NB161_162.out
 refine skip_ (w1 := ?_) (by rfl) rfl ?_ ?_
 rotate_left
 ·go_simp
  rfl
 refine hK.out _ _ ?_
 clear hK K
 refine done_ (done_of HT_.out (by kernel_rfl)) ?_
 have hnb13 := NB161_162.out
 have hnc13 := NB162_161.out
 have hcz14_0 : w8.cell? ⟨gb161, 0, none⟩ = some (.int .i64 a0_0) := (blk_cell BK161.out 0).trans rfl
 have hcz14_1 : w8.cell? ⟨gb161, 1, none⟩ = some (.int .i64 a0_1) := (blk_cell BK161.out 1).trans rfl
 have hcz14_2 : w8.cell? ⟨gb161, 2, none⟩ = some (.slice A0_2 l0_2.length c0_2) := (blk_cell BK161.out 2).trans rfl
 have hcz14_3 : w8.cell? ⟨gb161, 3, none⟩ = some (.slice A0_3 l0_3.length c0_3) := (blk_cell BK161.out 3).trans rfl
 have hfz14_0 := blk_frozen BK161.out 0
 have hfz14_1 := blk_frozen BK161.out 1
 have hfz14_2 := blk_frozen BK161.out 2
 have hfz14_3 := blk_frozen BK161.out 3
 have hcz15_0 : w8.cell? ⟨gb162, 0, none⟩ = some (.int .i64 0) := (blk_cell BK162.out 0).trans rfl
 have hcz15_1 : w8.cell? ⟨gb162, 1, none⟩ = some (.int .i64 0) := (blk_cell BK162.out 1).trans rfl
 have hcz15_2 : w8.cell? ⟨gb162, 2, none⟩ = some (.slice none 0 0) := (blk_cell BK162.out 2).trans rfl
 have hcz15_3 : w8.cell? ⟨gb162, 3, none⟩ = some (.slice none 0 0) := (blk_cell BK162.out 3).trans rfl
 have hfz15_0 := blk_frozen BK162.out 0
 have hfz15_1 := blk_frozen BK162.out 1
 have hfz15_2 := blk_frozen BK162.out 2
 have hfz15_3 := blk_frozen BK162.out 3
 try go_wp2
 refine bodyPost_ret (results_cell_row rfl _ _ gb162 28 #[.int .i64 a0_0, .int .i64 a0_1, .slice Ao9 t163.length co9, .slice Ao11 t166.length co11] (0, 0) _ rfl (by (with_reducible repeat (first | refine blk_drewN ?_ _ | refine blk_drew ?_ | refine blk_alloc ?_ _)); refine blk_put (cs := #[.int .i64 a0_0, .int .i64 a0_1, .slice Ao9 t163.length co9, .slice none 0 0]) ?_ 3 _ rfl; (with_reducible repeat (first | refine blk_drewN ?_ _ | refine blk_drew ?_ | refine blk_alloc ?_ _)); refine blk_put (cs := #[.int .i64 a0_0, .int .i64 a0_1, .slice none 0 0, .slice none 0 0]) ?_ 2 _ rfl; (with_reducible repeat (first | refine blk_drewN ?_ _ | refine blk_drew ?_ | refine blk_alloc ?_ _)); refine blk_put (cs := #[.int .i64 a0_0, .int .i64 0, .slice none 0 0, .slice none 0 0]) ?_ 1 _ rfl; (with_reducible repeat (first | refine blk_drewN ?_ _ | refine blk_drew ?_ | refine blk_alloc ?_ _)); refine blk_put (cs := #[.int .i64 0, .int .i64 0, .slice none 0 0, .slice none 0 0]) ?_ 0 _ rfl; (with_reducible repeat (first | refine blk_drewN ?_ _ | refine blk_drew ?_ | refine blk_alloc ?_ _)); refine blk_far ?_ NB162_161.out _; (with_reducible repeat (first | refine blk_drewN ?_ _ | refine blk_drew ?_ | refine blk_alloc ?_ _)); refine blk_far ?_ NB162_161.out _; exact bk BK162.out) Try.underlying28 rfl (by kernel_rfl)) rfl ?_
 exact ⟨_, _, by first | rfl | (simp [errW_none, errW_some] <;> rfl) | (simp [*, errW_none, errW_some] <;> rfl), by (with_reducible repeat (first | apply Kd.R_alloc | apply Kd.R_drewN | apply Kd.R_drew)); exact Kd.R_mono (Kd.R_far (p := ⟨gb162, 3, none⟩) (Kd.R_far (p := ⟨gb162, 2, none⟩) (Kd.R_far (p := ⟨gb162, 1, none⟩) (Kd.R_far (p := ⟨gb162, 0, none⟩) (Kd.R_far (p := ⟨gb161, 3, none⟩) (Kd.R_far (p := ⟨gb161, 2, none⟩) (Kd.R_types (Kd.R_types HO165.out BK161.out (by decide)) BK162.out (by decide)) (fun _ hk => hk.1.2) (.slice Ao9 t163.length co9)) (fun _ hk => hk.1.2) (.slice Ao11 t166.length co11)) (fun _ hk => hk.2) (.int .i64 a0_0)) (fun _ hk => hk.2) (.int .i64 a0_1)) (fun _ hk => hk.2) (.slice Ao9 t163.length co9)) (fun _ hk => hk.2) (.slice Ao11 t166.length co11)) (fun _ hk => hk.1.1.2), by (with_reducible repeat (first | apply Kd.R_alloc | apply Kd.R_drewN | apply Kd.R_drew)); exact Kd.R_mono (Kd.R_far (p := ⟨gb162, 3, none⟩) (Kd.R_far (p := ⟨gb162, 2, none⟩) (Kd.R_far (p := ⟨gb162, 1, none⟩) (Kd.R_far (p := ⟨gb162, 0, none⟩) (Kd.R_far (p := ⟨gb161, 3, none⟩) (Kd.R_far (p := ⟨gb161, 2, none⟩) (Kd.R_types (Kd.R_types HO168.out BK161.out (by decide)) BK162.out (by decide)) (fun _ hk => hk.1.2) (.slice Ao9 t163.length co9)) (fun _ hk => hk.1.2) (.slice Ao11 t166.length co11)) (fun _ hk => hk.2) (.int .i64 a0_0)) (fun _ hk => hk.2) (.int .i64 a0_1)) (fun _ hk => hk.2) (.slice Ao9 t163.length co9)) (fun _ hk => hk.2) (.slice Ao11 t166.length co11)) (fun _ hk => hk.1.1.2), bl2 HB.out GE161.out GE162.out⟩

-- NOT PRINTED: function 87 (impl_find_1)

-- NOT PRINTED: function 70 (impl_find)

-- NOT PRINTED: function 71 (impl_Entry_71)

end Go.Proofs.Ytfopmaiednikhaa.PFnExactPutEntry
