-- written by a program of this session (wip/tool)
import Derived.Test.YtfopmaiednikhaaDoorPFnExactMovedKeysx0
import Derived.Test.YtfopmaiednikhaaDoorPFnExactMovedKeysx3
import Derived.Test.YtfopmaiednikhaaDoorOwn0
import Derived.Test.YtfopmaiednikhaaDoorOwnOpen
import Derived.Test.YtfopmaiednikhaaDoorOwnRk
import Derived.WalkKit
import Derived.BigCall
import Derived.Deep.QuietTactic
namespace Go.Proofs.YtfopmaiednikhaaDoor.PFnExactMovedKeys
open Go.RowKit Go.Proofs.YtfopmaiednikhaaDoorW.PrintWords Go.Proofs.YtfopmaiednikhaaDoorW.PrintLast Go.Proofs.YtfopmaiednikhaaDoorW.PrintMore Go.Shelf Go.Proofs.YtfopmaiednikhaaDoorOwn
attribute [local go_sem] max2_int min2_int max_two min_two max_three min_three max_four min_four   -- for this text's walks alone
set_option linter.unusedVariables false
set_option linter.unusedSimpArgs false

/-! ### areAll, function 68, at any predicate -/
set_option maxHeartbeats 800000 in
theorem areAll_g68.neg (h : Nat) (p : Int → Option Bool) (hp : PredOk Tryd.prog h (Value.int .i64) p) (eg : ∀ args w, (callFunc h args).run Tryd.prog w = .ok (.enter h args) w)
    (x : Int) (r : Bool) (b : Nat) (w : World) (hc : w.cell? ⟨b, 0, none⟩ = some (.func (.func h) #[] #[])) (hx : p x = some r) :
    Calls Tryd.prog 96 #[.int .i64 x, .pointer (some ⟨b, 0, none⟩)] w fun e w' => e = .returned (.bool (!r)) ∧ Below w.heap.size w w' := by
  have hh := hp x r
  clear hp
  go_enter Tryd.func96, Tryd.ntmps96
  go_wp2_with (go_at_fn h; refine (hh _ hx).mono ?_; rintro e w' ⟨rfl, hb⟩)
  go_ret
  exact ⟨rfl, hb⟩
set_option maxHeartbeats 800000 in
theorem areAll_g68.idx (h : Nat) (p : Int → Option Bool) (hp : PredOk Tryd.prog h (Value.int .i64) p) (eg : ∀ args w, (callFunc h args).run Tryd.prog w = .ok (.enter h args) w)
    (eg90 : ∀ args w, (callFunc 96 args).run Tryd.prog w = .ok (.enter 96 args) w)
    (A : Option Addr) (c : Nat) (l : List Int) (r : Int) (b : Nat) (w : World) (hr : Kd.C (Kd.int .i64) w A l.length l) (hb : b < w.heap.size) (hcb : w.cell? ⟨b, 0, none⟩ = some (.func (.func h) #[] #[])) (hx : idxO p l 0 = some r) :
    Calls Tryd.prog 126 #[.slice A l.length c, .func (.func 96) #[] #[.pointer (some ⟨b, 0, none⟩)]] w fun e w' => e = .returned (.int .i64 r) ∧ Below w.heap.size w w' := by
  have hm := Kd.C_max hr
  have HX := Aside0.mk hx
  have HP := Aside0.mk hp
  have HR := Aside0.mk hr
  have HC := Aside0.mk hcb
  have EG := Aside0.mk eg
  clear hx hp hr hcb eg
  go_enter Tryd.func126, Tryd.ntmps126
  go_wp2
  go_loopg [5, 8] l.length (fun gg _ s8 wr => ∃ j : Nat, j ≤ l.length ∧ l.length - j ≤ gg ∧ s8 = .int .i64 j ∧ Aside0 (Below w.heap.size w wr) ∧ Aside0 (idxO p (l.drop j) j = some r))
  case atStart => exact ⟨0, Nat.zero_le _, by omega, rfl, ⟨Below.refl _ w⟩, ⟨HX.out⟩⟩
  case round =>
    obtain ⟨j, hj, hg, rfl, BW, HA⟩ := hrel
    by_cases hlt : j < l.length
    · have hlt' : (j : Int) < (l.length : Int) := by omega
      have h0 : (0 : Int) ≤ (j : Int) := by omega
      obtain ⟨bo, hbo, hy, hn⟩ := idxO_step p l 0 j hlt r HA.out
      obtain ⟨ad, ea, hcell⟩ := Kd.at_int (Kd.C_below HR.out BW.out) (j : Int) h0 hlt'
      cases ea
      have hcell2 : wr.cell? (ad.add j) = some (.int .i64 (l.getD j 0)) := hcell
      clear hcell
      have hc2 := (BW.out.cell (p := ⟨b, 0, none⟩) hb).trans HC.out
      have hbw : w.heap.size ≤ wr.heap.size := BW.out.size
      generalize l.getD j 0 = y at hbo hcell2
      have hcall := areAll_g68.neg h p HP.out EG.out y bo b wr hc2 hbo
      have HY := Aside0.mk hy
      have HN := Aside0.mk hn
      have HC2 := Aside0.mk hcall
      clear hy hn hbo hcall hc2
      cases bo with
      | true =>
        go_wp2_with (go_at_fn 96; refine HC2.out.mono ?_; rintro e w' ⟨rfl, hb'⟩)
        go_roundg (l.length - (j + 1))
        case measure => omega
        case rel => exact ⟨j + 1, by omega, by omega, by go_num, ⟨below_then BW.out hbw hb'⟩, ⟨HY.out (by simp)⟩⟩
      | false =>
        go_wp2_with (go_at_fn 96; refine HC2.out.mono ?_; rintro e w' ⟨rfl, hb'⟩)
        go_ret
        exact ⟨congrArg (fun z => Ending.returned (.int .i64 z)) (HN.out (by simp)).symm, below_then BW.out hbw hb'⟩
    · have hlt' : ¬ (j : Int) < (l.length : Int) := by omega
      have : j = l.length := by omega
      subst this
      have HA2 := HA.out
      rw [List.drop_length] at HA2
      simp only [idxO, Option.some.injEq] at HA2
      have HA3 := Aside0.mk HA2
      clear HA2
      go_wp2
      go_ret
      exact ⟨congrArg (fun z => Ending.returned (.int .i64 z)) HA3.out, BW.out⟩
set_option maxHeartbeats 800000 in
theorem areAll_g68.has (h : Nat) (p : Int → Option Bool) (hp : PredOk Tryd.prog h (Value.int .i64) p) (eg : ∀ args w, (callFunc h args).run Tryd.prog w = .ok (.enter h args) w)
    (eg90 : ∀ args w, (callFunc 96 args).run Tryd.prog w = .ok (.enter 96 args) w)
    (A : Option Addr) (c : Nat) (l : List Int) (r : Bool) (b : Nat) (w : World) (hr : Kd.C (Kd.int .i64) w A l.length l) (hb : b < w.heap.size) (hcb : w.cell? ⟨b, 0, none⟩ = some (.func (.func h) #[] #[])) (hx : allO p l = some r) :
    Calls Tryd.prog 95 #[.slice A l.length c, .func (.func 96) #[] #[.pointer (some ⟨b, 0, none⟩)]] w fun e w' => e = .returned (.bool (!r)) ∧ Below w.heap.size w w' := by
  obtain ⟨i, hi, h1, h2⟩ := allO_idx p l r hx 0
  have hcall := fun W hr hb hcb => areAll_g68.idx h p hp eg eg90 A c l i b W hr hb hcb hi
  have HC := Aside0.mk hcall
  have HR := Aside0.mk hr
  have HB := Aside0.mk hcb
  have EG := Aside0.mk eg
  clear hcall hr hp hx hi hcb eg
  cases r with
  | true =>
    obtain rfl := h1 rfl
    clear h1 h2
    go_enter Tryd.func95, Tryd.ntmps95
    go_wp2_with (go_at_call 126; refine (HC.out _ HR.out hb HB.out).mono ?_; rintro e w' ⟨rfl, hb'⟩)
    go_ret
    exact ⟨rfl, hb'⟩
  | false =>
    have h3 := h2 rfl
    have h4 : decide (0 ≤ i) = true := decide_eq_true h3
    clear h1 h2
    go_enter Tryd.func95, Tryd.ntmps95
    go_wp2_with (go_at_call 126; refine (HC.out _ HR.out hb HB.out).mono ?_; rintro e w' ⟨rfl, hb'⟩)
    go_ret
    exact ⟨rfl, hb'⟩
set_option maxHeartbeats 800000 in
theorem areAll_g68.all (h : Nat) (p : Int → Option Bool) (hp : PredOk Tryd.prog h (Value.int .i64) p) (eg : ∀ args w, (callFunc h args).run Tryd.prog w = .ok (.enter h args) w)
    (A : Option Addr) (c : Nat) (l : List Int) (r : Bool) (w : World) (hr : Kd.C (Kd.int .i64) w A l.length l) (hx : allO p l = some r) :
    Calls Tryd.prog 68 #[.slice A l.length c, .func (.func h) #[] #[]] w fun e w' => e = .returned (.bool r) ∧ Below w.heap.size w w' := by
  have eg90 : ∀ args w, (callFunc 96 args).run Tryd.prog w = .ok (.enter 96 args) w := enters_of Tryd.func96 (by kernel_rfl) rfl
  have hcall := fun W b hr hb hcb => areAll_g68.has h p hp eg eg90 A c l r b W hr hb hcb hx
  have HC := Aside0.mk hcall
  have HR := Aside0.mk hr
  have EG := Aside0.mk eg
  clear hcall hr hp hx eg
  go_enter Tryd.func68, Tryd.ntmps68
  go_wp2_with (go_at_call 95; refine (HC.out _ _ (Kd.C_alloc HR.out _) (by simp) (by simp)).mono ?_; rintro e w' ⟨rfl, hb'⟩)
  go_ret
  exact ⟨rfl, below_then (below_alloc (Below.refl _ _) _) (by simp) hb'⟩

/-! ### impl_areAll_int__69: function 68 at the predicate 69 -/
def impl_areAll_int__69.f (l0 : List Int) : Option Bool := allO (fun x => impl_isServer.f x) l0
theorem impl_areAll_int__69.calls (A0 : Option Addr) (c0 : Nat) (l0 : List Int) (r : Bool) (w : World) (hr0 : Kd.C (Kd.int .i64) w A0 l0.length l0) (hc0 : l0.length ≤ c0) (h : impl_areAll_int__69.f l0 = some r) :
    Calls Tryd.prog 68 #[.slice A0 l0.length c0, .func (.func 69) #[] #[]] w fun e w' => e = .returned (.bool r) ∧ Below w.heap.size w w' := by
  refine areAll_g68.all 69 (fun x => impl_isServer.f x) (fun x r w h => ?_) (enters_of Tryd.func69 (by kernel_rfl) rfl) A0 c0 l0 r w hr0 h
  refine (impl_isServer.calls x r w h).mono ?_
  rintro e w' ⟨rfl, hb⟩
  exact ⟨rfl, hb.below⟩

/-! ### impl_areServers: function 45 -/
def impl_areServers.l0 : Nat → List Int → Int → Option (Bool)
  | 0, _, _ => none
  | k + 1, x0, x3 => if x3 < (x0.length : Int) then (if 0 ≤ x3 then (if 0 ≤ (wrap64 (x3 - 1)) then (if (wrap64 (x3 - 1)) < (x0.length : Int) then (if (rd x0 x3) ≤ (rd x0 (wrap64 (x3 - 1))) then (some false) else (impl_areServers.l0 k x0 (wrap64 (x3 + 1)))) else (none)) else (none)) else (none)) else (if (x0.length : Int) ≤ 12 then ((impl_areAll_int__69.f x0).bind fun t184 => (some t184)) else (some false))
def impl_areServers.f (k : Nat) (l0 : List Int) : Option (Bool) := impl_areServers.l0 k l0 1
theorem impl_areServers.mono_l : ∀ k, (∀ y0 y1, LeO (impl_areServers.l0 k y0 y1) (impl_areServers.l0 (k + 1) y0 y1))
  | 0 => fun _ _ r h => by simp [impl_areServers.l0] at h
  | k + 1 => by
    have ih0 := impl_areServers.mono_l k
    · intro y0 y1
      unfold impl_areServers.l0
      repeat' first
      | (with_reducible exact ih0 _ _)
      | (with_reducible exact LeO.refl _)
      | (with_reducible exact LeO.none _)
      | (with_reducible refine LeO.ite ?_ ?_)
      | (with_reducible refine LeO.bind ?_ (fun _ => ?_))
      | exact ih0 _ _
      | exact LeO.none _
      | refine LeO.ite ?_ ?_
      | refine LeO.bind ?_ (fun _ => ?_)
theorem impl_areServers.mono : ∀ a0 k, LeO (impl_areServers.f k a0) (impl_areServers.f (k + 1) a0) := by
  intro a0 k
  have ih0 := impl_areServers.mono_l k
  unfold impl_areServers.f
  repeat' first
      | (with_reducible exact ih0 _ _)
      | (with_reducible exact LeO.refl _)
      | (with_reducible exact LeO.none _)
      | (with_reducible refine LeO.ite ?_ ?_)
      | (with_reducible refine LeO.bind ?_ (fun _ => ?_))
      | exact ih0 _ _
      | exact LeO.none _
      | refine LeO.ite ?_ ?_
      | refine LeO.bind ?_ (fun _ => ?_)
set_option maxHeartbeats 8000000 in
set_option maxRecDepth 100000 in
theorem impl_areServers.calls (k : Nat) (A0 : Option Addr) (c0 : Nat) (l0 : List Int) (r : Bool) (w : World) (hr0 : Kd.C (Kd.int .i64) w A0 l0.length l0) (hc0 : l0.length ≤ c0) (h : impl_areServers.f k l0 = some r) :
    Calls Tryd.prog 45 #[.slice A0 l0.length c0] w fun e w' => e = .returned (.bool r) ∧ Below w.heap.size w w' := by
  have HR0 := Aside0.mk hr0
  have HC0 := Aside0.mk hc0
  clear hr0 hc0
  have HB := Aside0.mk (Below.refl w.heap.size w)
  have H : (impl_areServers.l0 k l0 1) = some r := h
  clear h
  have H' := Aside0.mk H
  clear H
  go_enter Tryd.func45, Tryd.ntmps45
  go_wp2
  repeat (go_quiet (fail); try go_wp2)
  go_loopg [3] k (fun kq v3 w' => ∃ (x3_1 : Int), v3 = .int .i64 x3_1 ∧ Aside0 (impl_areServers.l0 kq l0 x3_1 = some r) ∧ Aside0 (kq ≤ k) ∧ Aside0 (Below w.heap.size w w'))
  case atStart => exact ⟨(1), (by first | rfl | (simp; done) | (simp [*]; done)), H', ⟨Nat.le_refl _⟩, ⟨by repeat (first | (with_reducible first | exact HB.out | apply below_alloc | apply pw_below_drewN | apply below_drew1) | exact HB.out)⟩⟩
  case round =>
    clear H'
    obtain ⟨x3_1, rfl, HA, HK1, HB⟩ := hrel
    cases gk with
    | zero => exact absurd HA.out (by simp [impl_areServers.l0])
    | succ k1 =>
      have H := HA.out
      clear HA
      simp only [impl_areServers.l0] at H
      by_cases c2 : x3_1 < (l0.length : Int)
      · rw [if_pos c2] at H
        have c2b0 : decide (x3_1 < (l0.length : Int)) = true := decide_eq_true c2
        clear c2
        by_cases c3 : 0 ≤ x3_1
        · rw [if_pos c3] at H
          have c3b0 : decide (0 ≤ x3_1) = true := decide_eq_true c3
          clear c3
          obtain ⟨ji4, hji4⟩ : ∃ j_ : Int, (wrap64 (x3_1 - 1)) = j_ := ⟨_, rfl⟩
          replace H : (if 0 ≤ (ji4) then (if (ji4) < (l0.length : Int) then (if (rd l0 x3_1) ≤ (rd l0 (ji4)) then (some false) else (impl_areServers.l0 k1 l0 (wrap64 (x3_1 + 1)))) else (none)) else (none)) = some r := by first | (rw [hji4] at H; exact H) | (simp only [hji4] at H ⊢; exact H)
          have hji4w : (IntKind.i64.wrap (x3_1 - 1)) = ji4 := (i64_w _).trans hji4
          by_cases c5 : 0 ≤ (ji4)
          · rw [if_pos c5] at H
            have c5b0 : decide (0 ≤ (ji4)) = true := decide_eq_true c5
            clear c5
            by_cases c6 : (ji4) < (l0.length : Int)
            · rw [if_pos c6] at H
              have c6b0 : decide ((ji4) < (l0.length : Int)) = true := decide_eq_true c6
              clear c6
              by_cases c7 : (rd l0 x3_1) ≤ (rd l0 (ji4))
              · rw [if_pos c7] at H
                have c7b0 : decide ((rd l0 x3_1) ≤ (rd l0 (ji4))) = true := decide_eq_true c7
                clear c7
                obtain rfl := Option.some.inj H
                have p182 : 0 ≤ (x3_1 : Int) := of_decide_eq_true (by first | (with_reducible assumption) | assumption)
                have q182 : x3_1 < (l0.length : Int) := of_decide_eq_true (by first | (with_reducible assumption) | assumption)
                obtain ⟨ad182, e182, hx182_0⟩ := Kd.at_int HR0.out x3_1 p182 q182
                cases e182
                replace hx182_0 := (HB.out.cell (World.block_lt_of_cell? w _ hx182_0)).trans hx182_0
                replace p182 := eq_true p182
                replace q182 := eq_true q182
                have p183 : 0 ≤ ((ji4) : Int) := of_decide_eq_true (by first | (with_reducible assumption) | assumption)
                have q183 : (ji4) < (l0.length : Int) := of_decide_eq_true (by first | (with_reducible assumption) | assumption)
                obtain ⟨ad183, e183, hx183_0⟩ := Kd.at_int HR0.out (ji4) p183 q183
                obtain rfl : ad182 = ad183 := (by injection e183)
                replace hx183_0 := (HB.out.cell (World.block_lt_of_cell? w _ hx183_0)).trans hx183_0
                replace p183 := eq_true p183
                replace q183 := eq_true q183
                go_wp2
                repeat (go_quiet (fail); try go_wp2)
                go_ret
                exact ⟨by first | rfl | (simp [errW_none, errW_some] <;> rfl) | (simp only [← hji4]; first | rfl | (simp [errW_none, errW_some] <;> rfl)) | (simp [*, errW_none, errW_some] <;> rfl), by repeat (first | (with_reducible first | exact HB.out | apply below_alloc | apply pw_below_drewN | apply below_drew1) | exact HB.out)⟩
              · rw [if_neg c7] at H
                have c7b0 : decide ((rd l0 x3_1) ≤ (rd l0 (ji4))) = false := decide_eq_false c7
                clear c7
                have H' := Aside0.mk H
                clear H
                have p182 : 0 ≤ (x3_1 : Int) := of_decide_eq_true (by first | (with_reducible assumption) | assumption)
                have q182 : x3_1 < (l0.length : Int) := of_decide_eq_true (by first | (with_reducible assumption) | assumption)
                obtain ⟨ad182, e182, hx182_0⟩ := Kd.at_int HR0.out x3_1 p182 q182
                cases e182
                replace hx182_0 := (HB.out.cell (World.block_lt_of_cell? w _ hx182_0)).trans hx182_0
                replace p182 := eq_true p182
                replace q182 := eq_true q182
                have p183 : 0 ≤ ((ji4) : Int) := of_decide_eq_true (by first | (with_reducible assumption) | assumption)
                have q183 : (ji4) < (l0.length : Int) := of_decide_eq_true (by first | (with_reducible assumption) | assumption)
                obtain ⟨ad183, e183, hx183_0⟩ := Kd.at_int HR0.out (ji4) p183 q183
                obtain rfl : ad182 = ad183 := (by injection e183)
                replace hx183_0 := (HB.out.cell (World.block_lt_of_cell? w _ hx183_0)).trans hx183_0
                replace p183 := eq_true p183
                replace q183 := eq_true q183
                go_wp2
                repeat (go_quiet (fail); try go_wp2)
                go_roundg k1
                case measure => have := HK1.out; omega
                case rel => exact ⟨(wrap64 (x3_1 + 1)), (by first | rfl | (simp; done) | (simp [*]; done)), H', ⟨by have := HK1.out; omega⟩, ⟨by repeat (first | (with_reducible first | exact HB.out | apply below_alloc | apply pw_below_drewN | apply below_drew1) | exact HB.out)⟩⟩
            · rw [if_neg c6] at H
              exact absurd H (by simp)
          · rw [if_neg c5] at H
            exact absurd H (by simp)
        · rw [if_neg c3] at H
          exact absurd H (by simp)
      · rw [if_neg c2] at H
        have c2b0 : decide (x3_1 < (l0.length : Int)) = false := decide_eq_false c2
        clear c2
        by_cases c8 : (l0.length : Int) ≤ 12
        · rw [if_pos c8] at H
          have c8b0 : decide ((l0.length : Int) ≤ 12) = true := decide_eq_true c8
          have c8b1 : decide (l0.length ≤ 12) = true := decide_eq_true (by omega)
          clear c8
          replace H := Option.bind_eq_some_iff.mp H
          obtain ⟨t184, A90, H⟩ := H
          replace H : (some t184) = some r := H
          have A9 := Aside0.mk A90
          clear A90
          obtain rfl := Option.some.inj H
          go_wp2_with (first | (go_at_call 68; (with_reducible refine (impl_areAll_int__69.calls _ _ l0  t184 _ ?side1 ?side2 A9.out).mono ?_); (case side1 => repeat (first | exact (Kd.C_below HR0.out HB.out) | (with_reducible refine Kd.C_alloc ?_ _) | (with_reducible refine Kd.C_drewN ?_ _) | (with_reducible refine Kd.C_drew ?_))); (case side2 => exact HC0.out); rintro e w10 ⟨rfl, hb⟩; have n0_ := Aside0.mk (below_step (by repeat (first | (with_reducible first | exact HB.out | apply below_alloc | apply pw_below_drewN | apply below_drew1) | exact HB.out)) hb); clear HB; have HB := n0_; clear n0_; (try clear hb); (try clear hb2); (try clear hk); (try clear hi)))
          repeat (go_quiet (first | (go_at_call 68; (with_reducible refine (impl_areAll_int__69.calls _ _ l0  t184 _ ?side1 ?side2 A9.out).mono ?_); (case side1 => repeat (first | exact (Kd.C_below HR0.out HB.out) | (with_reducible refine Kd.C_alloc ?_ _) | (with_reducible refine Kd.C_drewN ?_ _) | (with_reducible refine Kd.C_drew ?_))); (case side2 => exact HC0.out); rintro e w10 ⟨rfl, hb⟩; have n0_ := Aside0.mk (below_step (by repeat (first | (with_reducible first | exact HB.out | apply below_alloc | apply pw_below_drewN | apply below_drew1) | exact HB.out)) hb); clear HB; have HB := n0_; clear n0_; (try clear hb); (try clear hb2); (try clear hk); (try clear hi))); try go_wp2_with (first | (go_at_call 68; (with_reducible refine (impl_areAll_int__69.calls _ _ l0  t184 _ ?side1 ?side2 A9.out).mono ?_); (case side1 => repeat (first | exact (Kd.C_below HR0.out HB.out) | (with_reducible refine Kd.C_alloc ?_ _) | (with_reducible refine Kd.C_drewN ?_ _) | (with_reducible refine Kd.C_drew ?_))); (case side2 => exact HC0.out); rintro e w10 ⟨rfl, hb⟩; have n0_ := Aside0.mk (below_step (by repeat (first | (with_reducible first | exact HB.out | apply below_alloc | apply pw_below_drewN | apply below_drew1) | exact HB.out)) hb); clear HB; have HB := n0_; clear n0_; (try clear hb); (try clear hb2); (try clear hk); (try clear hi))))
          go_ret
          exact ⟨by first | rfl | (simp [errW_none, errW_some] <;> rfl) | (simp [*, errW_none, errW_some] <;> rfl), by repeat (first | (with_reducible first | exact HB.out | apply below_alloc | apply pw_below_drewN | apply below_drew1) | exact HB.out)⟩
        · rw [if_neg c8] at H
          have c8b0 : decide ((l0.length : Int) ≤ 12) = false := decide_eq_false c8
          have c8b1 : decide (l0.length ≤ 12) = false := decide_eq_false (by omega)
          clear c8
          obtain rfl := Option.some.inj H
          go_wp2
          repeat (go_quiet (fail); try go_wp2)
          go_ret
          exact ⟨by first | rfl | (simp [errW_none, errW_some] <;> rfl) | (simp [*, errW_none, errW_some] <;> rfl), by repeat (first | (with_reducible first | exact HB.out | apply below_alloc | apply pw_below_drewN | apply below_drew1) | exact HB.out)⟩

/-! ### impl_hashed: function 49 -/
def impl_hashed.l0 : Nat → Int → ByteArray → Int → Int → Option (Int)
  | 0, _, _, _, _ => none
  | k + 1, x0, x1, x7, x8 => if x8 < x7 then (if 0 ≤ x8 then (if x8 < (x1.size : Int) then (impl_hashed.l0 k (((Go.bits .xor .u32 x0 ((bt x1 x8) % 4294967296)) * 16777619) % 4294967296) x1 x7 (wrap64 (x8 + 1))) else (none)) else (none)) else (some x0)
def impl_hashed.f (k : Nat) (a0 : Int) (a1 : ByteArray) : Option (Int) := impl_hashed.l0 k a0 a1 (a1.size : Int) 0
theorem impl_hashed.mono_l : ∀ k, (∀ y0 y1 y2 y3, LeO (impl_hashed.l0 k y0 y1 y2 y3) (impl_hashed.l0 (k + 1) y0 y1 y2 y3))
  | 0 => fun _ _ _ _ r h => by simp [impl_hashed.l0] at h
  | k + 1 => by
    have ih0 := impl_hashed.mono_l k
    · intro y0 y1 y2 y3
      unfold impl_hashed.l0
      repeat' first
      | (with_reducible exact ih0 _ _ _ _)
      | (with_reducible exact LeO.refl _)
      | (with_reducible exact LeO.none _)
      | (with_reducible refine LeO.ite ?_ ?_)
      | (with_reducible refine LeO.bind ?_ (fun _ => ?_))
      | exact ih0 _ _ _ _
      | exact LeO.none _
      | refine LeO.ite ?_ ?_
      | refine LeO.bind ?_ (fun _ => ?_)
theorem impl_hashed.mono : ∀ a0 a1 k, LeO (impl_hashed.f k a0 a1) (impl_hashed.f (k + 1) a0 a1) := by
  intro a0 a1 k
  have ih0 := impl_hashed.mono_l k
  unfold impl_hashed.f
  repeat' first
      | (with_reducible exact ih0 _ _ _ _)
      | (with_reducible exact LeO.refl _)
      | (with_reducible exact LeO.none _)
      | (with_reducible refine LeO.ite ?_ ?_)
      | (with_reducible refine LeO.bind ?_ (fun _ => ?_))
      | exact ih0 _ _ _ _
      | exact LeO.none _
      | refine LeO.ite ?_ ?_
      | refine LeO.bind ?_ (fun _ => ?_)
set_option maxHeartbeats 8000000 in
set_option maxRecDepth 100000 in
theorem impl_hashed.calls (k : Nat) (a0 : Int) (a1 : ByteArray) (r : Int) (w : World) (h : impl_hashed.f k a0 a1 = some r) :
    Calls Tryd.prog 49 #[.int .u32 a0, .string a1] w fun e w' => e = .returned (.int .u32 r) ∧ Drawn0 w w' := by
  have H : (impl_hashed.l0 k a0 a1 (a1.size : Int) 0) = some r := h
  clear h
  have H' := Aside0.mk H
  clear H
  go_enter Tryd.func49, Tryd.ntmps49
  go_wp2
  go_loopg [0, 8] k (fun kq v0 v8 w' => ∃ (x0_1 : Int) (x8_1 : Int), v0 = .int .u32 x0_1 ∧ v8 = .int .i64 x8_1 ∧ Aside0 (impl_hashed.l0 kq x0_1 a1 (a1.size : Int) x8_1 = some r) ∧ Aside0 (kq ≤ k) ∧ Drawn0 w w')
  case atStart => exact ⟨(a0), (0), (by first | rfl | (simp; done) | (simp [*]; done)), (by first | rfl | (simp; done) | (simp [*]; done)), H', ⟨Nat.le_refl _⟩, by repeat (first | exact Drawn0.refl _ | apply Drawn0.step)⟩
  case round =>
    clear H'
    try clear p2
    obtain ⟨x0_1, x8_1, rfl, rfl, HA, HK1, ⟨m1, rfl⟩⟩ := hrel
    cases gk with
    | zero => exact absurd HA.out (by simp [impl_hashed.l0])
    | succ k1 =>
      have H := HA.out
      clear HA
      simp only [impl_hashed.l0] at H
      by_cases c3 : x8_1 < (a1.size : Int)
      · rw [if_pos c3] at H
        have c3b0 : decide (x8_1 < (a1.size : Int)) = true := decide_eq_true c3
        clear c3
        by_cases c4 : 0 ≤ x8_1
        · rw [if_pos c4] at H
          have c4b0 : decide (0 ≤ x8_1) = true := decide_eq_true c4
          clear c4
          by_cases c5 : x8_1 < (a1.size : Int)
          · rw [if_pos c5] at H
            have c5b0 : decide (x8_1 < (a1.size : Int)) = true := decide_eq_true c5
            clear c5
            have H' := Aside0.mk H
            clear H
            have p6 : 0 ≤ (x8_1 : Int) := of_decide_eq_true (by first | (with_reducible assumption) | assumption)
            have q6 : x8_1 < (a1.size : Int) := of_decide_eq_true (by first | (with_reducible assumption) | assumption)
            have hx6 := bt_at a1 x8_1
            replace p6 := eq_true p6
            replace q6 := eq_true q6
            go_wp2
            go_roundg k1
            case measure => have := HK1.out; omega
            case rel => exact ⟨(((Go.bits .xor .u32 x0_1 ((bt a1 x8_1) % 4294967296)) * 16777619) % 4294967296), (wrap64 (x8_1 + 1)), (by first | rfl | (simp; done) | (simp [*]; done)), (by first | rfl | (simp; done) | (simp [*]; done)), H', ⟨by have := HK1.out; omega⟩, by repeat (first | exact Drawn0.refl _ | apply Drawn0.step)⟩
          · rw [if_neg c5] at H
            exact absurd H (by simp)
        · rw [if_neg c4] at H
          exact absurd H (by simp)
      · rw [if_neg c3] at H
        have c3b0 : decide (x8_1 < (a1.size : Int)) = false := decide_eq_false c3
        clear c3
        obtain rfl := Option.some.inj H
        go_wp2
        go_ret
        exact ⟨by first | rfl | (simp; done) | (simp [*]; done), by repeat (first | exact Drawn0.refl _ | apply Drawn0.step)⟩

/-! ### impl_HashOf: function 26 -/
def impl_HashOf.f (k : Nat) (a0 : ByteArray) : Option (Int) := (impl_hashed.f k 2166136261 a0).bind fun t185 => (some (Go.bits .xor .u32 (((Go.bits .xor .u32 t185 (t185 / 32768)) * 2246822507) % 4294967296) ((((Go.bits .xor .u32 t185 (t185 / 32768)) * 2246822507) % 4294967296) / 8192)))
theorem impl_HashOf.mono : ∀ a0 k, LeO (impl_HashOf.f k a0) (impl_HashOf.f (k + 1) a0) := by
  intro a0 k
  unfold impl_HashOf.f
  repeat' first
      | (with_reducible exact impl_hashed.mono _ _ _)
      | (with_reducible exact LeO.refl _)
      | (with_reducible exact LeO.none _)
      | (with_reducible refine LeO.ite ?_ ?_)
      | (with_reducible refine LeO.bind ?_ (fun _ => ?_))
      | exact impl_hashed.mono _ _ _
      | exact LeO.none _
      | refine LeO.ite ?_ ?_
      | refine LeO.bind ?_ (fun _ => ?_)
set_option maxHeartbeats 8000000 in
set_option maxRecDepth 100000 in
theorem impl_HashOf.calls (k : Nat) (a0 : ByteArray) (r : Int) (w : World) (h : impl_HashOf.f k a0 = some r) :
    Calls Tryd.prog 26 #[.string a0] w fun e w' => e = .returned (.int .u32 r) ∧ Drawn0 w w' := by
  have H : ((impl_hashed.f k 2166136261 a0).bind fun t185 => (some (Go.bits .xor .u32 (((Go.bits .xor .u32 t185 (t185 / 32768)) * 2246822507) % 4294967296) ((((Go.bits .xor .u32 t185 (t185 / 32768)) * 2246822507) % 4294967296) / 8192)))) = some r := h
  clear h
  replace H := Option.bind_eq_some_iff.mp H
  obtain ⟨t185, A20, H⟩ := H
  replace H : (some (Go.bits .xor .u32 (((Go.bits .xor .u32 t185 (t185 / 32768)) * 2246822507) % 4294967296) ((((Go.bits .xor .u32 t185 (t185 / 32768)) * 2246822507) % 4294967296) / 8192))) = some r := H
  have A2 := Aside0.mk A20
  clear A20
  obtain rfl := Option.some.inj H
  go_enter Tryd.func26, Tryd.ntmps26
  go_wp2_with (first | ((with_reducible refine gate_callee (f := 49) rfl ?_); refine goesL_ (some 5) rfl rfl Tryd.func49 (by kernel_rfl) rfl #[.int .u32 2166136261, .string a0] rfl (by (try simp only [List.map_toArray, List.map_cons, List.map_nil]); first | done | rfl | (simp only [List.length_drop, List.length_take]; rfl)) ?_; (with_reducible refine (impl_hashed.calls k 2166136261 a0 t185 _ A2.out).mono ?_); rintro e w' ⟨rfl, ⟨nd, rfl⟩⟩; refine ⟨_, rfl, ?_⟩))
  go_ret
  exact ⟨by first | rfl | (simp; done) | (simp [*]; done), by repeat (first | exact Drawn0.refl _ | apply Drawn0.step)⟩

-- NOT PRINTED: function 129 (strconv_small)

-- NOT PRINTED: function 111 (bits_Len64)

-- NOT PRINTED: function 147 (strconv_log10Pow2)

-- NOT PRINTED: function 148 (strconv_bool2_int)

-- NOT PRINTED: function 130 (strconv_numDigits)

-- NOT PRINTED: function 131 (strconv_formatBase10)

-- NOT PRINTED: function 149 (strconv_isPowerOfTwo)

-- NOT PRINTED: function 155 (bits_TrailingZeros32)

-- NOT PRINTED: function 156 (bits_TrailingZeros64)

-- NOT PRINTED: function 150 (bits_TrailingZeros)

-- NOT PRINTED: function 132 (strconv_formatBits)

-- NOT PRINTED: function 101 (strconv_FormatInt)

-- NOT PRINTED: function 78 (strconv_Itoa_78)

/-! ### strconv.Itoa below 100: function 58 -/
/-- The numeral of a number below 100. -/
def numT (n : Nat) : ByteArray := if n < 10 then ⟨#[UInt8.ofNat (48 + n)]⟩ else ⟨#[UInt8.ofNat (48 + n / 10), UInt8.ofNat (48 + n % 10)]⟩
theorem numT_is (n : Nat) (h : n < 100) : (⟨(Lib.decDigits n).toArray⟩ : ByteArray) = numT n := by
  unfold numT
  by_cases c : n < 10
  · rw [if_pos c, Lib.decDigits_one c]
  · rw [if_neg c, Lib.decDigits_two c h]
theorem itoa_num (i : Nat) (hi : i < 100) (w : World) : Calls Tryd.prog 58 #[.int .i64 i] w fun e w' => e = .returned (.string (numT i)) ∧ w' = w := by
  rw [← numT_is i hi]; exact rkItoa i hi w
def strconv_Itoa.f (a0 : Int) : Option ByteArray := if 0 ≤ a0 ∧ a0 < 100 then some (numT a0.toNat) else none
theorem strconv_Itoa.calls (a0 : Int) (r : ByteArray) (w : World) (h : strconv_Itoa.f a0 = some r) : Calls Tryd.prog 58 #[.int .i64 a0] w fun e w' => e = .returned (.string r) ∧ Below w.heap.size w w' := by
  unfold strconv_Itoa.f at h
  split at h
  · rename_i hc
    obtain rfl := Option.some.inj h
    have h1 := itoa_num a0.toNat (by omega) w
    rw [show ((a0.toNat : Nat) : Int) = a0 by omega] at h1
    refine h1.mono ?_
    rintro e w' ⟨rfl, rfl⟩
    exact ⟨rfl, Below.refl _ _⟩
  · cases h


-- NOT PRINTED: function 70 (impl_ranked_1)

-- NOT PRINTED: function 127 (slices_AppendSeq_int_int)

-- NOT PRINTED: function 97 (slices_Collect_int)

-- NOT PRINTED: function 145 (slices_insertionSortCmpFunc_int)

-- NOT PRINTED: function 157 (slices_swapRangeCmpFunc_int)

-- NOT PRINTED: function 154 (slices_rotateCmpFunc_int)

-- NOT PRINTED: function 146 (slices_symMergeCmpFunc_int)

-- NOT PRINTED: function 128 (slices_stableCmpFunc_int)

-- NOT PRINTED: function 98 (slices_SortStableFunc_int_int)

-- NOT PRINTED: function 71 (slices_SortedStableFunc_int)

-- NOT PRINTED: function 99 (slices_Values_int_int_1)

-- NOT PRINTED: function 72 (slices_Values_int_int)

/-! ### cmp_isNaN_uint32: function 100 -/
def cmp_isNaN_uint32.f (a0 : Int) : Option (Bool) := some (a0 != a0)
set_option maxHeartbeats 8000000 in
set_option maxRecDepth 100000 in
theorem cmp_isNaN_uint32.calls (a0 : Int) (r : Bool) (w : World) (h : cmp_isNaN_uint32.f a0 = some r) :
    Calls Tryd.prog 100 #[.int .u32 a0] w fun e w' => e = .returned (.bool r) ∧ Drawn0 w w' := by
  have H : (some (a0 != a0)) = some r := h
  clear h
  obtain rfl := Option.some.inj H
  go_enter Tryd.func100, Tryd.ntmps100
  go_wp2
  go_ret
  exact ⟨by first | rfl | (simp; done) | (simp [*]; done), by repeat (first | exact Drawn0.refl _ | apply Drawn0.step)⟩

/-! ### cmp_Compare_uint32: function 74 -/
def cmp_Compare_uint32.f (a0 : Int) (a1 : Int) : Option (Int) := (cmp_isNaN_uint32.f a0).bind fun t186 => ((cmp_isNaN_uint32.f a1).bind fun t187 => (if t186 = true then (if t187 = true then (some 0) else (some (-1))) else (if t187 = true then (some 1) else (if a0 < a1 then (some (-1)) else (if a0 > a1 then (some 1) else (some 0))))))
set_option maxHeartbeats 8000000 in
set_option maxRecDepth 100000 in
theorem cmp_Compare_uint32.calls (a0 : Int) (a1 : Int) (r : Int) (w : World) (h : cmp_Compare_uint32.f a0 a1 = some r) :
    Calls Tryd.prog 74 #[.int .u32 a0, .int .u32 a1] w fun e w' => e = .returned (.int .i64 r) ∧ Drawn0 w w' := by
  have H : ((cmp_isNaN_uint32.f a0).bind fun t186 => ((cmp_isNaN_uint32.f a1).bind fun t187 => (if t186 = true then (if t187 = true then (some 0) else (some (-1))) else (if t187 = true then (some 1) else (if a0 < a1 then (some (-1)) else (if a0 > a1 then (some 1) else (some 0))))))) = some r := h
  clear h
  replace H := Option.bind_eq_some_iff.mp H
  obtain ⟨t186, A30, H⟩ := H
  replace H : ((cmp_isNaN_uint32.f a1).bind fun t187 => (if t186 = true then (if t187 = true then (some 0) else (some (-1))) else (if t187 = true then (some 1) else (if a0 < a1 then (some (-1)) else (if a0 > a1 then (some 1) else (some 0)))))) = some r := H
  have A3 := Aside0.mk A30
  clear A30
  replace H := Option.bind_eq_some_iff.mp H
  obtain ⟨t187, A40, H⟩ := H
  replace H : (if t186 = true then (if t187 = true then (some 0) else (some (-1))) else (if t187 = true then (some 1) else (if a0 < a1 then (some (-1)) else (if a0 > a1 then (some 1) else (some 0))))) = some r := H
  have A4 := Aside0.mk A40
  clear A40
  by_cases c5 : t186 = true
  · subst c5
    have H1 : (if t187 = true then (some 0) else (some (-1))) = some r := by rw [if_pos rfl] at H; exact H
    clear H
    have H := H1
    clear H1
    by_cases c6 : t187 = true
    · subst c6
      have H1 : (some 0) = some r := by rw [if_pos rfl] at H; exact H
      clear H
      have H := H1
      clear H1
      obtain rfl := Option.some.inj H
      go_enter Tryd.func74, Tryd.ntmps74
      go_wp2_with (first | ((with_reducible refine gate_callee (f := 100) rfl ?_); refine goesL_ (some 8) rfl rfl Tryd.func100 (by kernel_rfl) rfl #[.int .u32 a0] rfl (by (try simp only [List.map_toArray, List.map_cons, List.map_nil]); first | done | rfl | (simp only [List.length_drop, List.length_take]; rfl)) ?_; (with_reducible refine (cmp_isNaN_uint32.calls a0 true _ A3.out).mono ?_); rintro e w' ⟨rfl, ⟨nd, rfl⟩⟩; refine ⟨_, rfl, ?_⟩) | ((with_reducible refine gate_callee (f := 100) rfl ?_); refine goesL_ (some 10) rfl rfl Tryd.func100 (by kernel_rfl) rfl #[.int .u32 a1] rfl (by (try simp only [List.map_toArray, List.map_cons, List.map_nil]); first | done | rfl | (simp only [List.length_drop, List.length_take]; rfl)) ?_; (with_reducible refine (cmp_isNaN_uint32.calls a1 true _ A4.out).mono ?_); rintro e w' ⟨rfl, ⟨nd, rfl⟩⟩; refine ⟨_, rfl, ?_⟩))
      go_ret
      exact ⟨by first | rfl | (simp; done) | (simp [*]; done), by repeat (first | exact Drawn0.refl _ | apply Drawn0.step)⟩
    · replace c6 := Bool.eq_false_iff.mpr c6
      subst c6
      have H1 : (some (-1)) = some r := by rw [if_neg (show ¬ (false = true) by decide)] at H; exact H
      clear H
      have H := H1
      clear H1
      obtain rfl := Option.some.inj H
      go_enter Tryd.func74, Tryd.ntmps74
      go_wp2_with (first | ((with_reducible refine gate_callee (f := 100) rfl ?_); refine goesL_ (some 8) rfl rfl Tryd.func100 (by kernel_rfl) rfl #[.int .u32 a0] rfl (by (try simp only [List.map_toArray, List.map_cons, List.map_nil]); first | done | rfl | (simp only [List.length_drop, List.length_take]; rfl)) ?_; (with_reducible refine (cmp_isNaN_uint32.calls a0 true _ A3.out).mono ?_); rintro e w' ⟨rfl, ⟨nd, rfl⟩⟩; refine ⟨_, rfl, ?_⟩) | ((with_reducible refine gate_callee (f := 100) rfl ?_); refine goesL_ (some 10) rfl rfl Tryd.func100 (by kernel_rfl) rfl #[.int .u32 a1] rfl (by (try simp only [List.map_toArray, List.map_cons, List.map_nil]); first | done | rfl | (simp only [List.length_drop, List.length_take]; rfl)) ?_; (with_reducible refine (cmp_isNaN_uint32.calls a1 false _ A4.out).mono ?_); rintro e w' ⟨rfl, ⟨nd, rfl⟩⟩; refine ⟨_, rfl, ?_⟩))
      go_ret
      exact ⟨by first | rfl | (simp; done) | (simp [*]; done), by repeat (first | exact Drawn0.refl _ | apply Drawn0.step)⟩
  · replace c5 := Bool.eq_false_iff.mpr c5
    subst c5
    have H1 : (if t187 = true then (some 1) else (if a0 < a1 then (some (-1)) else (if a0 > a1 then (some 1) else (some 0)))) = some r := by rw [if_neg (show ¬ (false = true) by decide)] at H; exact H
    clear H
    have H := H1
    clear H1
    by_cases c7 : t187 = true
    · subst c7
      have H1 : (some 1) = some r := by rw [if_pos rfl] at H; exact H
      clear H
      have H := H1
      clear H1
      obtain rfl := Option.some.inj H
      go_enter Tryd.func74, Tryd.ntmps74
      go_wp2_with (first | ((with_reducible refine gate_callee (f := 100) rfl ?_); refine goesL_ (some 8) rfl rfl Tryd.func100 (by kernel_rfl) rfl #[.int .u32 a0] rfl (by (try simp only [List.map_toArray, List.map_cons, List.map_nil]); first | done | rfl | (simp only [List.length_drop, List.length_take]; rfl)) ?_; (with_reducible refine (cmp_isNaN_uint32.calls a0 false _ A3.out).mono ?_); rintro e w' ⟨rfl, ⟨nd, rfl⟩⟩; refine ⟨_, rfl, ?_⟩) | ((with_reducible refine gate_callee (f := 100) rfl ?_); refine goesL_ (some 10) rfl rfl Tryd.func100 (by kernel_rfl) rfl #[.int .u32 a1] rfl (by (try simp only [List.map_toArray, List.map_cons, List.map_nil]); first | done | rfl | (simp only [List.length_drop, List.length_take]; rfl)) ?_; (with_reducible refine (cmp_isNaN_uint32.calls a1 true _ A4.out).mono ?_); rintro e w' ⟨rfl, ⟨nd, rfl⟩⟩; refine ⟨_, rfl, ?_⟩))
      go_ret
      exact ⟨by first | rfl | (simp; done) | (simp [*]; done), by repeat (first | exact Drawn0.refl _ | apply Drawn0.step)⟩
    · replace c7 := Bool.eq_false_iff.mpr c7
      subst c7
      have H1 : (if a0 < a1 then (some (-1)) else (if a0 > a1 then (some 1) else (some 0))) = some r := by rw [if_neg (show ¬ (false = true) by decide)] at H; exact H
      clear H
      have H := H1
      clear H1
      by_cases c8 : a0 < a1
      · rw [if_pos c8] at H
        have c8b0 : decide (a0 < a1) = true := decide_eq_true c8
        clear c8
        obtain rfl := Option.some.inj H
        go_enter Tryd.func74, Tryd.ntmps74
        go_wp2_with (first | ((with_reducible refine gate_callee (f := 100) rfl ?_); refine goesL_ (some 8) rfl rfl Tryd.func100 (by kernel_rfl) rfl #[.int .u32 a0] rfl (by (try simp only [List.map_toArray, List.map_cons, List.map_nil]); first | done | rfl | (simp only [List.length_drop, List.length_take]; rfl)) ?_; (with_reducible refine (cmp_isNaN_uint32.calls a0 false _ A3.out).mono ?_); rintro e w' ⟨rfl, ⟨nd, rfl⟩⟩; refine ⟨_, rfl, ?_⟩) | ((with_reducible refine gate_callee (f := 100) rfl ?_); refine goesL_ (some 10) rfl rfl Tryd.func100 (by kernel_rfl) rfl #[.int .u32 a1] rfl (by (try simp only [List.map_toArray, List.map_cons, List.map_nil]); first | done | rfl | (simp only [List.length_drop, List.length_take]; rfl)) ?_; (with_reducible refine (cmp_isNaN_uint32.calls a1 false _ A4.out).mono ?_); rintro e w' ⟨rfl, ⟨nd, rfl⟩⟩; refine ⟨_, rfl, ?_⟩))
        go_ret
        exact ⟨by first | rfl | (simp; done) | (simp [*]; done), by repeat (first | exact Drawn0.refl _ | apply Drawn0.step)⟩
      · rw [if_neg c8] at H
        have c8b0 : decide (a0 < a1) = false := decide_eq_false c8
        clear c8
        by_cases c9 : a0 > a1
        · rw [if_pos c9] at H
          have c9b0 : decide (a1 < a0) = true := decide_eq_true c9
          clear c9
          obtain rfl := Option.some.inj H
          go_enter Tryd.func74, Tryd.ntmps74
          go_wp2_with (first | ((with_reducible refine gate_callee (f := 100) rfl ?_); refine goesL_ (some 8) rfl rfl Tryd.func100 (by kernel_rfl) rfl #[.int .u32 a0] rfl (by (try simp only [List.map_toArray, List.map_cons, List.map_nil]); first | done | rfl | (simp only [List.length_drop, List.length_take]; rfl)) ?_; (with_reducible refine (cmp_isNaN_uint32.calls a0 false _ A3.out).mono ?_); rintro e w' ⟨rfl, ⟨nd, rfl⟩⟩; refine ⟨_, rfl, ?_⟩) | ((with_reducible refine gate_callee (f := 100) rfl ?_); refine goesL_ (some 10) rfl rfl Tryd.func100 (by kernel_rfl) rfl #[.int .u32 a1] rfl (by (try simp only [List.map_toArray, List.map_cons, List.map_nil]); first | done | rfl | (simp only [List.length_drop, List.length_take]; rfl)) ?_; (with_reducible refine (cmp_isNaN_uint32.calls a1 false _ A4.out).mono ?_); rintro e w' ⟨rfl, ⟨nd, rfl⟩⟩; refine ⟨_, rfl, ?_⟩))
          go_ret
          exact ⟨by first | rfl | (simp; done) | (simp [*]; done), by repeat (first | exact Drawn0.refl _ | apply Drawn0.step)⟩
        · rw [if_neg c9] at H
          have c9b0 : decide (a1 < a0) = false := decide_eq_false c9
          clear c9
          obtain rfl := Option.some.inj H
          go_enter Tryd.func74, Tryd.ntmps74
          go_wp2_with (first | ((with_reducible refine gate_callee (f := 100) rfl ?_); refine goesL_ (some 8) rfl rfl Tryd.func100 (by kernel_rfl) rfl #[.int .u32 a0] rfl (by (try simp only [List.map_toArray, List.map_cons, List.map_nil]); first | done | rfl | (simp only [List.length_drop, List.length_take]; rfl)) ?_; (with_reducible refine (cmp_isNaN_uint32.calls a0 false _ A3.out).mono ?_); rintro e w' ⟨rfl, ⟨nd, rfl⟩⟩; refine ⟨_, rfl, ?_⟩) | ((with_reducible refine gate_callee (f := 100) rfl ?_); refine goesL_ (some 10) rfl rfl Tryd.func100 (by kernel_rfl) rfl #[.int .u32 a1] rfl (by (try simp only [List.map_toArray, List.map_cons, List.map_nil]); first | done | rfl | (simp only [List.length_drop, List.length_take]; rfl)) ?_; (with_reducible refine (cmp_isNaN_uint32.calls a1 false _ A4.out).mono ?_); rintro e w' ⟨rfl, ⟨nd, rfl⟩⟩; refine ⟨_, rfl, ?_⟩))
          go_ret
          exact ⟨by first | rfl | (simp; done) | (simp [*]; done), by repeat (first | exact Drawn0.refl _ | apply Drawn0.step)⟩

-- NOT PRINTED: function 73 (impl_ranked_2)

/-! ### the order of servers: the hash -/
/-- The hash of a text, byte by byte. -/
def hashN (s : ByteArray) : Nat → Nat → Int → Int
  | 0, _, h => h
  | d + 1, j, h => hashN s d (j + 1) (((Go.bits .xor .u32 h ((bt s (j : Int)) % 4294967296)) * 16777619) % 4294967296)
def hashT (s : ByteArray) : Int :=
  Go.bits .xor .u32 (((Go.bits .xor .u32 (hashN s s.size 0 2166136261) ((hashN s s.size 0 2166136261) / 32768)) * 2246822507) % 4294967296) ((((Go.bits .xor .u32 (hashN s s.size 0 2166136261) ((hashN s s.size 0 2166136261) / 32768)) * 2246822507) % 4294967296) / 8192)
theorem hashN_is (s : ByteArray) (hs : s.size ≤ 4611686018427387904) (d : Nat) : ∀ (j k : Nat) (h : Int), j + d = s.size → d < k → impl_hashed.l0 k h s (s.size : Int) (j : Int) = some (hashN s d j h) := by
  induction d with
  | zero =>
    intro j k h hj hk
    obtain ⟨k, rfl⟩ : ∃ m, k = m + 1 := ⟨k - 1, by omega⟩
    simp only [impl_hashed.l0]; rw [if_neg (by omega)]; rfl
  | succ d ih =>
    intro j k h hj hk
    obtain ⟨k, rfl⟩ : ∃ m, k = m + 1 := ⟨k - 1, by omega⟩
    simp only [impl_hashed.l0]
    rw [if_pos (by omega), if_pos (by omega), if_pos (by omega), show wrap64 ((j : Int) + 1) = ((j + 1 : Nat) : Int) by unfold wrap64; omega, ih (j + 1) k _ (by omega) (by omega)]
    rfl
theorem hashT_is (s : ByteArray) (hs : s.size ≤ 4611686018427387904) : impl_HashOf.f (s.size + 1) s = some (hashT s) := by
  unfold impl_HashOf.f impl_hashed.f
  rw [show (0 : Int) = ((0 : Nat) : Int) from rfl, hashN_is s hs s.size 0 (s.size + 1) _ (by omega) (by omega)]
  rfl
theorem hashT_calls (s : ByteArray) (hs : s.size ≤ 4611686018427387904) (w : World) : Calls Tryd.prog 26 #[.string s] w fun e w' => e = .returned (.int .u32 (hashT s)) ∧ ∃ m, w' = w.drewN m :=
  (impl_HashOf.calls (s.size + 1) s (hashT s) w (hashT_is s hs)).mono fun _ _ h => ⟨h.1, h.2.out⟩
/-- A server: what the sort is told of. -/
abbrev Srv := { x : Int // 0 ≤ x ∧ x < 100 }
instance : Inhabited Srv := ⟨⟨0, by decide⟩⟩
def encSv (x : Srv) : Value := .int .i64 x.1
/-- What is hashed: the server's number, a stroke, the key. -/
def keyT (key : ByteArray) (x : Int) : ByteArray := (numT x.toNat ++ (⟨#[47]⟩ : ByteArray)) ++ key
def cmpSv (key : ByteArray) (x y : Srv) : Int := if hashT (keyT key y.1) < hashT (keyT key x.1) then -1 else if hashT (keyT key y.1) > hashT (keyT key x.1) then 1 else 0
theorem digits_size (n : Nat) : (numT n).size ≤ 2 := by
  unfold numT; split
  · show 1 ≤ 2; omega
  · show 2 ≤ 2; omega
set_option maxHeartbeats 1000000 in
set_option maxRecDepth 100000 in
theorem rk70 (key : ByteArray) (b : Nat) (x : Srv) (w : World) (hc : w.cell? ⟨b, 0, none⟩ = some (.string key)) (hk : key.size ≤ 1152921504606846976) :
    Calls Tryd.prog 70 #[.int .i64 x.1, .pointer (some ⟨b, 0, none⟩)] w fun e w' => e = .returned (.int .u32 (hashT (keyT key x.1))) ∧ ∃ m, w' = w.drewN m := by
  have hd := digits_size x.1.toNat
  have hI : ∀ w, Calls Tryd.prog 58 #[.int .i64 x.1] w fun e w' => e = .returned (.string (numT x.1.toNat)) ∧ w' = w := fun w => by
    have h := itoa_num x.1.toNat (by have := x.2; omega) w
    rw [show ((x.1.toNat : Nat) : Int) = x.1 from by have := x.2; omega] at h
    exact h
  have hH : ∀ w, Calls Tryd.prog 26 #[.string (keyT key x.1)] w fun e w' => e = .returned (.int .u32 (hashT (keyT key x.1))) ∧ ∃ m, w' = w.drewN m := fun w => hashT_calls _ (by
    unfold keyT; simp only [ByteArray.size_append]
    have : (⟨#[47]⟩ : ByteArray).size = 1 := rfl
    omega) w
  unfold keyT at hH
  obtain ⟨dg, hdg⟩ : ∃ dg, dg = numT x.1.toNat := ⟨_, rfl⟩
  rw [← hdg] at hd hI hH
  unfold keyT
  rw [← hdg]
  clear hdg
  obtain ⟨x, hx⟩ := x
  dsimp only at hI hH ⊢
  clear hx
  have a1 : dg.size + 1 ≤ 9223372036854775807 := by omega
  have a2 : (dg ++ (⟨#[47]⟩ : ByteArray)).size + key.size ≤ 9223372036854775807 := by
    simp only [ByteArray.size_append]
    have : (⟨#[47]⟩ : ByteArray).size = 1 := rfl
    omega
  generalize hashT (dg ++ (⟨#[47]⟩ : ByteArray) ++ key) = r at hH ⊢
  go_enter Tryd.func70, Tryd.ntmps70
  go_wp2_with fail
  go_quiet (first
    | (go_at_call 58; refine Calls.quiet_of_same (hI _))
    | (go_at_call 26; refine Calls.quiet_of (hH _)))
  go_wp2
  go_ret
  exact ⟨rfl, _, rfl⟩
theorem cmpU (x y : Int) (w : World) : Calls Tryd.prog 74 #[.int .u32 x, .int .u32 y] w fun e w' => e = .returned (.int .i64 (if x < y then -1 else if x > y then 1 else 0)) ∧ ∃ m, w' = w.drewN m :=
  (cmp_Compare_uint32.calls x y (if x < y then -1 else if x > y then 1 else 0) w (by
    unfold cmp_Compare_uint32.f cmp_isNaN_uint32.f
    by_cases c : x < y
    · simp [c]
    · by_cases c2 : x > y
      · simp [c, c2]
      · simp [c, c2])).mono fun _ _ h => ⟨h.1, h.2.out⟩
set_option maxHeartbeats 1000000 in
set_option maxRecDepth 100000 in
theorem rk73 (key : ByteArray) (b b5 : Nat) (x y : Srv) (w : World) (hc : w.cell? ⟨b, 0, none⟩ = some (.string key)) (hc5 : w.cell? ⟨b5, 0, none⟩ = some (.func (.func 70) #[] #[.pointer (some ⟨b, 0, none⟩)])) (hk : key.size ≤ 1152921504606846976) :
    Calls Tryd.prog 73 #[encSv x, encSv y, .pointer (some ⟨b5, 0, none⟩)] w fun e w' => e = .returned (.int .i64 (cmpSv key x y)) ∧ ∃ m, w' = w.drewN m := by
  have hx := fun n => rk70 key b x (w.drewN n) hc hk
  have hy := fun n => rk70 key b y (w.drewN n) hc hk
  have e70 : ∀ args w, (callFunc 70 args).run Tryd.prog w = .ok (.enter 70 args) w := enters_of Tryd.func70 (by kernel_rfl) rfl
  unfold cmpSv encSv
  have hU := cmpU (hashT (keyT key y.1)) (hashT (keyT key x.1))
  generalize hashT (keyT key x.1) = hx1 at hx hU ⊢
  generalize hashT (keyT key y.1) = hy1 at hy hU ⊢
  generalize (if hy1 < hx1 then (-1 : Int) else if hy1 > hx1 then 1 else 0) = r at hU ⊢
  go_enter Tryd.func73, Tryd.ntmps73
  go_wp2_with fail
  go_quiet (first
    | (go_at_fn 70; first | exact Calls.quiet_of (hy _) | exact Calls.quiet_of (hx _))
    | (go_at_call 74; refine Calls.quiet_of (hU _)))
  go_wp2
  go_ret
  exact ⟨rfl, _, rfl⟩
/-! ### the insertion sort, SortStableFunc, SortedStableFunc, ranked: functions 145, 128, 98, 71, 46 -/
def hashSv (key : ByteArray) (x : Srv) : Int := hashT (keyT key x.1)
theorem ltOf_sv (key : ByteArray) (x y : Srv) : ltOf (cmpSv key) x y = decide (hashSv key y < hashSv key x) := by
  unfold ltOf cmpSv hashSv
  by_cases c : hashT (keyT key y.1) < hashT (keyT key x.1)
  · rw [if_pos c, decide_eq_true c]; rfl
  · rw [if_neg c, decide_eq_false c]
    split <;> rfl
theorem sw_other {α : Type} [Inhabited α] (enc : α → Value) (W : World) (blk off n : Nat) (dk : Array α) (os : Array Obj) (a : Addr) (h1 : a.block ≠ blk) (h2 : a.block < W.heap.size) : (sortWorld enc W blk off n dk os).cell? a = W.cell? a := by
  unfold sortWorld
  rw [Sort.cell?_grow _ _ _ (by rw [size_putRow]; exact h2), Sort.cell?_putRow_other _ _ _ _ _ _ (.inl h1)]
  rfl
theorem one_cell_sv : OneCell encSv := fun _ => rfl
theorem rk145 (key : ByteArray) (hk : key.size ≤ 1152921504606846976) (b b5 blk cap : Nat) (l : List Srv) (w : World) (hb : b ≠ blk) (hb5 : b5 ≠ blk) (hbl : b < w.heap.size) (hbl5 : b5 < w.heap.size) (hblk : blk < w.heap.size)
    (hc : w.cell? ⟨b, 0, none⟩ = some (.string key)) (hc5 : w.cell? ⟨b5, 0, none⟩ = some (.func (.func 70) #[] #[.pointer (some ⟨b, 0, none⟩)])) (hH : Sort.Holds encSv w blk 0 l.toArray) (hsz : l.length ≤ 1000) :
    Calls Tryd.prog 145 #[.slice (some ⟨blk, 0, none⟩) l.length cap, .int .i64 0, .int .i64 l.length, .func (.func 73) #[] #[.pointer (some ⟨b5, 0, none⟩)]] w fun e w' => e = .returned (.tuple #[]) ∧ SW encSv w blk 0 (rankL (hashSv key) l).toArray w' := by
  have eg : ∀ args w, (callFunc 73 args).run Tryd.prog w = .ok (.enter 73 args) w := enters_of Tryd.func73 (by kernel_rfl) rfl
  have hcmp : CmpReads Tryd.prog 73 #[.pointer (some ⟨b5, 0, none⟩)] encSv (cmpSv key) blk 0 l.toArray.size w := fun m os dk _ x y =>
    rk73 key b b5 x y _ ((sw_other encSv w blk 0 m dk os ⟨b, 0, none⟩ hb hbl).trans hc) ((sw_other encSv w blk 0 m dk os ⟨b5, 0, none⟩ hb5 hbl5).trans hc5) hk
  have h := Any.insertionSortCmpFunc_s rk20 encSv (cmpSv key) 73 #[.pointer (some ⟨b5, 0, none⟩)] blk 0 cap 0 l.length l.toArray l.toArray w w eg hcmp.lays ⟨one_cell_sv, hH, hblk⟩ rfl (SW.start hH) (Nat.zero_le _) (by simp) (by simp; omega)
  rw [insSort_list (hashSv key) _ (ltOf_sv key)] at h
  exact h
set_option maxHeartbeats 1000000 in
set_option maxRecDepth 100000 in
theorem rk145nil (fv : Value) (a : Option Addr) (c : Nat) (w : World) : Calls Tryd.prog 145 #[.slice a 0 c, .int .i64 0, .int .i64 0, fv] w fun e w' => e = .returned (.tuple #[]) ∧ w' = w := by
  go_enter Tryd.func145, Tryd.ntmps145
  go_wp2
  go_loopg [8] 0 (fun _ vi wr => vi = .int .i64 1 ∧ wr = w)
  case atStart => exact ⟨by go_num, rfl⟩
  case round =>
    obtain ⟨rfl, rfl⟩ := hrel
    go_wp2
    go_end0
    exact ⟨rfl, rfl⟩
set_option maxHeartbeats 2000000 in
set_option maxRecDepth 100000 in
theorem rk128 (sv fv : Value) (n : Nat) (hn : n < 20) (w : World) (Q : World → Prop) (h : Calls Tryd.prog 145 #[sv, .int .i64 0, .int .i64 n, fv] w fun e w' => e = .returned (.tuple #[]) ∧ Q w') :
    Calls Tryd.prog 128 #[sv, .int .i64 n, fv] w fun e w' => e = .returned (.tuple #[]) ∧ Q w' := by
  have h1 : ¬ (20 : Int) ≤ (n : Int) := by omega
  have h2 : ¬ (20 : Int) < (n : Int) := by omega
  have H := Aside0.mk h
  clear h hn
  go_enter Tryd.func128, Tryd.ntmps128
  go_wp2
  go_loopg [7, 8] 0 (fun _ v7 v8 wr => v7 = .int .i64 0 ∧ v8 = .int .i64 20 ∧ wr = w)
  case atStart => exact ⟨rfl, rfl, rfl⟩
  case round =>
    obtain ⟨rfl, rfl, rfl⟩ := hrel
    go_wp2_with (go_at_call 145; refine H.out.mono ?_; rintro e w2 ⟨rfl, hQ⟩; have HQ := Aside0.mk hQ; clear hQ)
    go_loopg [6, 7, 8] 0 (fun _ v6 _ _ wr => v6 = .int .i64 20 ∧ wr = w2)
    case atStart => exact ⟨rfl, rfl⟩
    case round =>
      obtain ⟨rfl, rfl⟩ := hrel
      go_wp2
      go_end0
      exact ⟨rfl, HQ.out⟩
set_option maxHeartbeats 2000000 in
set_option maxRecDepth 100000 in
theorem rk98 (A : Option Addr) (n c : Nat) (fv : Value) (hn : n < 20) (w : World) (Q : World → Prop) (h : Calls Tryd.prog 145 #[.slice A n c, .int .i64 0, .int .i64 n, fv] w fun e w' => e = .returned (.tuple #[]) ∧ Q w') :
    Calls Tryd.prog 98 #[.slice A n c, fv] w fun e w' => e = .returned (.tuple #[]) ∧ Q w' := by
  have H := Aside0.mk (rk128 (.slice A n c) fv n hn w Q h)
  clear h
  go_enter Tryd.func98, Tryd.ntmps98
  go_wp2_with (go_at_call 128; refine H.out.mono ?_; rintro e w2 ⟨rfl, hQ⟩; have HQ := Aside0.mk hQ; clear hQ)
  go_end0
  exact ⟨rfl, HQ.out⟩
theorem rk98s (key : ByteArray) (hk : key.size ≤ 1152921504606846976) (b b5 base : Nat) (A : Option Addr) (c : Nat) (zs : List Srv) (hl : zs.length < 20) (w : World) (hrow : w.ownsRow base 3 1 (.slice A zs.length c) zs.length (zs.map encSv)) (hbase : base ≤ w.heap.size) (hb : b < base) (hb5 : b5 < base)
    (hc : w.cell? ⟨b, 0, none⟩ = some (.string key)) (hc5 : w.cell? ⟨b5, 0, none⟩ = some (.func (.func 70) #[] #[.pointer (some ⟨b, 0, none⟩)])) :
    Calls Tryd.prog 98 #[.slice A zs.length c, .func (.func 73) #[] #[.pointer (some ⟨b5, 0, none⟩)]] w fun e w' => e = .returned (.tuple #[]) ∧ (w'.ownsRow base 3 1 (.slice A zs.length c) zs.length ((rankL (hashSv key) zs).map encSv) ∧ Below base w w') := by
  refine rk98 A zs.length c _ hl w _ ?_
  by_cases h0 : zs = []
  · subst h0
    refine (rk145nil _ A c w).mono ?_
    rintro e w' ⟨rfl, rfl⟩
    exact ⟨rfl, hrow, Below.refl _ _⟩
  · have hne : (.slice A zs.length c : Value) ≠ .slice none 0 0 := fun e => h0 (List.eq_nil_of_length_eq_zero (by injection e with _ h _))
    obtain ⟨g, cap, e, hg, hlt, _, _, _, hH⟩ := Lib.holds_of_ownsRow hrow hne
    cases e
    refine (rk145 key hk b b5 g c zs w (by omega) (by omega) (by omega) (by omega) hlt hc hc5 hH (by omega)).mono ?_
    rintro e w' ⟨rfl, m, os, rfl⟩
    have h1 := Lib.ownsRow_putRow (q := m) (ys := rankL (hashSv key) zs) hrow (rankL_length _ _) (Nat.le_refl _)
    rw [List.take_of_length_le (by rw [rankL_length]; exact Nat.le_refl _)] at h1
    have h2 : Below base w (Sort.putRow encSv (Sort.ahead w m) g 0 (rankL (hashSv key) zs).toArray) := Lib.below_putRow (Below.refl _ _) hg
    refine ⟨rfl, own_move h1 (fun k hk => Sort.heap_grow_old _ _ (own_lt h1 k hk)), h2.trans ?_⟩
    exact Lib.below_grow base _ (Nat.le_trans hbase h2.size) 0 os
set_option maxHeartbeats 1000000 in
theorem rk72 (a : Option Addr) (len cap : Nat) (w : World) :
    Calls Tryd.prog 72 #[.slice a len cap] w fun e w' => e = .returned (.func (.func 99) #[] #[.pointer (some ⟨w.heap.size, 0, none⟩)]) ∧ w' = w.alloc (.cells #[.slice a len cap] 22) := by
  go_enter Tryd.func72, Tryd.ntmps72
  go_wp2
  go_ret
  exact ⟨rfl, rfl⟩
theorem holds_below2 {w w2 : World} {sv : Value} {zs : List Int} {o : Obj} (h : HoldsInts w.heap.size w sv zs) (hB : Below w.heap.size w w2) : HoldsInts (w2.alloc o).heap.size (w2.alloc o) sv zs := by
  have h1 := HoldsInts.below (hB.trans (((Below.refl w2.heap.size w2).alloc (Nat.le_refl _) o).mono hB.size)) h
  rcases h1 with e | ⟨b, off, cap, e, hb, hc⟩
  · exact .inl e
  · exact .inr ⟨b, off, cap, e, by have := hB.size; simp; omega, hc⟩
set_option maxHeartbeats 2000000 in
set_option maxRecDepth 100000 in
theorem rk71 (key : ByteArray) (hk : key.size ≤ 1152921504606846976) (b b5 Bs : Nat) (sv : Value) (zs : List Srv) (hl : zs.length < 20) (w : World) (hb : b < w.heap.size) (hb5 : b5 < w.heap.size) (hBs : Bs < w.heap.size)
    (hc : w.cell? ⟨b, 0, none⟩ = some (.string key)) (hc5 : w.cell? ⟨b5, 0, none⟩ = some (.func (.func 70) #[] #[.pointer (some ⟨b, 0, none⟩)])) (hcs : w.cell? ⟨Bs, 0, none⟩ = some sv) (hI : HoldsInts w.heap.size w sv (zs.map (·.1))) :
    Calls Tryd.prog 71 #[.func (.func 99) #[] #[.pointer (some ⟨Bs, 0, none⟩)], .func (.func 73) #[] #[.pointer (some ⟨b5, 0, none⟩)]] w fun e w' => ∃ v, e = .returned v ∧ w'.ownsRow w.heap.size 3 1 v zs.length ((rankL (hashSv key) zs).map encSv) ∧ Below w.heap.size w w' := by
  have H := Aside0.mk (collect Bs sv (zs.map (·.1)) (by rw [List.length_map]; omega) w hBs hcs hI)
  have HC := Aside0.mk hc
  have HC5 := Aside0.mk hc5
  clear hc hc5 hcs hI
  go_enter Tryd.func71, Tryd.ntmps71
  go_wp2_with (first
    | (go_at_call 97; refine H.out.mono ?_; rintro e w1 ⟨v, rfl, hrow, _, hB⟩; rw [List.length_map, List.map_map] at hrow; obtain ⟨A, c, rfl⟩ := own_slice hrow; have HR := Aside0.mk hrow; have HB := Aside0.mk hB; clear hrow hB)
    | (go_at_call 98; refine (rk98s key hk b b5 w.heap.size A c zs hl w1 HR.out HB.out.size hb hb5 ((HB.out.cell (p := ⟨b, 0, none⟩) hb).trans HC.out) ((HB.out.cell (p := ⟨b5, 0, none⟩) hb5).trans HC5.out)).mono ?_; rintro e w2 ⟨rfl, hrow, hB⟩; have HR2 := Aside0.mk hrow; have HB2 := Aside0.mk (HB.out.trans hB); clear hrow hB))
  go_ret
  exact ⟨_, rfl, HR2.out, HB2.out⟩
theorem sv_of : ∀ l : List Int, (∀ x ∈ l, 0 ≤ x ∧ x < 100) → ∃ zs : List Srv, zs.map (·.1) = l
  | [], _ => ⟨[], rfl⟩
  | x :: l, h => by
    obtain ⟨zs, e⟩ := sv_of l (fun y hy => h y (List.mem_cons_of_mem _ hy))
    exact ⟨⟨x, h x List.mem_cons_self⟩ :: zs, by rw [List.map_cons, e]⟩
theorem holds_arg (w : World) (A : Option Addr) (c : Nat) (l : List Int) (hr : Kd.C (Kd.int .i64) w A l.length l) : HoldsInts w.heap.size w (.slice A l.length c) l := by
  cases hn : l with
  | nil => exact .inl ⟨⟨A, c, rfl⟩, rfl⟩
  | cons x0 l0 =>
    rw [← hn]
    have hpos : 0 < l.length := by rw [hn]; simp
    have at_ : ∀ j : Nat, j < l.length → ∃ ad, A = some ad ∧ w.cell? (ad.add j) = some (.int .i64 (l[j]?.getD 0)) := fun j hj => by
      obtain ⟨ad, e, h⟩ := Kd.at_int hr (j : Int) (by omega) (by omega)
      refine ⟨ad, e, ?_⟩
      rw [Int.toNat_natCast] at h
      rw [h]
      unfold rd
      rw [Int.toNat_natCast, List.getD_eq_getElem?_getD]
    obtain ⟨ad, rfl, h0⟩ := at_ 0 hpos
    have h0' : w.cell? ad = some (.int .i64 (l[0]?.getD 0)) := by simpa [Addr.add] using h0
    obtain ⟨blk, off, spot⟩ := ad
    have hs : spot = none := by
      cases spot with
      | none => rfl
      | some s =>
        exfalso
        unfold World.cell? at h0'
        split at h0' <;> simp at h0'
    subst hs
    have hblk : blk < w.heap.size := by
      unfold World.cell? at h0'
      rcases Nat.lt_or_ge blk w.heap.size with h | h
      · exact h
      · rw [show w.heap[(⟨blk, off, none⟩ : Addr).block]? = none from Array.getElem?_eq_none h] at h0'
        cases h0'
    refine .inr ⟨blk, off, c, rfl, hblk, fun j hj => ?_⟩
    obtain ⟨ad', e, h⟩ := at_ j hj
    cases e
    rw [← h]
    unfold Addr.add
    split
    · rename_i e; subst e; rfl
    · rfl
def impl_ranked.f (l0 : List Int) (a1 : ByteArray) : Option (List Int) := if l0.length < 20 ∧ (∀ x ∈ l0, 0 ≤ x ∧ x < 100) ∧ a1.size ≤ 1152921504606846976 then some (rankL (fun x => hashT (keyT a1 x)) l0) else none
set_option maxHeartbeats 2000000 in
set_option maxRecDepth 100000 in
theorem impl_ranked.calls (A0 : Option Addr) (c0 : Nat) (l0 : List Int) (a1 : ByteArray) (r : List Int) (w : World) (hr0 : Kd.C (Kd.int .i64) w A0 l0.length l0) (hc0 : l0.length ≤ c0) (h : impl_ranked.f l0 a1 = some r) :
    Calls Tryd.prog 46 #[.slice A0 l0.length c0, .string a1] w fun e w' => ∃ v0_ : Value, e = .returned (v0_) ∧ Kd.R (Kd.int .i64) 3 w' w.heap.size (fun _ => True) v0_ r ∧ Below w.heap.size w w' := by
  unfold impl_ranked.f at h
  split at h
  rotate_left
  · cases h
  rename_i hcond
  obtain ⟨hl, hx, hk⟩ := hcond
  obtain rfl := Option.some.inj h
  clear h
  obtain ⟨zs, hz⟩ := sv_of l0 hx
  have hlen : zs.length = l0.length := by rw [← hz, List.length_map]
  have hrk : (rankL (hashSv a1) zs).map encSv = (rankL (fun x => hashT (keyT a1 x)) l0).map (Value.int .i64) := by
    rw [← hz, ← rankL_map (fun x : Srv => x.1) (hashSv a1) _ (fun _ => rfl), List.map_map]
    rfl
  have HI : Aside0 (HoldsInts w.heap.size w (.slice A0 l0.length c0) (zs.map (·.1))) := ⟨by rw [hz]; exact holds_arg w A0 c0 l0 hr0⟩
  have e70 : ∀ args w, (callFunc 70 args).run Tryd.prog w = .ok (.enter 70 args) w := enters_of Tryd.func70 (by kernel_rfl) rfl
  obtain ⟨w2, hw2⟩ : ∃ w2, ((w.alloc (.cells #[.string a1] 9)).alloc (.cells #[Value.nilFunc] 90)).setCell ⟨w.heap.size + 1, 0, none⟩ (.func (.func 70) #[] #[.pointer (some ⟨w.heap.size, 0, none⟩)]) = w2 := ⟨_, rfl⟩
  have hB2 : Aside0 (Below w.heap.size w w2) := ⟨by rw [← hw2]; exact (((Below.refl _ w).alloc (Nat.le_refl _) _).alloc (by simp) _).setCell (by simp) _⟩
  have hs2 : Aside0 (w2.heap.size = w.heap.size + 2) := ⟨by rw [← hw2]; simp [World.setCell]⟩
  have hk1 : Aside0 (w2.cell? ⟨w.heap.size, 0, none⟩ = some (.string a1)) := ⟨by
    rw [← hw2, World.cell?_setCell_other _ _ _ _ (by intro e; simp only [Addr.mk.injEq] at e; omega)]
    exact ((Boxed.new w 9 (.string a1)).alloc _).cell⟩
  have hk2 : Aside0 (w2.cell? ⟨w.heap.size + 1, 0, none⟩ = some (.func (.func 70) #[] #[.pointer (some ⟨w.heap.size, 0, none⟩)])) := ⟨by
    rw [← hw2]
    have hb := Boxed.new (w.alloc (.cells #[.string a1] 9)) 90 Value.nilFunc
    rw [World.size_alloc] at hb
    exact (hb.set _).cell⟩
  have hbx := Boxed.new (w.alloc (.cells #[.string a1] 9)) 90 Value.nilFunc
  rw [World.size_alloc] at hbx
  have hz1 := hbx.cell
  have hz2 := hbx.frozen
  clear hbx
  go_enter Tryd.func46, Tryd.ntmps46
  go_wp2_with (first
    | (go_at_call 72; refine (rk72 A0 l0.length c0 w2).mono ?_; rintro e w3 ⟨rfl, rfl⟩; have hS := Aside0.mk (Boxed.new w2 22 (.slice A0 l0.length c0)).cell)
    | (go_at_call 71; refine (rk71 a1 hk w.heap.size (w.heap.size + 1) w2.heap.size (.slice A0 l0.length c0) zs (by omega) (w2.alloc (.cells #[.slice A0 l0.length c0] 22)) (by have := hs2.out; simp; omega) (by have := hs2.out; simp; omega) (by simp) ?k1 ?k2 hS.out ?k3).mono ?_; (case k1 => exact ((Below.refl w2.heap.size w2).alloc (Nat.le_refl _) _).cell (p := ⟨w.heap.size, 0, none⟩) (by have := hs2.out; show w.heap.size < w2.heap.size; omega) |>.trans hk1.out); (case k2 => exact ((Below.refl w2.heap.size w2).alloc (Nat.le_refl _) _).cell (p := ⟨w.heap.size + 1, 0, none⟩) (by have := hs2.out; show w.heap.size + 1 < w2.heap.size; omega) |>.trans hk2.out); (case k3 => exact holds_below2 HI.out hB2.out); rintro e w4 ⟨v, rfl, hrow, hB⟩; have HR := Aside0.mk hrow; have HB := Aside0.mk hB; clear hrow hB))

  go_ret
  refine ⟨_, rfl, ?_, ?_⟩
  · rw [hrk, hlen] at HR
    exact Kd.R_of_own (own_weaken (by rw [rankL_length]; exact HR.out) (by have := hs2.out; simp; omega)) (fun _ _ => trivial)
  · exact hB2.out.trans (((Below.refl w2.heap.size w2).alloc (Nat.le_refl _) _).mono (by have := hs2.out; omega) |>.trans (HB.out.mono (by have := hs2.out; simp; omega)))

end Go.Proofs.YtfopmaiednikhaaDoor.PFnExactMovedKeys
