-- written by a program of this session (wip/tool)
import Derived.Test.YthneflfbafieeaaGreatDoorPFnTornx19
import Derived.Test.YthneflfbafieeaaGreatDoorPFnTornx18
import Derived.Test.YthneflfbafieeaaGreatDoorPFnTornx22
import Derived.Test.YthneflfbafieeaaGreatDoorPFnTornx24
import Derived.Test.YthneflfbafieeaaGreatDoorPFnTornx25
import Derived.Test.YthneflfbafieeaaGreatDoorVOwn0
import Derived.Test.YthneflfbafieeaaGreatDoorVOwnOpen
import Derived.WalkKit
import Derived.BigCall
import Derived.Test.YthneflfbafieeaaGreatDoorOwnTr
import Derived.Test.YthneflfbafieeaaGreatDoorVOwnShort
import Derived.Test.YthneflfbafieeaaGreatDoorOwnSq
namespace Go.Proofs.YthneflfbafieeaaGreatDoor.PFnTorn
open Go.RowKit Go.Proofs.YthneflfbafieeaaGreatDoorW.PrintWords Go.Proofs.YthneflfbafieeaaGreatDoorW.PrintLast Go.Proofs.YthneflfbafieeaaGreatDoorW.PrintMore Go.Shelf Go.Proofs.YthneflfbafieeaaGreatDoorOwn
set_option linter.unusedVariables false
set_option linter.unusedSimpArgs false
/-! ### laws_FnTorn: function 5 -/
/-- What the pure part shows. -/
structure TornFacts : Prop where
  head : HeadF
  resp : RespF
  bytes : ∀ (m t b : ByteArray) (l : List S75), m.size ≤ 11 → t.size ≤ 9 → SmM b l → ∃ k k' s s' ok, impl_RequestBytes.f k m t l b = some (s, ok) ∧ spec_RequestBytes.f k' m t l b = some (s', ok) ∧
    (ok = true → 0 < s.size ∧ s.size ≤ 5000 ∧ ∀ j : Nat, j < s.size → ∃ k r2 r3 r4, impl_TakeRequest.f k (s.extract 0 j) = some (⟨#[]⟩, r2, r3, r4, 0, 1))
  num : ∀ l : List Int, BytD l → l.length ≤ 1048576 → ∃ k n, laws_numberOf.f k l = some n ∧ 0 ≤ n ∧ n ≤ 1000003
  req : ∀ s : ByteArray, s.size ≤ 5000 → ∃ k a1 a2 a3 a4 n c, impl_TakeRequest.f k s = some (a1, a2, a3, a4, n, c) ∧ ∃ k' b1 b2 b3 b4, spec_TakeRequest.f k' s = some (b1, b2, b3, b4, n, c) ∧ ∃ k2, laws_sameRequests.f k2 a1 a2 a3 a4 b1 b2 b3 b4 = some true
  ans : ∀ s : ByteArray, s.size ≤ 5000 → ∃ k a1 a2 a3 a4 n c, impl_TakeResponse.f k s = some (a1, a2, a3, a4, n, c) ∧ ∃ k' b1 b2 b3 b4, spec_TakeResponse.f k' s = some (b1, b2, b3, b4, n, c) ∧ ∃ k2, laws_sameAnswers.f k2 a1 a2 a3 a4 b1 b2 b3 b4 = some true
set_option maxHeartbeats 8000000 in
set_option maxRecDepth 100000 in
theorem laws_FnTorn.run (T : TornFacts) (A0 A1 : Option Addr) (c0 c1 : Nat) (l0 l1 : List Int) (w : World) (hr0 : Kd.C (Kd.int .u8) w A0 l0.length l0) (hr1 : Kd.C (Kd.int .u8) w A1 l1.length l1) (hc1 : l1.length ≤ c1) (hy0 : BytD l0) (hy1 : BytD l1) (hz0 : l0.length ≤ 140737488351232) (hz1 : l1.length ≤ 140737488351232) (ht : Glob w) :
    Calls Tryz.prog 5 #[.slice A0 l0.length c0, .slice A1 l1.length c1] w fun e w' => e = .returned (.bool true) ∧ Below w.heap.size w w' := by
  have hu24 := Tryz.underlying24
  have hu31 := Tryz.underlying31
  have HT := ak ht
  have TF := ak T
  have HR0 := ak hr0
  have HR1 := ak hr1
  clear T ht hr0 hr1
  have HB := ak (Below.refl w.heap.size w)
  obtain ⟨q, hq⟩ : ∃ j_ : Int, (wrap64 ((l0.length : Int) + (l1.length : Int))) = j_ := ⟨_, rfl⟩
  have hqv := ak (show q = (l0.length : Int) + (l1.length : Int) by rw [← hq]; unfold wrap64; omega)
  have hqw : (IntKind.i64.wrap ((l0.length : Int) + (l1.length : Int))) = q := (i64_w _).trans hq
  go_enter Tryz.func5, Tryz.ntmps5
  by_cases c : q > 1048576
  · have cb : decide (1048576 < q) = true := decide_eq_true c
    clear c
    go_wp2
    go_ret
    exact ⟨rfl, bl HB.out⟩
  · have cb : decide (1048576 < q) = false := decide_eq_false c
    have HL := ak (show l1.length ≤ 1048576 by have := hqv.out; omega)
    clear c
    go_upto_if 48 with (first
      | ((with_reducible refine gc 16 ?_); refine gL 16 Tryz.func16 (some 34) #[.slice A0 l0.length c0] ?_; refine (requestBytesD hy0 (kc (Kd.C_below HR0.out HB.out))).mono ?_; rintro e w1 ⟨m, t, v, b, l, rfl, hm, hl, ho, hb⟩; obtain ⟨A3, c3, rfl⟩ := Kd.R_slice ho; obtain ⟨k1, k2, s1, s2, ok1, e1, e2, e3⟩ := TF.out.bytes m t b l hm.1 hm.2 hl; refine ⟨_, rfl, ?_⟩; have N1 := ak e1; have N2 := ak e2; have N3 := ak e3; have HO := ak ho; replace HB := ak (below_step (bl HB.out) hb); clear hb ho hm hl e1 e2 e3)
      | ((with_reducible refine gd 5 ?_); refine bE 5 #[.string (⟨#[]⟩ : ByteArray), .string (⟨#[]⟩ : ByteArray), .slice none 0 0, .string (⟨#[]⟩ : ByteArray)] 24 ?_; intro p5 hg w2 hbox hb; have G5 := gs hg (bl HB.out); have BK5 := ak hbox; replace HO := ak (Kd.R_below (kr HO.out) hb); replace HB := ak (below_step (bl HB.out) hb); clear hb hbox hg; obtain ⟨hcz0, hcz1, hcz2, hcz3, hfz0, hfz1, hfz2, hfz3⟩ := b4 BK5.out)
      | ((with_reducible refine gc 17 ?_); refine gL 17 Tryz.func17 (some 37) #[.agg #[.string m, .string t, .slice A3 l.length c3, .string b]] ?_; refine (impl_RequestBytes.calls k1 m t _ _ l b s1 ok1 _ (Kd.R_reads' (kz HO.out ⟨_, BK5.out⟩ (by decide))).2.2 (Kd.R_reads' HO.out).2.1 N1.out (globg HT.out (bl1 HB.out G5.out))).mono ?_; rintro e w3 ⟨rfl, hb⟩; refine ⟨_, rfl, ?_⟩; replace HO := ak (Kd.R_below (kz HO.out ⟨_, BK5.out⟩ (by decide)) hb); replace BK5 := ak (blk_below (bq BK5.out) hb); replace HB := ak (below_step (bl1 HB.out G5.out) hb); clear hb; obtain ⟨hcz0, hcz1, hcz2, hcz3, hfz0, hfz1, hfz2, hfz3⟩ := b4 BK5.out)
      | ((with_reducible refine gc 18 ?_); refine gL 18 Tryz.func18 (some 42) #[.agg #[.string m, .string t, .slice A3 l.length c3, .string b]] ?_; refine (spec_RequestBytes.calls k2 m t _ _ l b s2 ok1 _ (Kd.R_reads' (kz HO.out ⟨_, BK5.out⟩ (by decide))).2.2 (Kd.R_reads' HO.out).2.1 N2.out).mono ?_; rintro e w4 ⟨rfl, hb⟩; refine ⟨_, rfl, ?_⟩; replace HB := ak (below_step (bl1 HB.out G5.out) hb); clear hb HO BK5))
    (try simp only [Act.put, List.setIfInBounds_toArray, List.set_cons_zero, List.set_cons_succ])
    go_cut [] (fun wc => Aside0 (Below w.heap.size w wc))
    case first =>
      cases ok1 with
      | false =>
        go_wp2
        go_meet
        case rel => exact ⟨bl HB.out⟩
      | true =>
        obtain ⟨kn, nn, f1, f2, f3⟩ := TF.out.num l1 hy1 HL.out
        obtain ⟨g1, g2, g3⟩ := N3.out rfl
        obtain ⟨j, hj⟩ : ∃ j_ : Int, Int.tmod nn (s1.size : Int) = j_ := ⟨_, rfl⟩
        have hj0 : 0 ≤ j := by rw [← hj]; exact Int.tmod_nonneg _ f2
        have hj1 : j < (s1.size : Int) := by rw [← hj]; exact Int.tmod_lt_of_pos _ (by omega)
        obtain ⟨k9, r2, r3, r4, h9⟩ := g3 j.toNat (by omega)
        have N9 := ak h9
        have NN := ak f1
        have z0 : ((s1.size : Int) == 0) = false := beq_eq_false_iff_ne.mpr (by omega)
        have z1 : ((s1.size : Int) = 0) = False := eq_false (by omega)
        have z2 : (s1.size = 0) = False := eq_false (by omega)
        have fa0 := eq_true hj0
        have fa1 : decide (0 ≤ j) = true := decide_eq_true hj0
        have fa2 := eq_true (Int.le_of_lt hj1)
        have fa3 : decide (j ≤ (s1.size : Int)) = true := decide_eq_true (Int.le_of_lt hj1)
        clear h9 f1 f2 f3 g1 g2 g3 hj0 hj1
        go_wp2_with (first
          | ((with_reducible refine gc 19 ?_); refine gL 19 Tryz.func19 (some 52) #[.slice A1 l1.length c1] ?_; refine (laws_numberOf.calls kn A1 c1 l1 nn _ (kc (Kd.C_below HR1.out HB.out)) hc1 NN.out).mono ?_; rintro e w5 ⟨rfl, ⟨nd, rfl⟩⟩; refine ⟨_, rfl, ?_⟩)
          | ((with_reducible refine gd 57 ?_); refine gL 7 Tryz.func7 (some 57) #[.string (s1.extract 0 j.toNat)] ?_; refine (impl_TakeRequest.calls k9 (s1.extract 0 j.toNat) ⟨#[]⟩ r2 r3 r4 0 1 _ N9.out (globg HT.out (bl HB.out))).mono ?_; rintro e w6 ⟨v6, rfl, ho, hb⟩; obtain ⟨A6, c6, rfl⟩ := Kd.R_slice ho; refine ⟨_, rfl, ?_⟩; replace HB := ak (below_step (bl HB.out) hb); clear hb ho)
          | ((with_reducible refine gd 10 ?_); refine bE 10 #[.string (⟨#[]⟩ : ByteArray), .string (⟨#[]⟩ : ByteArray), .slice none 0 0, .string (⟨#[]⟩ : ByteArray)] 24 ?_; intro p10 hg w7 hbox hb; have G10 := gs hg (bl HB.out); have BK10 := ak hbox; replace HB := ak (below_step (bl HB.out) hb); clear hb hbox hg; obtain ⟨hcz0, hcz1, hcz2, hcz3, hfz0, hfz1, hfz2, hfz3⟩ := b4 BK10.out))
        go_meet
        case rel => exact ⟨bl1 HB.out G10.out⟩
    case rest =>
      have HB := hcut
      clear hcut
      go_upto_region 17 with (first
        | ((with_reducible refine gc 20 ?_); refine gL 20 Tryz.func20 (some 73) #[.slice A1 l1.length c1] ?_; refine (takeReqD TF.out.head hy1 (kc (Kd.C_below HR1.out HB.out))).mono ?_; rintro e waq ⟨sq, rfl, hsq, hb⟩; obtain ⟨kaq, a1q, a2q, a3q, a4q, nq, dq, e1, kbq, b1q, b2q, b3q, b4q, e2, kcq, e3⟩ := TF.out.req sq hsq; refine ⟨_, rfl, ?_⟩; have M1 := ak e1; have M2 := ak e2; have M3 := ak e3; replace HB := ak (below_step (bl HB.out) hb); clear hb e1 e2 e3)
        | ((with_reducible refine gc 7 ?_); refine gL 7 Tryz.func7 (some 76) #[.string sq] ?_; refine (impl_TakeRequest.calls kaq sq a1q a2q a3q a4q nq dq _ M1.out (globg HT.out (bl HB.out))).mono ?_; rintro e wbq ⟨vaq, rfl, ho, hb⟩; obtain ⟨AAq, caq, rfl⟩ := Kd.R_slice ho; refine ⟨_, rfl, ?_⟩; have HO := ak ho; replace HB := ak (below_step (bl HB.out) hb); clear hb ho)
        | ((with_reducible refine gd 14 ?_); refine bE 14 #[.string (⟨#[]⟩ : ByteArray), .string (⟨#[]⟩ : ByteArray), .slice none 0 0, .string (⟨#[]⟩ : ByteArray)] 24 ?_; intro p14 hg wcq hbox hb; have GA := gs hg (bl HB.out); have BKA := ak hbox; replace HO := ak (Kd.R_below (kr HO.out) hb); replace HB := ak (below_step (bl HB.out) hb); clear hb hbox hg; obtain ⟨hcz0, hcz1, hcz2, hcz3, hfz0, hfz1, hfz2, hfz3⟩ := b4 BKA.out)
        | ((with_reducible refine gc 6 ?_); refine gL 6 Tryz.func6 (some 82) #[.string sq] ?_; refine (spec_TakeRequest.calls kbq sq b1q b2q b3q b4q nq dq _ M2.out).mono ?_; rintro e wdq ⟨vbq, rfl, ho, hb⟩; obtain ⟨ABq, cbq, rfl⟩ := Kd.R_slice ho; refine ⟨_, rfl, ?_⟩; have HP := ak ho; replace HO := ak (Kd.R_below (kz HO.out ⟨_, BKA.out⟩ (by decide)) hb); replace BKA := ak (blk_below (bq BKA.out) hb); replace HB := ak (below_step (bl1 HB.out GA.out) hb); clear hb ho)
        | ((with_reducible refine gd 17 ?_); refine bE 17 #[.string (⟨#[]⟩ : ByteArray), .string (⟨#[]⟩ : ByteArray), .slice none 0 0, .string (⟨#[]⟩ : ByteArray)] 24 ?_; intro p17 hg weq hbox hb; have GB := gs hg (bl1 HB.out GA.out); have NB := ng hg BKA.out; have NC := nl hg BKA.out; have hnb := NB.out; have hnc := NC.out; have BKB := ak hbox; replace BKA := ak (blk_below (bq BKA.out) hb); replace HO := ak (Kd.R_below (kr HO.out) hb); replace HP := ak (Kd.R_below (kr HP.out) hb); replace HB := ak (below_step (bl1 HB.out GA.out) hb); clear hb hbox hg; obtain ⟨hcz0, hcz1, hcz2, hcz3, hfz0, hfz1, hfz2, hfz3⟩ := b4 BKB.out; obtain ⟨hdz0, hdz1, hdz2, hdz3, hez0, hez1, hez2, hez3⟩ := b4 BKA.out)
        | (go_at_call 21; refine (laws_sameRequests.calls kcq a1q a2q _ _ a3q a4q b1q b2q _ _ b3q b4q true _ (Kd.R_reads' (kz2 HO.out ⟨_, BKA.out⟩ ⟨_, BKB.out⟩ (by decide))).2.2 (Kd.R_reads' HO.out).2.1 (Kd.R_reads' (kz2 HP.out ⟨_, BKA.out⟩ ⟨_, BKB.out⟩ (by decide))).2.2 (Kd.R_reads' HP.out).2.1 M3.out).mono ?_; rintro e wfq ⟨rfl, hb⟩; replace HB := ak (below_step (bl2 HB.out GA.out GB.out) hb); clear hb HO HP BKA BKB))
      clear NB NC GA GB M1 M2 M3
      go_wp2_with (first
        | ((with_reducible refine gc 22 ?_); refine gL 22 Tryz.func22 (some 101) #[.slice A0 l0.length c0] ?_; refine (takeRespD TF.out.resp hy0 (kc (Kd.C_below HR0.out HB.out))).mono ?_; rintro e war ⟨sr, rfl, hsr, hb⟩; obtain ⟨kar, a1r, a2r, a3r, a4r, nr, dr, e1, kbr, b1r, b2r, b3r, b4r, e2, kcr, e3⟩ := TF.out.ans sr hsr; refine ⟨_, rfl, ?_⟩; have M1 := ak e1; have M2 := ak e2; have M3 := ak e3; replace HB := ak (below_step (bl HB.out) hb); clear hb e1 e2 e3)
        | ((with_reducible refine gc 12 ?_); refine gL 12 Tryz.func12 (some 104) #[.string sr] ?_; refine (impl_TakeResponse.calls kar sr a1r a2r a3r a4r nr dr _ M1.out (globg HT.out (bl HB.out))).mono ?_; rintro e wbr ⟨var, rfl, ho, hb⟩; obtain ⟨AAr, car, rfl⟩ := Kd.R_slice ho; refine ⟨_, rfl, ?_⟩; have HO := ak ho; replace HB := ak (below_step (bl HB.out) hb); clear hb ho)
        | ((with_reducible refine gd 21 ?_); refine bE 21 #[.int .i64 0, .string (⟨#[]⟩ : ByteArray), .slice none 0 0, .string (⟨#[]⟩ : ByteArray)] 31 ?_; intro p21 hg wcr hbox hb; have GA := gs hg (bl HB.out); have BKA := ak hbox; replace HO := ak (Kd.R_below (kr HO.out) hb); replace HB := ak (below_step (bl HB.out) hb); clear hb hbox hg; obtain ⟨hcz0, hcz1, hcz2, hcz3, hfz0, hfz1, hfz2, hfz3⟩ := b4 BKA.out)
        | ((with_reducible refine gc 11 ?_); refine gL 11 Tryz.func11 (some 110) #[.string sr] ?_; refine (spec_TakeResponse.calls kbr sr b1r b2r b3r b4r nr dr _ M2.out).mono ?_; rintro e wdr ⟨vbr, rfl, ho, hb⟩; obtain ⟨ABr, cbr, rfl⟩ := Kd.R_slice ho; refine ⟨_, rfl, ?_⟩; have HP := ak ho; replace HO := ak (Kd.R_below (kz HO.out ⟨_, BKA.out⟩ (by decide)) hb); replace BKA := ak (blk_below (bq BKA.out) hb); replace HB := ak (below_step (bl1 HB.out GA.out) hb); clear hb ho)
        | ((with_reducible refine gd 24 ?_); refine bE 24 #[.int .i64 0, .string (⟨#[]⟩ : ByteArray), .slice none 0 0, .string (⟨#[]⟩ : ByteArray)] 31 ?_; intro p24 hg wer hbox hb; have GB := gs hg (bl1 HB.out GA.out); have NB := ng hg BKA.out; have NC := nl hg BKA.out; have hnb := NB.out; have hnc := NC.out; have BKB := ak hbox; replace BKA := ak (blk_below (bq BKA.out) hb); replace HO := ak (Kd.R_below (kr HO.out) hb); replace HP := ak (Kd.R_below (kr HP.out) hb); replace HB := ak (below_step (bl1 HB.out GA.out) hb); clear hb hbox hg; obtain ⟨hcz0, hcz1, hcz2, hcz3, hfz0, hfz1, hfz2, hfz3⟩ := b4 BKB.out; obtain ⟨hdz0, hdz1, hdz2, hdz3, hez0, hez1, hez2, hez3⟩ := b4 BKA.out)
        | (go_at_call 23; refine (laws_sameAnswers.calls kcr a1r a2r _ _ a3r a4r b1r b2r _ _ b3r b4r true _ (Kd.R_reads' (kz2 HO.out ⟨_, BKA.out⟩ ⟨_, BKB.out⟩ (by decide))).2.2 (Kd.R_reads' HO.out).2.1 (Kd.R_reads' (kz2 HP.out ⟨_, BKA.out⟩ ⟨_, BKB.out⟩ (by decide))).2.2 (Kd.R_reads' HP.out).2.1 M3.out).mono ?_; rintro e wfr ⟨rfl, hb⟩; replace HB := ak (below_step (bl2 HB.out GA.out GB.out) hb); clear hb HO HP BKA BKB))
      go_ret
      exact ⟨by first | rfl | (simp; done) | (simp [*]; done), bl HB.out⟩
theorem bytD_of {l : List Int} (h : ∀ x ∈ l, (Lit.int .u8 x).wf = true) : BytD l := by
  intro x hx
  have := h x hx
  simp only [Lit.wf, IntKind.min, IntKind.max, IntKind.signed, IntKind.bits, Bool.and_eq_true, decide_eq_true_eq] at this
  simp at this; omega
theorem laws_FnTorn.walk (P : TornFacts) (a0 : Option Addr) (len0 cap0 : Nat) (z0 : List Int) (a1 : Option Addr) (len1 cap1 : Nat) (z1 : List Int) (w : World) (w0 : (a0 = none ∧ len0 = 0 ∧ cap0 = 0 ∧ z0 = []) ∨ ∃ x, a0 = some x ∧ len0 ≤ cap0 ∧ cap0 ≤ maxLen ∧ z0.length = cap0 ∧ (∀ i, i < z0.length → w.cell? (x.add i) = some (.int .u8 (z0.getD i 0))) ∧ ∀ n ∈ z0, (Lit.int .u8 n).wf = true) (y0 : len0 * 1 ≤ 140737488351232) (w1 : (a1 = none ∧ len1 = 0 ∧ cap1 = 0 ∧ z1 = []) ∨ ∃ x, a1 = some x ∧ len1 ≤ cap1 ∧ cap1 ≤ maxLen ∧ z1.length = cap1 ∧ (∀ i, i < z1.length → w.cell? (x.add i) = some (.int .u8 (z1.getD i 0))) ∧ ∀ n ∈ z1, (Lit.int .u8 n).wf = true) (y1 : len1 * 1 ≤ 140737488351232) (ht : Glob w) :
    Calls Tryz.prog 5 #[.slice a0 len0 cap0, .slice a1 len1 cap1] w fun e w' => e = .returned (.bool true) ∧ Below w.heap.size w w' := by
  obtain ⟨l0, rfl, hr0, hm0, hw0, hc0⟩ := ReadsInt.ofRowC w0
  obtain ⟨l1, rfl, hr1, hm1, hw1, hc1⟩ := ReadsInt.ofRowC w1
  exact laws_FnTorn.run P _ _ _ _ l0 l1 w (Kd.C_of_reads (d := (0 : Int)) (h1 := fun _ => rfl) hr0) (Kd.C_of_reads (d := (0 : Int)) (h1 := fun _ => rfl) hr1) hc1 (bytD_of hw0) (bytD_of hw1) (by omega) (by omega) ht
end Go.Proofs.YthneflfbafieeaaGreatDoor.PFnTorn
