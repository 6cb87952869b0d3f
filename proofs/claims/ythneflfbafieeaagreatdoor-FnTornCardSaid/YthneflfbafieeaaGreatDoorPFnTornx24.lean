-- written by a program of this session (wip/tool)
import Derived.Test.YthneflfbafieeaaGreatDoorPFnTornx21
import Derived.Test.YthneflfbafieeaaGreatDoorPFnTornx16
import Derived.Test.YthneflfbafieeaaGreatDoorPFnTornx7
import Derived.Test.YthneflfbafieeaaGreatDoorPFnTornx17
import Derived.Test.YthneflfbafieeaaGreatDoorPFnTornx25
import Derived.Test.YthneflfbafieeaaGreatDoorVOwn0
import Derived.Test.YthneflfbafieeaaGreatDoorVOwnOpen
import Derived.WalkKit
import Derived.BigCall
import Derived.Test.YthneflfbafieeaaGreatDoorOwnTr
import Derived.Test.YthneflfbafieeaaGreatDoorVOwnShort
import Derived.Test.YthneflfbafieeaaGreatDoorOwnSq
namespace Go.Proofs.YthneflfbafieeaaGreatDoor.PFnTorn
open Go.RowKit Go.Proofs.YthneflfbafieeaaGreatDoorW.PrintWords Go.Proofs.YthneflfbafieeaaGreatDoorW.PrintLast Go.Proofs.YthneflfbafieeaaGreatDoorW.PrintMore Go.Shelf Go.Proofs.YthneflfbafieeaaGreatDoorOwn
set_option linter.unusedVariables false
set_option linter.unusedSimpArgs false
set_option maxHeartbeats 8000000
set_option maxRecDepth 100000
section
variable {P : Program} {md : Region.Mode} {ops : Array Oper} {Q : Exit → Act → World → Prop} {S : World → Prop} {ds : List Nat} {oi : Oper} {v : Value} {fuel : Nat} {l l' : Array Bool} {a a' : Act} {w : World}
theorem pz (i : Nat) (N : Option Tmp) (h : wpAnyLast P md ops Q S ds fuel l' a' w)
    (hl : l.setIfInBounds i true = l' := by (simp only [List.setIfInBounds_toArray, List.set_cons_zero, List.set_cons_succ]; rfl)) (hi : ops[i]? = some oi := by (exact rfl)) (hN : oi.dst = N := by (exact rfl)) (hc : anyB md ops l l' i = true := by kernel_rfl)
    (hw : Region.wanted oi (yielded ops a.tmps) = true := by rfl) (hy : ∀ w, (execOp a.eval oi).run P w = .ok (.value v) w := by (intro w'; go_simp; with_reducible rfl))
    (ha : a.put N v = a' := by (simp only [Act.put, List.setIfInBounds_toArray, List.set_cons_zero, List.set_cons_succ, i64_w, i32_w]; rfl))
    (hQ : ∀ c a w, Q (.panic c) (a.put oi.dst v) w → Q (.panic c) a w := by (exact fun _ _ _ h => h)) : wpAnyLast P md ops Q S ds (fuel + 1) l a w := pure_ l' hi hN hc hQ (.inl ⟨hw, hy⟩) ha h
theorem tz (i : Nat) (N : Option Tmp) (hS : S w) (h : wpAnyLast P md ops Q S ds fuel l' a' w)
    (hl : l.setIfInBounds i true = l' := by (simp only [List.setIfInBounds_toArray, List.set_cons_zero, List.set_cons_succ]; rfl)) (hi : ops[i]? = some oi := by (exact rfl)) (hN : oi.dst = N := by (exact rfl)) (hc : takeB md ops ds l l' i = true := by kernel_rfl)
    (hw : Region.wanted oi (yielded ops a.tmps) = true := by rfl) (hy : ∀ w, S w → (execOp a.eval oi).run P w = .ok (.value v) w := by (intro w' s_; (repeat (have := s_.1; replace s_ := s_.2)); go_simp; with_reducible rfl))
    (ha : a.put N v = a' := by (simp only [Act.put, List.setIfInBounds_toArray, List.set_cons_zero, List.set_cons_succ, i64_w, i32_w]; rfl))
    (hQ : ∀ c a w, Q (.panic c) (a.put oi.dst v) w → Q (.panic c) a w := by (exact fun _ _ _ h => h)) : wpAnyLast P md ops Q S ds (fuel + 1) l a w := take_ l' hi hN hc hQ (.inl ⟨hw, hy⟩) hS ha h
end
theorem reps75 {R : S75 → List Value → Prop} (hR : ∀ x : S75, R x [.string x.f0, .string x.f1]) : ∀ xs : List S75, Reps R 2 xs (xs.flatMap fun x => [.string x.f0, .string x.f1])
  | [] => Reps.none _ _
  | x :: xs => Reps.c2 (hR x) (reps75 hR xs)
theorem numD (n : Nat) (hn : n < 10) : ∃ r, spec_l1Num.f 1 (n : Int) = some r ∧ r.size = 1 := by
  refine ⟨strOfNums [(wrap64 (48 + (n : Int))) % 256], ?_, by rfl⟩
  rw [spec_l1Num.f, if_pos (by omega)]
/-! ### spec_l1Cur_body: function 82 -/
theorem bodyD {w0 w : World} {g n : Nat} {cs : List Int} (h : Dr w0 w w g cs n) (hn : n ≤ 2000000000) :
    Calls Tryz.prog 82 #[.pointer (some ⟨g, 0, none⟩)] w fun e w' => ∃ s v l, e = .returned (.tuple #[.string s, v]) ∧ s.size ≤ 5 ∧ Kd.R k75 75 w' w.heap.size (fun _ => True) v l ∧ l.length ≤ 2 ∧ SmF l ∧ Dr w0 w w' g cs (n + 10) := by
  have hu75 := Tryz.underlying75
  have HD := ak h
  clear h
  go_enter Tryz.func82, Tryz.ntmps82
  go_upto_region 2 with (first
    | ((with_reducible refine gate_dst (N := 7) rfl ?_); refine ofL 7 8 [⟨#[]⟩, ⟨#[]⟩, ⟨#[104, 101, 108, 108, 111]⟩, ⟨#[120]⟩, ⟨#[13, 10, 13, 10]⟩] 5 (dr HD.out) (by omega) ?_; intro A7 c7 r8 w2 hr8 hk; replace HD := ak ((dr HD.out).join hk); clear hk))
  (try simp only [Act.put, List.setIfInBounds_toArray, List.set_cons_zero, List.set_cons_succ])
  go_cut [14] (fun v14 wc => ∃ x : Bool, v14 = .bool x ∧ Aside0 (Dr w0 w wc g cs (n + 4)))
  case first =>
    by_cases c8 : r8.toList = ([] : List UInt8)
    · have c8b0 : (r8.toList == ([] : List UInt8)) = true := beq_iff_eq.mpr c8
      have c8b1 : (r8.toList != ([] : List UInt8)) = false := bne_eq_false_iff_eq.mpr c8
      clear c8
      (first | rw [c8b0] | (simp only [i64_w, i32_w]; rw [c8b0]) | skip)
      go_wp2_with (first | (go_at_call 85; refine (oneD 2 (dr HD.out).here (by omega)).mono ?_; rintro e w3 ⟨r13, rfl, hk⟩; replace HD := ak ((dr HD.out).join hk); clear hk))
      go_meet
      case rel => exact ⟨_, by first | rfl | (simp; done) | (simp [*]; done), ⟨(dr HD.out).more (by omega)⟩⟩
    · have c8b0 : (r8.toList == ([] : List UInt8)) = false := beq_eq_false_iff_ne.mpr c8
      have c8b1 : (r8.toList != ([] : List UInt8)) = true := bne_iff_ne.mpr c8
      (first | rw [c8b0] | (simp only [i64_w, i32_w]; rw [c8b0]) | skip)
      go_wp2
      go_meet
      case rel => exact ⟨false, by first | rfl | (simp; done) | (simp [*]; done), ⟨(dr HD.out).more (by omega)⟩⟩
  case rest =>
    obtain ⟨x14, rfl, HD⟩ := hcut
    cases x14 with
    | true =>
      go_wp2
      go_ret2
      exact ⟨_, _, [], by first | rfl | (simp [*, errW_none, errW_some] <;> rfl), hr8, Kd.R_nil _ _ _ _ _, by simp, fun f hf => absurd hf (by simp), (dr HD.out).more (by omega)⟩
    | false =>
      obtain ⟨r20, hr20, hs20⟩ := numD r8.size (by omega)
      have HN := ak hr20
      clear hr20
      go_upto_block 0 with (first
        | ((with_reducible refine gate_dst (N := 17) rfl ?_); refine ofL 17 18 [⟨#[67, 111, 110, 116, 101, 110, 116, 45, 76, 101, 110, 103, 116, 104]⟩, ⟨#[99, 111, 110, 116, 101, 110, 116, 45, 108, 101, 110, 103, 116, 104]⟩] 14 (dr HD.out) (by omega) ?_; intro A17 c17 r18 w4 hr18 hk; replace HD := ak ((dr HD.out).join hk); clear hk)
        | ((with_reducible refine gate_callee (f := 106) rfl ?_); refine gL 106 Tryz.func106 (some 21) #[.int .i64 (r8.size : Int)] ?_; refine (spec_l1Num.calls 1 (r8.size : Int) r20 _ HN.out).mono ?_; rintro e w5 ⟨rfl, hb⟩; refine ⟨_, rfl, ?_⟩; replace HD := ak ((dr HD.out).step hb); clear hb)
        | ((with_reducible refine gate_dst (N := 5) rfl ?_); refine bE 5 #[.string (⟨#[]⟩ : ByteArray), .string (⟨#[]⟩ : ByteArray)] 75 ?_; intro p5 hg w6 hbox hb; have FA5 := ak ((dr HD.out).new hg); have BK5 := ak hbox; replace HD := ak ((dr HD.out).step hb); clear hb hbox hg; obtain ⟨hcz0, hcz1, hfz0, hfz1⟩ := b2 BK5.out)
        | ((with_reducible refine gate_callee (f := 86) rfl ?_); refine gL 86 Tryz.func86 (some 24) #[.pointer (some ⟨g, 0, none⟩), .int .i64 30] ?_; refine (pickD 30 (dr HD.out).here (by omega)).mono ?_; rintro e w7 ⟨r24, rfl, hp0, hp1, hk⟩; refine ⟨_, rfl, ?_⟩; replace BK5 := ak (hk.blk (bq BK5.out) FA5.out.n); replace HD := ak ((dr HD.out).join hk); clear hk; obtain ⟨hcz0, hcz1, hfz0, hfz1⟩ := b2 BK5.out))
      (try simp only [Act.put, List.setIfInBounds_toArray, List.set_cons_zero, List.set_cons_succ])
      go_cut [] (fun wc => ∃ nm val : ByteArray, Aside0 (nm.size ≤ 14 ∧ val.size ≤ 20) ∧ Aside0 (wc.heap[p5]? = some (.cells #[.string nm, .string val] 75 (0, 0))) ∧ Aside0 (Dr w0 w wc g cs (n + 10)))
      case first =>
        by_cases c0 : r24 = 0
        · have c0b : (r24 == 0) = true := beq_iff_eq.mpr c0
          clear c0
          go_wp2_with (first
            | ((with_reducible refine gate_dst (N := 28) rfl ?_); refine ofL 28 29 [⟨#[53, 44, 32, 53]⟩, ⟨#[48, 53]⟩, ⟨#[120]⟩, ⟨#[51, 48, 49]⟩, ⟨#[53, 44, 32, 54]⟩] 4 (dr HD.out) (by omega) ?_; intro A28 c28 r29 w8 hr29 hk; replace BK5 := ak (hk.blk (bq BK5.out) FA5.out.n); replace HD := ak ((dr HD.out).join hk); clear hk; obtain ⟨hcz0, hcz1, hfz0, hfz1⟩ := b2 BK5.out))
          go_meet
          case rel => exact ⟨r18, r29, ⟨by omega⟩, ⟨bq BK5.out⟩, ⟨(dr HD.out).more (by omega)⟩⟩
        · have c0b : (r24 == 0) = false := beq_eq_false_iff_ne.mpr c0
          by_cases c1 : r24 = 1
          · have c1b : (r24 == 1) = true := beq_iff_eq.mpr c1
            clear c0 c1
            go_upto_region 9 with fail
            have HZ := ak (keep_size HD.out.keep)
            refine start_ (n := 6) (S := fun w' => w'.cell? ⟨p5, 0, none⟩ = some (.string r18) ∧ w'.cell? ⟨p5, 1, none⟩ = some (.string r20)) (ds := []) #[false, false, false, false, false, false] (by kernel_rfl) rfl rfl ⟨bc0 (blk_drew BK5.out), bc1 (blk_drew BK5.out)⟩ (fun hHeld => ?_)
            replace BK5 := ak (blk_drew BK5.out)
            replace HD := ak (Dr.drew HD.out)
            refine pz 0 (some 33) ?_
            refine pz 4 (some 2) ?_
            refine tz 1 (some 34) hHeld ?_
            refine tz 2 (some 35) hHeld ?_
            refine one_ (i := 3) (N := some 36) #[true, true, true, true, true, false] rfl rfl (by kernel_rfl) (by decide) (fun K hK => ?_)
            refine Kd.R_lit_step k75 _ 75 ?hg (N := 36) ?hd (xs := ([⟨r18, r20⟩, ⟨r18, r20⟩] : List S75)) (inner := [.string r18, .string r20, .string r18, .string r20]) (ok := fun _ => True) (okp := fun _ => True) ?hr ?hp (fun _ hk => hk) trivial (Below.refl _ _) (Nat.le_refl _) (by simp) ?_; (case hd => rfl); (case hg => rfl); (case hr => first | (go_simp; done) | (go_simp; rfl)); (case hp => exact reps75 (R := k75.M _ _ _) (fun x => k75_mkM _ _ _ x) [⟨r18, r20⟩, ⟨r18, r20⟩])
            intro v9 w9 ho hb _ _
            replace BK5 := ak (blk_below BK5.out hb)
            replace HD := ak (HD.out.step hb)
            clear hb
            refine hK.out _ _ ⟨bc0 BK5.out, bc1 BK5.out⟩ (fun hHeld => ?_)
            clear hK K
            refine nr (some 36) ?_
            refine pz 5 (some 3) ?_
            refine done_ (by kernel_rfl) ?_
            try go_wp2
            go_ret2
            exact ⟨_, _, _, rfl, hr8, Kd.R_lower ho HZ.out, by simp, by intro f hf; simp only [List.mem_cons, List.not_mem_nil, or_false, or_self] at hf; subst hf; exact ⟨by dsimp only; omega, by dsimp only; omega⟩, (dr HD.out).more (by omega)⟩
          · have c1b : (r24 == 1) = false := beq_eq_false_iff_ne.mpr c1
            clear c0 c1
            go_wp2
            go_meet
            case rel => exact ⟨r18, r20, ⟨by omega⟩, ⟨bq BK5.out⟩, ⟨(dr HD.out).more (by omega)⟩⟩
      case rest =>
        obtain ⟨nm, val, HV, BK5, HD⟩ := hcut
        go_upto_region 10 with fail
        have HV' := HV.out
        have HZ := ak (keep_size HD.out.keep)
        refine start_ (n := 5) (S := fun w' => w'.cell? ⟨p5, 0, none⟩ = some (.string nm) ∧ w'.cell? ⟨p5, 1, none⟩ = some (.string val)) (ds := []) #[false, false, false, false, false] (by kernel_rfl) rfl rfl ⟨bc0 (blk_drew BK5.out), bc1 (blk_drew BK5.out)⟩ (fun hHeld => ?_)
        replace BK5 := ak (blk_drew BK5.out)
        replace HD := ak (Dr.drew HD.out)
        refine pz 0 (some 37) ?_
        refine pz 3 (some 2) ?_
        refine tz 1 (some 38) hHeld ?_
        refine one_ (i := 2) (N := some 39) #[true, true, true, true, false] rfl rfl (by kernel_rfl) (by decide) (fun K hK => ?_)
        refine Kd.R_lit_step k75 _ 75 ?hg (N := 39) ?hd (xs := ([⟨nm, val⟩] : List S75)) (inner := [.string nm, .string val]) (ok := fun _ => True) (okp := fun _ => True) ?hr ?hp (fun _ hk => hk) trivial (Below.refl _ _) (Nat.le_refl _) (by simp) ?_; (case hd => rfl); (case hg => rfl); (case hr => first | (go_simp; done) | (go_simp; rfl)); (case hp => exact reps75 (R := k75.M _ _ _) (fun x => k75_mkM _ _ _ x) [⟨nm, val⟩])
        intro v9 w9 ho hb _ _
        replace BK5 := ak (blk_below BK5.out hb)
        replace HD := ak (HD.out.step hb)
        clear hb
        refine hK.out _ _ ⟨bc0 BK5.out, bc1 BK5.out⟩ (fun hHeld => ?_)
        clear hK K
        refine nr (some 39) ?_
        refine pz 4 (some 3) ?_
        refine done_ (by kernel_rfl) ?_
        try go_wp2
        go_ret2
        exact ⟨_, _, _, rfl, hr8, Kd.R_lower ho HZ.out, by simp, by intro f hf; simp only [List.mem_cons, List.not_mem_nil, or_false, or_self] at hf; subst hf; exact ⟨by dsimp only; omega, by dsimp only; omega⟩, (dr HD.out).more (by omega)⟩
/-- A block holds cells of this type. -/
def Ty (W : World) (b : Nat) (t : TypeId) : Prop := ∃ cs, W.heap[b]? = some (.cells cs t (0, 0))
theorem Ty.any {W : World} {b p i : Nat} {t : TypeId} (h : Ty W b t) (u : Value) : Ty (W.setCell ⟨p, i, none⟩ u) b t := by
  obtain ⟨cs, h⟩ := h
  by_cases e : b = p
  · subst e; exact ⟨_, blk_put h i u rfl⟩
  · exact ⟨cs, blk_far (p := ⟨p, i, none⟩) h e u⟩
theorem Ty.alloc {W : World} {b : Nat} {t : TypeId} (h : Ty W b t) (o : Obj) : Ty (W.alloc o) b t := by
  obtain ⟨cs, h⟩ := h; exact ⟨cs, blk_alloc h o⟩
section
variable {α : Type} {d : Kd α} {e base : Nat} {ok : Nat → Prop} {v : Value} {xs : List α} {W0 W : World} {b1 p2 : Nat} {t1 : TypeId}
theorem rowSet {j : Nat} (hr : d.R e W base ok v xs) (hb : Ty W b1 t1) (ht : ∀ q, q ∈ e :: d.E → q ≠ t1) (u : Value) : d.R e (W.setCell ⟨b1, j, none⟩ u) base ok v xs := by
  obtain ⟨cs, hb⟩ := hb
  exact Kd.R_mono (Kd.R_far (p := ⟨b1, j, none⟩) (Kd.R_types hr hb ht) (fun _ hk => hk.2) u) (fun _ h => h.1)
theorem kz (h0 : d.R e W0 base ok v xs) (g1 : Ty W0 b1 t1) (k1 : ∀ q, q ∈ e :: d.E → q ≠ t1)
    (h : d.R e W0 base ok v xs → Ty W0 b1 t1 → (∀ q, q ∈ e :: d.E → q ≠ t1) → d.R e W base ok v xs := by (intro h_ g1_ k1_; repeat (with_reducible first | exact h_ | exact g1_ | apply Kd.R_alloc | apply Kd.R_drewN | apply Kd.R_drew | refine rowSet ?_ ?_ k1_ _ | apply Ty.any | apply Ty.alloc))) : d.R e W base ok v xs := h h0 g1 k1
theorem kz2 (h0 : d.R e W0 base ok v xs) (g1 : Ty W0 b1 t1) (g2 : Ty W0 p2 t1) (k1 : ∀ q, q ∈ e :: d.E → q ≠ t1)
    (h : d.R e W0 base ok v xs → Ty W0 b1 t1 → Ty W0 p2 t1 → (∀ q, q ∈ e :: d.E → q ≠ t1) → d.R e W base ok v xs := by (intro h_ g1_ g2_ k1_; repeat (with_reducible first | exact h_ | exact g1_ | exact g2_ | apply Kd.R_alloc | apply Kd.R_drewN | apply Kd.R_drew | refine rowSet ?_ ?_ k1_ _ | apply Ty.any | apply Ty.alloc))) : d.R e W base ok v xs := h h0 g1 g2 k1
end
theorem SmF.app {l m : List S75} (h : SmF l) (k : SmF m) : SmF (l ++ m) := fun f hf => (List.mem_append.mp hf).elim (h f) (k f)
/-! ### spec_l1Cur_request: function 52 -/
theorem requestD {w0 w : World} {g n : Nat} {cs : List Int} (h : Dr w0 w w g cs n) (hn : n ≤ 1000000000) :
    Calls Tryz.prog 52 #[.pointer (some ⟨g, 0, none⟩)] w fun e w' => ∃ m t v b l, e = .returned (.agg #[.string m, .string t, v, .string b]) ∧ (m.size ≤ 11 ∧ t.size ≤ 9 ∧ b.size ≤ 5) ∧ Kd.R k75 75 w' w.heap.size (fun _ => True) v l ∧ l.length ≤ 44 ∧ SmF l ∧ Dr w0 w w' g cs (n + 430) := by
  have hu24 := Tryz.underlying24
  have hu75 := Tryz.underlying75
  have HD := ak h
  have HL := ak h.low.size
  clear h
  go_enter Tryz.func52, Tryz.ntmps52
  go_upto_if 24 with (first
    | ((with_reducible refine gd 2 ?_); refine bE 2 #[.string (⟨#[]⟩ : ByteArray), .string (⟨#[]⟩ : ByteArray), .slice none 0 0, .string (⟨#[]⟩ : ByteArray)] 24 ?_; intro p2 hg w1 hbox hb; have FA2 := ak ((dr HD.out).new hg); have BK2 := ak hbox; replace HD := ak ((dr HD.out).step hb); clear hb hbox hg)
    | ((with_reducible refine gc 82 ?_); refine gL 82 Tryz.func82 (some 8) #[.pointer (some ⟨g, 0, none⟩)] ?_; refine (bodyD (dr HD.out).here (by omega)).mono ?_; rintro e w2 ⟨bo, v1, l1, rfl, hbo, ho1, hl1, hs1, hk⟩; obtain ⟨A1, c1, rfl⟩ := Kd.R_slice ho1; refine ⟨_, rfl, ?_⟩; replace BK2 := ak (hk.blk (bq BK2.out) FA2.out.n); have HO1 := ak (Kd.R_lower ho1 (keep_size (dr HD.out).keep)); replace HD := ak ((dr HD.out).join hk); clear hk ho1)
    | ((with_reducible refine gd 12 ?_); refine ofL 12 13 [⟨#[71, 69, 84]⟩, ⟨#[72, 69, 65, 68]⟩, ⟨#[80, 85, 84]⟩, ⟨#[68, 69, 76, 69, 84, 69]⟩] 6 (dr HD.out) (by omega) ?_; intro A12 c12 r13 w3 hr13 hk; replace HO1 := ak (Dr.row (dr HD.out) hk (kr HO1.out) (by decide)); replace BK2 := ak (hk.blk (bq BK2.out) FA2.out.n); replace HD := ak ((dr HD.out).join hk); clear hk)
    | ((with_reducible refine gd 15 ?_); refine ofL 15 16 [⟨#[47]⟩, ⟨#[47, 97, 63, 98]⟩, ⟨#[42]⟩, ⟨#[104, 116, 116, 112, 58, 47, 47, 104, 47]⟩] 9 (dr HD.out) (by omega) ?_; intro A15 c15 r16 w4 hr16 hk; replace HO1 := ak (Dr.row (dr HD.out) hk (kr HO1.out) (by decide)); replace BK2 := ak (hk.blk (bq BK2.out) FA2.out.n); replace HD := ak ((dr HD.out).join hk); clear hk)
    | ((with_reducible refine gc 84 ?_); refine gL 84 Tryz.func84 (some 18) #[.pointer (some ⟨g, 0, none⟩)] ?_; refine (fieldsD (dr HD.out).here (by omega)).mono ?_; rintro e w5 ⟨v2, l2, rfl, ho2, hl2, hs2, hk⟩; refine ⟨_, rfl, ?_⟩; replace HO1 := ak (Dr.row (dr HD.out) hk (kr HO1.out) (by decide)); replace BK2 := ak (hk.blk (bq BK2.out) FA2.out.n); have HO2 := ak (Kd.R_lower ho2 (keep_size (dr HD.out).keep)); replace HD := ak ((dr HD.out).join hk); clear hk ho2)
    | ((with_reducible refine gate_builtin (b := .append) (xs := #[.tmp 18, .tmp 19]) rfl ?_); at_builtin; refine Kd.R_append_rows k75 w.heap.size rfl (.tmp 18) (.tmp 19) 22 75 (.agg #[(.string ⟨#[]⟩), (.string ⟨#[]⟩)]) 32 rfl Tryz.underlying22 info75 rfl (by decide) (by omega) v2 l2 l1 _ _ _ (fun _ => True) (fun _ => False) rfl rfl ?aO ?aR (fun _ _ h => h) (fun _ h => h.elim) (fun _ _ => trivial) (Below.refl _ _) ?aS ?aL ?_; (case aR => exact kc (Kd.R_reads' HO1.out).2.2); (case aO => exact kr HO2.out); (case aS => exact keep_size (dr HD.out).keep); (case aL => omega); intro v3 w6 ho hb hg hat; clear hat; have HS := ak (show (l2 ++ l1).length ≤ 43 ∧ SmF (l2 ++ l1) from ⟨by simp only [List.length_append]; omega, hs2.app hs1⟩); generalize l2 ++ l1 = l at ho HS; obtain ⟨A3, c3, rfl⟩ := Kd.R_slice ho; replace BK2 := ak (blk_grown (bk BK2.out) hg (Kd.R_ne HO2.out BK2.out (by decide))); replace HD := ak ((dr HD.out).grown HL.out hb hg ((dr HD.out).own_ne HO2.out (by decide)) (Kd.R_base2 HO2.out)); have HO := ak ho; clear HO1 HO2 ho hb hg)
    | ((with_reducible refine gd 5 ?_); refine bE 5 #[.string (⟨#[]⟩ : ByteArray), .string (⟨#[]⟩ : ByteArray), .slice none 0 0, .string (⟨#[]⟩ : ByteArray)] 24 ?_; intro p5 hg w7 hbox hb; have FA5 := ak ((dr HD.out).new hg); have NB52 := ng hg BK2.out; have NB25 := nl hg BK2.out; have BK5 := ak hbox; replace BK2 := ak (blk_below (bq BK2.out) hb); replace HO := ak (Kd.R_below (kr HO.out) hb); replace HD := ak ((dr HD.out).step hb); clear hb hbox hg; obtain ⟨hcz0, hcz1, hcz2, hcz3, hfz0, hfz1, hfz2, hfz3⟩ := b4 BK5.out)
    | ((with_reducible refine gc 85 ?_); refine gL 85 Tryz.func85 (some 24) #[.pointer (some ⟨g, 0, none⟩), .int .i64 3] ?_; refine (oneD 3 (dr HD.out).here (by omega)).mono ?_; rintro e w8 ⟨r24, rfl, hk⟩; refine ⟨_, rfl, ?_⟩; replace HO := ak (Dr.row (dr HD.out) hk (kz HO.out ⟨_, BK5.out⟩ (by decide)) (by decide)); replace BK2 := ak (hk.blk (bq BK2.out) FA2.out.n); replace BK5 := ak (hk.blk (bq BK5.out) FA5.out.n); replace HD := ak ((dr HD.out).join hk); clear hk; obtain ⟨hcz0, hcz1, hcz2, hcz3, hfz0, hfz1, hfz2, hfz3⟩ := b4 BK5.out))
  (try simp only [Act.put, List.setIfInBounds_toArray, List.set_cons_zero, List.set_cons_succ])
  go_cut [] (fun wc => ∃ (A c : _) (l : List S75), Aside0 (l.length ≤ 44 ∧ SmF l) ∧ Aside0 (Kd.R k75 75 wc w.heap.size (fun _ => True) (.slice A l.length c) l) ∧ Aside0 (wc.heap[p2]? = some (.cells #[.string (⟨#[]⟩ : ByteArray), .string (⟨#[]⟩ : ByteArray), .slice none 0 0, .string (⟨#[]⟩ : ByteArray)] 24 (0, 0))) ∧ Aside0 (wc.heap[p5]? = some (.cells #[.string r13, .string r16, .slice A l.length c, .string bo] 24 (0, 0))) ∧ Aside0 (Dr w0 w wc g cs (n + 420)))
  case first =>
    cases r24 with
    | true =>
      have hnb := NB52.out
      have hnc := NB25.out
      go_wp2_with (first
        | ((with_reducible refine gate_builtin (b := .append) (xs := #[.tmp 26, .tmp 28]) rfl ?_); at_builtin; refine Kd.R_append k75 w.heap.size rfl (.tmp 26) (.tmp 28) 22 75 (.agg #[(.string ⟨#[]⟩), (.string ⟨#[]⟩)]) 32 rfl Tryz.underlying22 info75 rfl (by decide) (by omega) (.slice A3 l.length c3) l (⟨(⟨#[72, 111, 115, 116]⟩ : ByteArray), (⟨#[101, 120, 46, 99, 111, 109]⟩ : ByteArray)⟩ : S75) [.string (⟨#[72, 111, 115, 116]⟩ : ByteArray), .string (⟨#[101, 120, 46, 99, 111, 109]⟩ : ByteArray)] (fun _ => True) (fun _ => False) rfl rfl ?aP (fun _ hk => hk.elim) (fun _ _ => trivial) ?aO (Below.refl _ _) ?aS ?aL ?_; (case aP => exact k75_mkM _ _ _ (⟨(⟨#[72, 111, 115, 116]⟩ : ByteArray), (⟨#[101, 120, 46, 99, 111, 109]⟩ : ByteArray)⟩ : S75)); (case aO => exact kr HO.out); (case aS => exact keep_size (dr HD.out).keep); (case aL => have := HS.out; omega); intro v4 w9 ho hb hg hat; clear hat; have HS2 := ak (show (l ++ [(⟨⟨#[72, 111, 115, 116]⟩, ⟨#[101, 120, 46, 99, 111, 109]⟩⟩ : S75)]).length ≤ 44 ∧ SmF (l ++ [(⟨⟨#[72, 111, 115, 116]⟩, ⟨#[101, 120, 46, 99, 111, 109]⟩⟩ : S75)]) from ⟨by have := HS.out; rw [List.length_append]; exact Nat.succ_le_succ this.1, HS.out.2.app (fun f hf => by cases List.mem_singleton.mp hf; decide)⟩); generalize l ++ [(⟨⟨#[72, 111, 115, 116]⟩, ⟨#[101, 120, 46, 99, 111, 109]⟩⟩ : S75)] = l4 at ho HS2; obtain ⟨A4, c4, rfl⟩ := Kd.R_slice ho; replace BK2 := ak (blk_grown (bk BK2.out) hg (Kd.R_ne HO.out BK2.out (by decide))); replace BK5 := ak (blk_grown (bk BK5.out) hg (Kd.R_ne HO.out BK5.out (by decide))); replace HD := ak ((dr HD.out).grown HL.out hb hg ((dr HD.out).own_ne HO.out (by decide)) (Kd.R_base2 HO.out)); replace HO := ak ho; clear ho hb hg; obtain ⟨hcz0, hcz1, hcz2, hcz3, hfz0, hfz1, hfz2, hfz3⟩ := b4 BK5.out))
      go_meet
      case rel => exact ⟨A4, c4, l4, HS2, ⟨kz HO.out ⟨_, BK5.out⟩ (by decide)⟩, ⟨bq BK2.out⟩, ⟨bq BK5.out⟩, ⟨(dr HD.out).more (by omega)⟩⟩
    | false =>
      go_wp2
      go_meet
      case rel => exact ⟨A3, c3, l, ⟨by have := HS.out; exact ⟨by omega, this.2⟩⟩, ⟨kr HO.out⟩, ⟨bq BK2.out⟩, ⟨bq BK5.out⟩, ⟨(dr HD.out).more (by omega)⟩⟩
  case rest =>
    obtain ⟨A6, c6, l6, HS6, HO, BK2, BK5, HD⟩ := hcut
    have hnb := NB52.out
    have hnc := NB25.out
    go_upto_block 0 with (first
      | ((with_reducible refine gc 86 ?_); refine gL 86 Tryz.func86 (some 32) #[.pointer (some ⟨g, 0, none⟩), .int .i64 40] ?_; refine (pickD 40 (dr HD.out).here (by omega)).mono ?_; rintro e w10 ⟨r32, rfl, hp0, hp1, hk⟩; refine ⟨_, rfl, ?_⟩; replace HO := ak (Dr.row (dr HD.out) hk (kr HO.out) (by decide)); replace BK2 := ak (hk.blk (bq BK2.out) FA2.out.n); replace BK5 := ak (hk.blk (bq BK5.out) FA5.out.n); replace HD := ak ((dr HD.out).join hk); clear hk; obtain ⟨hcz0, hcz1, hcz2, hcz3, hfz0, hfz1, hfz2, hfz3⟩ := b4 BK5.out; obtain ⟨hdz0, hdz1, hdz2, hdz3, hez0, hez1, hez2, hez3⟩ := b4 BK2.out))
    by_cases c0 : r32 = 0
    · have c0b : (r32 == 0) = true := beq_iff_eq.mpr c0
      clear c0
      go_wp2_with (first
        | ((with_reducible refine gd 36 ?_); refine ofL 36 37 [⟨#[]⟩, ⟨#[97, 32, 98]⟩] 3 (dr HD.out) (by omega) ?_; intro A36 c36 r37 w11 hr37 hk; replace HO := ak (Dr.row (dr HD.out) hk (kr HO.out) (by decide)); replace BK2 := ak (hk.blk (bq BK2.out) FA2.out.n); replace BK5 := ak (hk.blk (bq BK5.out) FA5.out.n); replace HD := ak ((dr HD.out).join hk); clear hk; obtain ⟨hcz0, hcz1, hcz2, hcz3, hfz0, hfz1, hfz2, hfz3⟩ := b4 BK5.out; obtain ⟨hdz0, hdz1, hdz2, hdz3, hez0, hez1, hez2, hez3⟩ := b4 BK2.out))
      refine bodyPost_ret (results_cell_row rfl _ _ p2 24 #[.string _, .string _, .slice _ _ _, .string _] (0, 0) _ rfl (bq BK2.out) Tryz.underlying24 rfl (by kernel_rfl)) rfl ?_
      exact ⟨_, _, _, _, l6, rfl, ⟨by omega, by omega, by omega⟩, kz2 HO.out ⟨_, BK5.out⟩ ⟨_, BK2.out⟩ (by decide), HS6.out.1, HS6.out.2, (dr HD.out).more (by omega)⟩
    · have c0b : (r32 == 0) = false := beq_eq_false_iff_ne.mpr c0
      by_cases c1 : r32 = 1
      · have c1b : (r32 == 1) = true := beq_iff_eq.mpr c1
        clear c0 c1
        go_wp2_with (first
          | ((with_reducible refine gd 42 ?_); refine ofL 42 43 [⟨#[]⟩, ⟨#[76, 79, 78, 71, 77, 69, 84, 72, 79, 68, 83]⟩] 11 (dr HD.out) (by omega) ?_; intro A42 c42 r43 w11 hr43 hk; replace HO := ak (Dr.row (dr HD.out) hk (kr HO.out) (by decide)); replace BK2 := ak (hk.blk (bq BK2.out) FA2.out.n); replace BK5 := ak (hk.blk (bq BK5.out) FA5.out.n); replace HD := ak ((dr HD.out).join hk); clear hk; obtain ⟨hcz0, hcz1, hcz2, hcz3, hfz0, hfz1, hfz2, hfz3⟩ := b4 BK5.out; obtain ⟨hdz0, hdz1, hdz2, hdz3, hez0, hez1, hez2, hez3⟩ := b4 BK2.out))
        refine bodyPost_ret (results_cell_row rfl _ _ p2 24 #[.string _, .string _, .slice _ _ _, .string _] (0, 0) _ rfl (bq BK2.out) Tryz.underlying24 rfl (by kernel_rfl)) rfl ?_
        exact ⟨_, _, _, _, l6, rfl, ⟨by omega, by omega, by omega⟩, kz2 HO.out ⟨_, BK5.out⟩ ⟨_, BK2.out⟩ (by decide), HS6.out.1, HS6.out.2, (dr HD.out).more (by omega)⟩
      · have c1b : (r32 == 1) = false := beq_eq_false_iff_ne.mpr c1
        clear c0 c1
        go_wp2
        refine bodyPost_ret (results_cell_row rfl _ _ p2 24 #[.string _, .string _, .slice _ _ _, .string _] (0, 0) _ rfl (bq BK2.out) Tryz.underlying24 rfl (by kernel_rfl)) rfl ?_
        exact ⟨_, _, _, _, l6, rfl, ⟨by omega, by omega, by omega⟩, kz2 HO.out ⟨_, BK5.out⟩ ⟨_, BK2.out⟩ (by decide), HS6.out.1, HS6.out.2, (dr HD.out).more (by omega)⟩
/-! ### spec_l1Cur_response: function 55 -/
theorem responseD {w0 w : World} {g n : Nat} {cs : List Int} (h : Dr w0 w w g cs n) (hn : n ≤ 1000000000) :
    Calls Tryz.prog 55 #[.pointer (some ⟨g, 0, none⟩)] w fun e w' => ∃ m t v b l, e = .returned (.agg #[.int .i64 m, .string t, v, .string b]) ∧ ((0 ≤ m ∧ m ≤ 600) ∧ t.size ≤ 9 ∧ b.size ≤ 5) ∧ Kd.R k75 75 w' w.heap.size (fun _ => True) v l ∧ l.length ≤ 44 ∧ SmF l ∧ Dr w0 w w' g cs (n + 430) := by
  have hu31 := Tryz.underlying31
  have hu75 := Tryz.underlying75
  have HD := ak h
  have HL := ak h.low.size
  clear h
  go_enter Tryz.func55, Tryz.ntmps55
  go_upto_if 24 with (first
    | ((with_reducible refine gd 2 ?_); refine bE 2 #[.int .i64 0, .string (⟨#[]⟩ : ByteArray), .slice none 0 0, .string (⟨#[]⟩ : ByteArray)] 31 ?_; intro p2 hg w1 hbox hb; have FA2 := ak ((dr HD.out).new hg); have BK2 := ak hbox; replace HD := ak ((dr HD.out).step hb); clear hb hbox hg)
    | ((with_reducible refine gc 82 ?_); refine gL 82 Tryz.func82 (some 8) #[.pointer (some ⟨g, 0, none⟩)] ?_; refine (bodyD (dr HD.out).here (by omega)).mono ?_; rintro e w2 ⟨bo, v1, l1, rfl, hbo, ho1, hl1, hs1, hk⟩; obtain ⟨A1, c1, rfl⟩ := Kd.R_slice ho1; refine ⟨_, rfl, ?_⟩; replace BK2 := ak (hk.blk (bq BK2.out) FA2.out.n); have HO1 := ak (Kd.R_lower ho1 (keep_size (dr HD.out).keep)); replace HD := ak ((dr HD.out).join hk); clear hk ho1)
    | ((with_reducible refine gd 12 ?_); refine amongL 12 13 [200, 304, 404, 500, 206] 600 (dr HD.out) (by omega) ?_; intro A12 c12 r13 w3 hr13 hk; replace HO1 := ak (Dr.row (dr HD.out) hk (kr HO1.out) (by decide)); replace BK2 := ak (hk.blk (bq BK2.out) FA2.out.n); replace HD := ak ((dr HD.out).join hk); clear hk)
    | ((with_reducible refine gd 15 ?_); refine ofL 15 16 [⟨#[79, 75]⟩, ⟨#[]⟩, ⟨#[78, 111, 116, 32, 70, 111, 117, 110, 100]⟩] 9 (dr HD.out) (by omega) ?_; intro A15 c15 r16 w4 hr16 hk; replace HO1 := ak (Dr.row (dr HD.out) hk (kr HO1.out) (by decide)); replace BK2 := ak (hk.blk (bq BK2.out) FA2.out.n); replace HD := ak ((dr HD.out).join hk); clear hk)
    | ((with_reducible refine gc 84 ?_); refine gL 84 Tryz.func84 (some 18) #[.pointer (some ⟨g, 0, none⟩)] ?_; refine (fieldsD (dr HD.out).here (by omega)).mono ?_; rintro e w5 ⟨v2, l2, rfl, ho2, hl2, hs2, hk⟩; refine ⟨_, rfl, ?_⟩; replace HO1 := ak (Dr.row (dr HD.out) hk (kr HO1.out) (by decide)); replace BK2 := ak (hk.blk (bq BK2.out) FA2.out.n); have HO2 := ak (Kd.R_lower ho2 (keep_size (dr HD.out).keep)); replace HD := ak ((dr HD.out).join hk); clear hk ho2)
    | ((with_reducible refine gate_builtin (b := .append) (xs := #[.tmp 18, .tmp 19]) rfl ?_); at_builtin; refine Kd.R_append_rows k75 w.heap.size rfl (.tmp 18) (.tmp 19) 22 75 (.agg #[(.string ⟨#[]⟩), (.string ⟨#[]⟩)]) 32 rfl Tryz.underlying22 info75 rfl (by decide) (by omega) v2 l2 l1 _ _ _ (fun _ => True) (fun _ => False) rfl rfl ?aO ?aR (fun _ _ h => h) (fun _ h => h.elim) (fun _ _ => trivial) (Below.refl _ _) ?aS ?aL ?_; (case aR => exact kc (Kd.R_reads' HO1.out).2.2); (case aO => exact kr HO2.out); (case aS => exact keep_size (dr HD.out).keep); (case aL => omega); intro v3 w6 ho hb hg hat; clear hat; have HS := ak (show (l2 ++ l1).length ≤ 43 ∧ SmF (l2 ++ l1) from ⟨by simp only [List.length_append]; omega, hs2.app hs1⟩); generalize l2 ++ l1 = l at ho HS; obtain ⟨A3, c3, rfl⟩ := Kd.R_slice ho; replace BK2 := ak (blk_grown (bk BK2.out) hg (Kd.R_ne HO2.out BK2.out (by decide))); replace HD := ak ((dr HD.out).grown HL.out hb hg ((dr HD.out).own_ne HO2.out (by decide)) (Kd.R_base2 HO2.out)); have HO := ak ho; clear HO1 HO2 ho hb hg)
    | ((with_reducible refine gd 5 ?_); refine bE 5 #[.int .i64 0, .string (⟨#[]⟩ : ByteArray), .slice none 0 0, .string (⟨#[]⟩ : ByteArray)] 31 ?_; intro p5 hg w7 hbox hb; have FA5 := ak ((dr HD.out).new hg); have NB52 := ng hg BK2.out; have NB25 := nl hg BK2.out; have BK5 := ak hbox; replace BK2 := ak (blk_below (bq BK2.out) hb); replace HO := ak (Kd.R_below (kr HO.out) hb); replace HD := ak ((dr HD.out).step hb); clear hb hbox hg; obtain ⟨hcz0, hcz1, hcz2, hcz3, hfz0, hfz1, hfz2, hfz3⟩ := b4 BK5.out)
    | ((with_reducible refine gc 85 ?_); refine gL 85 Tryz.func85 (some 24) #[.pointer (some ⟨g, 0, none⟩), .int .i64 30] ?_; refine (oneD 30 (dr HD.out).here (by omega)).mono ?_; rintro e w8 ⟨r24, rfl, hk⟩; refine ⟨_, rfl, ?_⟩; replace HO := ak (Dr.row (dr HD.out) hk (kz HO.out ⟨_, BK5.out⟩ (by decide)) (by decide)); replace BK2 := ak (hk.blk (bq BK2.out) FA2.out.n); replace BK5 := ak (hk.blk (bq BK5.out) FA5.out.n); replace HD := ak ((dr HD.out).join hk); clear hk; obtain ⟨hcz0, hcz1, hcz2, hcz3, hfz0, hfz1, hfz2, hfz3⟩ := b4 BK5.out; obtain ⟨hdz0, hdz1, hdz2, hdz3, hez0, hez1, hez2, hez3⟩ := b4 BK2.out))
  have hnb := NB52.out
  have hnc := NB25.out
  cases r24 with
  | true =>
    go_wp2_with (first
      | ((with_reducible refine gd 26 ?_); refine amongL 26 27 [99, 100, 599, 600] 600 (dr HD.out) (by omega) ?_; intro A26 c26 r27 w11 hr27 hk; replace HO := ak (Dr.row (dr HD.out) hk (kr HO.out) (by decide)); replace BK2 := ak (hk.blk (bq BK2.out) FA2.out.n); replace BK5 := ak (hk.blk (bq BK5.out) FA5.out.n); replace HD := ak ((dr HD.out).join hk); clear hk; obtain ⟨hcz0, hcz1, hcz2, hcz3, hfz0, hfz1, hfz2, hfz3⟩ := b4 BK5.out; obtain ⟨hdz0, hdz1, hdz2, hdz3, hez0, hez1, hez2, hez3⟩ := b4 BK2.out))
    refine bodyPost_ret (results_cell_row rfl _ _ p2 31 #[.int .i64 _, .string _, .slice _ _ _, .string _] (0, 0) _ rfl (bq BK2.out) Tryz.underlying31 rfl (by kernel_rfl)) rfl ?_
    exact ⟨_, _, _, _, l, rfl, ⟨hr27, by omega, by omega⟩, kz2 HO.out ⟨_, BK5.out⟩ ⟨_, BK2.out⟩ (by decide), by have := HS.out; omega, HS.out.2, (dr HD.out).more (by omega)⟩
  | false =>
    go_wp2
    refine bodyPost_ret (results_cell_row rfl _ _ p2 31 #[.int .i64 _, .string _, .slice _ _ _, .string _] (0, 0) _ rfl (bq BK2.out) Tryz.underlying31 rfl (by kernel_rfl)) rfl ?_
    exact ⟨_, _, _, _, l, rfl, ⟨hr13, by omega, by omega⟩, kz2 HO.out ⟨_, BK5.out⟩ ⟨_, BK2.out⟩ (by decide), by have := HS.out; omega, HS.out.2, (dr HD.out).more (by omega)⟩
/-! ### spec_l1Cur_spoilt: function 87 -/
theorem spoiltD {w0 w : World} {g n : Nat} {cs : List Int} (a1 a2 : ByteArray) (h : Dr w0 w w g cs n) (ha : a1.size ≤ 100000) (ha2 : 0 < a2.size ∧ a2.size ≤ 100) (hn : n ≤ 1000000000) :
    Calls Tryz.prog 87 #[.pointer (some ⟨g, 0, none⟩), .string a1, .string a2] w fun e w' => ∃ r, e = .returned (.string r) ∧ r.size ≤ a1.size + 2 ∧ Dr w0 w w' g cs (n + 14) := by
  have HD := ak h
  clear h
  go_enter Tryz.func87, Tryz.ntmps87
  go_wp2_with (first | (go_at_call 86; refine (pickD 3 (dr HD.out).here (by omega)).mono ?_; rintro e w1 ⟨r11, rfl, hq0, hq1, hk⟩; replace HD := ak ((dr HD.out).join hk); clear hk))
  go_loopg [1, 7] 2 (fun kq v1 v7 w' => ∃ (x1 : ByteArray) (x7 : Int), v1 = .string x1 ∧ v7 = .int .i64 x7 ∧ Aside0 (kq ≤ 2 ∧ 0 ≤ x7 ∧ x7 ≤ (kq : Int) ∧ (x1.size : Int) + x7 ≤ a1.size + 2) ∧ Aside0 (Dr w0 w w' g cs (n + 14 - 6 * kq)))
  case atStart => exact ⟨a1, r11, rfl, rfl, ⟨by omega⟩, ⟨(dr HD.out).more (by omega)⟩⟩
  case round =>
    obtain ⟨x1, x7, rfl, rfl, HY, HD⟩ := hrel
    go_upto_region 2 with (fail)
    repeat (go_quiet (fail); go_upto_region 2 with (fail))
    go_cut [18] (fun v18 wc => ∃ x18 : Bool, v18 = .bool x18 ∧ Aside0 (x18 = true → 0 < x7 ∧ 0 < x1.size) ∧ Aside0 (Dr w0 w wc g cs (n + 14 - 6 * gk)))
    case first =>
      by_cases c7 : x7 > 0
      · have c7b0 : decide (0 < x7) = true := decide_eq_true c7
        (first | rw [c7b0] | (simp only [i64_w, i32_w]; rw [c7b0]) | skip)
        have c7' := ak c7
        clear c7
        go_wp2
        repeat (go_quiet (fail); try go_wp2)
        go_meet
        case rel => exact ⟨(decide ((x1.size : Int) > 0)), by first | rfl | (simp; done) | (simp [*]; done), ⟨fun h_ => ⟨c7'.out, by have := of_decide_eq_true h_; omega⟩⟩, ⟨dr HD.out⟩⟩
      · have c7b0 : decide (0 < x7) = false := decide_eq_false c7
        (first | rw [c7b0] | (simp only [i64_w, i32_w]; rw [c7b0]) | skip)
        clear c7
        go_wp2
        repeat (go_quiet (fail); try go_wp2)
        go_meet
        case rel => exact ⟨false, by first | rfl | (simp; done) | (simp [*]; done), ⟨fun h_ => absurd h_ (by decide)⟩, ⟨dr HD.out⟩⟩
    case rest =>
      obtain ⟨x18, rfl, HX, HD⟩ := hcut
      cases x18 with
      | false =>
        go_wp2
        go_ret
        exact ⟨_, rfl, by have := HY.out; omega, (dr HD.out).more (by omega)⟩
      | true =>
        have HP := ak (HX.out rfl)
        clear HX
        go_upto_block 2 with (first
          | ((with_reducible refine gd 24 ?_); refine gL 86 Tryz.func86 (some 24) #[.pointer (some ⟨g, 0, none⟩), .int .i64 (x1.size : Int)] ?_; refine (pickD (x1.size : Int) (dr HD.out).here (by omega)).mono ?_; rintro e w3 ⟨r24, rfl, hi0, hi1, hk⟩; refine ⟨_, rfl, ?_⟩; replace HD := ak ((dr HD.out).join hk); clear hk)
          | ((with_reducible refine gd 29 ?_); refine gL 86 Tryz.func86 (some 29) #[.pointer (some ⟨g, 0, none⟩), .int .i64 (a2.size : Int)] ?_; refine (pickD (a2.size : Int) (dr HD.out).here (by omega)).mono ?_; rintro e w4 ⟨r29, rfl, hj0, hj1, hk⟩; refine ⟨_, rfl, ?_⟩; replace HD := ak ((dr HD.out).join hk); clear hk; have hx29 := bt_at a2 r29; have p29 := eq_true (show 0 ≤ r29 from hj0); have q29 := eq_true (show r29 < (a2.size : Int) by omega))
          | ((with_reducible refine gate_dst (N := 31) rfl ?_); (try (refine gate_guard (by rfl) ?_; dsimp only)); refine Kd.R_lit (Kd.int .u8) _ 5 ?hg (N := 31) ?hd (xs := ([bt a2 r29] : List Int)) (inner := [.int .u8 (bt a2 r29)]) (ok := fun _ => True) (okp := fun _ => True) ?hr ?hp (fun _ hk => hk) trivial (Below.refl _ _) (Nat.le_refl _) (by simp) ?_; (case hd => rfl); (case hg => rfl); (case hr => first | (go_simp; done) | (go_simp; rfl)); (case hp => exact (Reps.one (show Kd.M (Kd.int .u8) _ _ _ (bt a2 r29) [.int .u8 (bt a2 r29)] from rfl) (Reps.none _ _))); intro v31 w5 ho hb _ _; have hs := ak (show (strOfNums [bt a2 r29]).size = 1 by rfl); generalize ([bt a2 r29] : List Int) = ys at ho hs; have HO := ak ho; replace HD := ak ((dr HD.out).step hb); clear hb ho; have hcv := own_string (P := Tryz.prog) Tryz.underlying36 Tryz.underlying5 Tryz.underlying9 (Kd.own_of_R HO.out))
          | ((with_reducible refine gd 34 ?_); refine gL 86 Tryz.func86 (some 34) #[.pointer (some ⟨g, 0, none⟩), .int .i64 3] ?_; refine (pickD 3 (dr HD.out).here (by omega)).mono ?_; rintro e w6 ⟨r34, rfl, hl0, hl1, hk⟩; refine ⟨_, rfl, ?_⟩; replace HD := ak ((dr HD.out).join hk); clear hk HO))
        have hi2 := ak (show 0 ≤ r24 ∧ r24 < (x1.size : Int) by have := HP.out; omega)
        have hz := ak (show x1.size ≤ 100002 by have := HY.out; omega)
        clear hi0 hi1
        obtain ⟨j, hj⟩ : ∃ j_ : Int, (wrap64 (r24 + 1)) = j_ := ⟨_, rfl⟩
        have hjv := ak (show j = r24 + 1 by have := hi2.out; have := hz.out; rw [← hj]; unfold wrap64; omega)
        have hjw : (IntKind.i64.wrap (r24 + 1)) = j := (i64_w _).trans hj
        have fa0 := eq_true hi2.out.1
        have fa1 : decide (0 ≤ r24) = true := decide_eq_true hi2.out.1
        have fa2 := eq_true (show r24 ≤ (x1.size : Int) by have := hi2.out; omega)
        have fa3 : decide (r24 ≤ (x1.size : Int)) = true := decide_eq_true (by have := hi2.out; omega)
        have fb0 := eq_true (show 0 ≤ j by have := hi2.out; have := hjv.out; omega)
        have fb1 : decide (0 ≤ j) = true := decide_eq_true (by have := hi2.out; have := hjv.out; omega)
        have fb2 := eq_true (show j ≤ (x1.size : Int) by have := hi2.out; have := hjv.out; omega)
        have fb3 : decide (j ≤ (x1.size : Int)) = true := decide_eq_true (by have := hi2.out; have := hjv.out; omega)
        have S0 := ak (show (x1.extract 0 (r24 : Int).toNat).size + (x1.extract (r24 : Int).toNat x1.size).size = x1.size by have := hi2.out; rw [ByteArray.size_extract, ByteArray.size_extract]; omega)
        have S1 := ak (show (x1.extract 0 (r24 : Int).toNat).size + (x1.extract (j : Int).toNat x1.size).size + 1 = x1.size by have := hi2.out; have := hjv.out; rw [ByteArray.size_extract, ByteArray.size_extract]; omega)
        have S2 := hz
        by_cases c0 : r34 = 0
        · have c0b : (r34 == 0) = true := beq_iff_eq.mpr c0
          clear c0
          have v0 : (9223372036854775807 < (r24 : Int).toNat + (strOfNums ys).size) = False := eq_false (Nat.not_lt.2 (by have := hi2.out; have := hz.out; have := hs.out; have := hjv.out; omega))
          have v1 : (9223372036854775807 < (r24 : Int).toNat + (strOfNums ys).size + (x1.size - (r24 : Int).toNat)) = False := eq_false (Nat.not_lt.2 (by have := hi2.out; have := hz.out; have := hs.out; have := hjv.out; omega))
          go_wp2
          repeat (go_quiet (fail); try go_wp2)
          go_roundg (gk - 1)
          case measure => have := HY.out; have := HP.out; omega
          case rel => exact ⟨((x1.extract 0 (r24 : Int).toNat) ++ (strOfNums ys)) ++ (x1.extract (r24 : Int).toNat x1.size), (wrap64 (x7 - 1)), (by first | rfl | (simp; done) | (simp only [← hj] <;> (first | rfl | simp)) | (simp [*]; done)), (by first | rfl | (simp; done) | (simp [*]; done)), ⟨by have := HY.out; have := HP.out; have := S0.out; have := S1.out; have := hs.out; (try simp only [ByteArray.size_append]); unfold wrap64; omega⟩, ⟨(dr HD.out).more (by have := HY.out; have := HP.out; omega)⟩⟩
        · have c0b : (r34 == 0) = false := beq_eq_false_iff_ne.mpr c0
          by_cases c1 : r34 = 1
          · have c1b : (r34 == 1) = true := beq_iff_eq.mpr c1
            clear c0 c1
            have v0 : (9223372036854775807 < (r24 : Int).toNat + (strOfNums ys).size) = False := eq_false (Nat.not_lt.2 (by have := hi2.out; have := hz.out; have := hs.out; have := hjv.out; omega))
            have v1 : (9223372036854775807 < (r24 : Int).toNat + (strOfNums ys).size + (x1.size - (j : Int).toNat)) = False := eq_false (Nat.not_lt.2 (by have := hi2.out; have := hz.out; have := hs.out; have := hjv.out; omega))
            go_wp2
            repeat (go_quiet (fail); try go_wp2)
            go_roundg (gk - 1)
            case measure => have := HY.out; have := HP.out; omega
            case rel => exact ⟨((x1.extract 0 (r24 : Int).toNat) ++ (strOfNums ys)) ++ (x1.extract (j : Int).toNat x1.size), (wrap64 (x7 - 1)), (by first | rfl | (simp; done) | (simp only [← hj] <;> (first | rfl | simp)) | (simp [*]; done)), (by first | rfl | (simp; done) | (simp [*]; done)), ⟨by have := HY.out; have := HP.out; have := S0.out; have := S1.out; have := hs.out; (try simp only [ByteArray.size_append]); unfold wrap64; omega⟩, ⟨(dr HD.out).more (by have := HY.out; have := HP.out; omega)⟩⟩
          · have c1b : (r34 == 1) = false := beq_eq_false_iff_ne.mpr c1
            clear c0 c1
            have v0 : (9223372036854775807 < (r24 : Int).toNat + (x1.size - (j : Int).toNat)) = False := eq_false (Nat.not_lt.2 (by have := hi2.out; have := hz.out; have := hs.out; have := hjv.out; omega))
            go_wp2
            repeat (go_quiet (fail); try go_wp2)
            go_roundg (gk - 1)
            case measure => have := HY.out; have := HP.out; omega
            case rel => exact ⟨(x1.extract 0 (r24 : Int).toNat) ++ (x1.extract (j : Int).toNat x1.size), (wrap64 (x7 - 1)), (by first | rfl | (simp; done) | (simp only [← hj] <;> (first | rfl | simp)) | (simp [*]; done)), (by first | rfl | (simp; done) | (simp [*]; done)), ⟨by have := HY.out; have := HP.out; have := S0.out; have := S1.out; have := hs.out; (try simp only [ByteArray.size_append]); unfold wrap64; omega⟩, ⟨(dr HD.out).more (by have := HY.out; have := HP.out; omega)⟩⟩
/-! ### spec_l1Cur_cutBytes: function 53 -/
theorem cutD {w0 w : World} {g n : Nat} {cs : List Int} (a1 : ByteArray) (h : Dr w0 w w g cs n) (ha : a1.size ≤ 90000) (hn : n ≤ 900000000) :
    Calls Tryz.prog 53 #[.pointer (some ⟨g, 0, none⟩), .string a1] w fun e w' => ∃ r, e = .returned (.string r) ∧ r.size ≤ a1.size + 20 ∧ Dr w0 w w' g cs (n + 20) := by
  have HD := ak h
  clear h
  go_enter Tryz.func53, Tryz.ntmps53
  go_upto_block 0 with (first
    | ((with_reducible refine gd 6 ?_); refine gL 86 Tryz.func86 (some 6) #[.pointer (some ⟨g, 0, none⟩), .int .i64 4] ?_; refine (pickD 4 (dr HD.out).here (by omega)).mono ?_; rintro e w1 ⟨r6, rfl, hq0, hq1, hk⟩; refine ⟨_, rfl, ?_⟩; replace HD := ak ((dr HD.out).join hk); clear hk))
  by_cases c0 : r6 = 0
  · have c0b : (r6 == 0) = true := beq_iff_eq.mpr c0
    clear c0
    obtain ⟨q, hq⟩ : ∃ j_ : Int, (wrap64 ((a1.size : Int) + 1)) = j_ := ⟨_, rfl⟩
    have hqv := ak (show q = (a1.size : Int) + 1 by rw [← hq]; unfold wrap64; omega)
    have hqw : (IntKind.i64.wrap ((a1.size : Int) + 1)) = q := (i64_w _).trans hq
    go_wp2_with (first
      | ((with_reducible refine gd 14 ?_); refine gL 86 Tryz.func86 (some 14) #[.pointer (some ⟨g, 0, none⟩), .int .i64 q] ?_; refine (pickD q (dr HD.out).here (by omega)).mono ?_; rintro e w2 ⟨r14, rfl, hi0, hi1, hk⟩; refine ⟨_, rfl, ?_⟩; replace HD := ak ((dr HD.out).join hk); clear hk; have fa0 := eq_true (show 0 ≤ r14 from hi0); have fa1 : decide (0 ≤ r14) = true := decide_eq_true hi0; have hi2 : r14 ≤ (a1.size : Int) := (by have := hqv.out; omega); have fa2 := eq_true hi2; have fa3 : decide (r14 ≤ (a1.size : Int)) = true := decide_eq_true hi2; have hi3 := ak hi2; clear hi0 hi1 hi2))
    go_ret
    exact ⟨_, by first | rfl | (simp [*]; done), by (try rw [ByteArray.size_extract]); omega, (dr HD.out).more (by omega)⟩
  · have c0b : (r6 == 0) = false := beq_eq_false_iff_ne.mpr c0
    by_cases c1 : r6 = 1
    · have c1b : (r6 == 1) = true := beq_iff_eq.mpr c1
      clear c0 c1
      go_wp2_with (first
        | ((with_reducible refine gd 20 ?_); refine gL 87 Tryz.func87 (some 20) #[.pointer (some ⟨g, 0, none⟩), .string a1, .string ⟨#[58, 32, 13, 10, 72, 49]⟩] ?_; refine (spoiltD a1 ⟨#[58, 32, 13, 10, 72, 49]⟩ (dr HD.out).here (by omega) (by decide) (by omega)).mono ?_; rintro e w3 ⟨r20, rfl, hs20, hk⟩; refine ⟨_, rfl, ?_⟩; replace HD := ak ((dr HD.out).join hk); clear hk))
      go_ret
      exact ⟨_, by first | rfl | (simp [*]; done), by omega, (dr HD.out).more (by omega)⟩
    · have c1b : (r6 == 1) = false := beq_eq_false_iff_ne.mpr c1
      by_cases c2 : r6 = 2
      · have c2b : (r6 == 2) = true := beq_iff_eq.mpr c2
        clear c0 c1 c2
        go_wp2_with (first
          | ((with_reducible refine gd 25 ?_); refine ofL 25 26 [⟨#[109, 111, 114, 101]⟩, ⟨#[71, 69, 84, 32, 47, 32, 72, 84, 84, 80, 47, 49, 46, 49, 13, 10]⟩] 16 (dr HD.out) (by omega) ?_; intro A25 c25 r26 w4 hr26 hk; replace HD := ak ((dr HD.out).join hk); clear hk; have hr := ak hr26; clear hr26; have v0 : (9223372036854775807 < a1.size + r26.size) = False := eq_false (Nat.not_lt.2 (by have := hr.out; omega)))
          )
        go_ret
        exact ⟨_, by first | rfl | (simp [*]; done), by have := hr.out; simp only [ByteArray.size_append]; omega, (dr HD.out).more (by omega)⟩
      · have c2b : (r6 == 2) = false := beq_eq_false_iff_ne.mpr c2
        clear c0 c1 c2
        go_wp2
        go_ret
        exact ⟨_, by first | rfl | (simp [*]; done), by omega, (dr HD.out).more (by omega)⟩
/-! ### the draws themselves -/
/-- What a drawn message is bounded by. -/
def SmM (b : ByteArray) (l : List S75) : Prop := b.size ≤ 5 ∧ l.length ≤ 44 ∧ SmF l
theorem Dr.start {w W : World} {g : Nat} {cs : List Int} {A0 : Option Addr} {c0 : Nat} (hy : BytD cs) (hb : Below w.heap.size w W) (h : W.heap[g]? = some (.cells #[.slice A0 cs.length c0, .int .i64 0, .int .u64 0] 68 (0, 0))) (hg : w.heap.size ≤ g) (hr : Kd.C (Kd.int .u8) w A0 cs.length cs) : Dr w w W g cs 0 :=
  ⟨hy, ⟨0, 0, ⟨_, _, h, hg, hr⟩, Int.le_refl _, Int.le_refl _⟩, hb, KeepBut.of_below hb g none⟩
theorem goodD {w : World} {cs : List Int} {A0 : Option Addr} {c0 : Nat} (hy : BytD cs) (hr0 : Kd.C (Kd.int .u8) w A0 cs.length cs) :
    Calls Tryz.prog 46 #[.slice A0 cs.length c0] w fun e w' => ∃ m t v b l, e = .returned (.agg #[.string m, .string t, v, .string b]) ∧ (m.size ≤ 11 ∧ t.size ≤ 9) ∧ SmM b l ∧ Kd.R k75 75 w' w.heap.size (fun _ => True) v l ∧ Below w.heap.size w w' := by
  have hu24 := Tryz.underlying24
  have hu68 := Tryz.underlying68
  have HR0 := ak hr0
  clear hr0
  have HB := ak (Below.refl w.heap.size w)
  go_enter Tryz.func46, Tryz.ntmps46
  go_wp2_with (first
    | ((with_reducible refine gd 2 ?_); refine bE 2 #[.string (⟨#[]⟩ : ByteArray), .string (⟨#[]⟩ : ByteArray), .slice none 0 0, .string (⟨#[]⟩ : ByteArray)] 24 ?_; intro p2 hg w3 hbox hb; have BK2 := ak hbox; have G2 := gs hg (bl HB.out); replace HB := ak (below_step (bl HB.out) hb); clear hb hbox hg)
    | ((with_reducible refine gd 6 ?_); refine bE 6 #[.slice A0 cs.length c0, .int .i64 0, .int .u64 0] 68 ?_; intro pg hg w4 hbox hb; have NB := nl hg BK2.out; have NC := ng hg BK2.out; have G6 := gs hg (bl1 HB.out G2.out); replace HB := ak (below_step (bl1 HB.out G2.out) hb); replace BK2 := ak (blk_below (bk BK2.out) hb); have HD := ak (Dr.start hy HB.out hbox G6.out HR0.out); have FA2 := ak (Fa.mk G2.out G2.out NB.out NC.out); clear hb hbox hg)
    | ((with_reducible refine gc 52 ?_); refine gL 52 Tryz.func52 (some 8) #[.pointer (some ⟨pg, 0, none⟩)] ?_; refine (requestD (dr HD.out).here (by omega)).mono ?_; rintro e w5 ⟨m, t, v, b, l, rfl, hm, ho, hl, hs, hk⟩; obtain ⟨A3, c3, rfl⟩ := Kd.R_slice ho; refine ⟨_, rfl, ?_⟩; replace BK2 := ak (hk.blk (bq BK2.out) FA2.out.n); have HO := ak (Kd.R_lower ho (keep_size (dr HD.out).keep)); replace HD := ak ((dr HD.out).join hk); clear hk ho; obtain ⟨hdz0, hdz1, hdz2, hdz3, hez0, hez1, hez2, hez3⟩ := b4 BK2.out))
  refine bodyPost_ret (results_cell_row rfl _ _ p2 24 #[.string _, .string _, .slice _ _ _, .string _] (0, 0) _ rfl (bq BK2.out) Tryz.underlying24 rfl (by kernel_rfl)) rfl ?_
  exact ⟨_, _, _, _, l, rfl, ⟨hm.1, hm.2.1⟩, ⟨hm.2.2, hl, hs⟩, kz HO.out ⟨_, BK2.out⟩ (by decide), (dr HD.out).low⟩
theorem requestBytesD {w : World} {cs : List Int} {A0 : Option Addr} {c0 : Nat} (hy : BytD cs) (hr0 : Kd.C (Kd.int .u8) w A0 cs.length cs) :
    Calls Tryz.prog 16 #[.slice A0 cs.length c0] w fun e w' => ∃ m t v b l, e = .returned (.agg #[.string m, .string t, v, .string b]) ∧ (m.size ≤ 11 ∧ t.size ≤ 9) ∧ SmM b l ∧ Kd.R k75 75 w' w.heap.size (fun _ => True) v l ∧ Below w.heap.size w w' := by
  have hu24 := Tryz.underlying24
  have HR0 := ak hr0
  clear hr0
  have HB := ak (Below.refl w.heap.size w)
  go_enter Tryz.func16, Tryz.ntmps16
  go_wp2_with (first
    | ((with_reducible refine gd 2 ?_); refine bE 2 #[.string (⟨#[]⟩ : ByteArray), .string (⟨#[]⟩ : ByteArray), .slice none 0 0, .string (⟨#[]⟩ : ByteArray)] 24 ?_; intro p2 hg w3 hbox hb; have BK2 := ak hbox; have G2 := gs hg (bl HB.out); replace HB := ak (below_step (bl HB.out) hb); clear hb hbox hg)
    | ((with_reducible refine gc 46 ?_); refine gL 46 Tryz.func46 (some 4) #[.slice A0 cs.length c0] ?_; refine (goodD hy (kc (Kd.C_below HR0.out HB.out))).mono ?_; rintro e w5 ⟨m, t, v, b, l, rfl, hm, hl, ho, hb⟩; obtain ⟨A3, c3, rfl⟩ := Kd.R_slice ho; refine ⟨_, rfl, ?_⟩; have HO := ak (Kd.R_lower ho (below_size (bl1 HB.out G2.out))); replace BK2 := ak (blk_below (bk BK2.out) hb); replace HB := ak (below_step (bl1 HB.out G2.out) hb); clear hb ho; obtain ⟨hdz0, hdz1, hdz2, hdz3, hez0, hez1, hez2, hez3⟩ := b4 BK2.out))
  refine bodyPost_ret (results_cell_row rfl _ _ p2 24 #[.string _, .string _, .slice _ _ _, .string _] (0, 0) _ rfl (bq BK2.out) Tryz.underlying24 rfl (by kernel_rfl)) rfl ?_
  exact ⟨_, _, _, _, l, rfl, hm, hl, kz HO.out ⟨_, BK2.out⟩ (by decide), bl1 HB.out G2.out⟩
/-- What the head of a drawn request is. -/
def HeadF : Prop := ∀ (m t b : ByteArray) (l : List S75), m.size ≤ 11 → t.size ≤ 9 → SmM b l → ∃ k a h, spec_l4First.f m t l b = some a ∧ spec_l4Head.f k a l = some h ∧ h.size ≤ 4000
/-- What the bytes of a drawn response are. -/
def RespF : Prop := ∀ (st : Int) (rs b : ByteArray) (l : List S75), 0 ≤ st ∧ st ≤ 600 → rs.size ≤ 9 → SmM b l → ∃ k s ok, spec_ResponseBytes.f k st rs l b = some (s, ok) ∧ s.size ≤ 4100
def takeReqT : Bool × List (List Nat × List Nat) := (true, [([], []), ([], []), ([1], [1]), ([], []), ([3], [3]), ([2, 4, 2], [2, 4]), ([], []), ([6], [6]), ([5, 7], [5, 7]), ([0, 8, 5], [0, 8]), ([9, 9, 0, 1, 2, 3, 4, 5, 6, 7, 8, 9], [9])])
def takeReqB : List Nat := [0, 0, 2, 0, 8, 30, 0, 64, 254, 511, 1023]
theorem takeReq_tab : rtab .any (opsOf Tryz.f20 3) = takeReqT := by kernel_rfl
theorem takeReq_bits : waitsOk takeReqT.2 takeReqB = true := by kernel_rfl
/-! ### spec_DrawTakeRequest: function 20 -/
theorem takeReqD (HF : HeadF) {w : World} {cs : List Int} {A0 : Option Addr} {c0 : Nat} (hy : BytD cs) (hr0 : Kd.C (Kd.int .u8) w A0 cs.length cs) :
    Calls Tryz.prog 20 #[.slice A0 cs.length c0] w fun e w' => ∃ r, e = .returned (.string r) ∧ r.size ≤ 5000 ∧ Below w.heap.size w w' := by
  have hu24 := Tryz.underlying24
  have hu68 := Tryz.underlying68
  have HR0 := ak hr0
  clear hr0
  have HFa := ak HF
  clear HF
  have HB := ak (Below.refl w.heap.size w)
  go_enter Tryz.func20, Tryz.ntmps20
  go_upto_region 2 with (first
    | ((with_reducible refine gd 7 ?_); refine bE 7 #[.slice A0 cs.length c0, .int .i64 0, .int .u64 0] 68 ?_; intro pg hg w4 hbox hb; have G6 := gs hg (bl HB.out); replace HB := ak (below_step (bl HB.out) hb); have HD := ak (Dr.start hy HB.out hbox G6.out HR0.out); clear hb hbox hg))
  (try simp only [Act.put, List.setIfInBounds_toArray, List.set_cons_zero, List.set_cons_succ])
  go_cut [4] (fun v4 wc => ∃ (p4 : Nat) (m t b : ByteArray) (l : List S75) (A : Option Addr) (c : Nat), v4 = .pointer (some ⟨p4, 0, none⟩) ∧ Aside0 (m.size ≤ 11 ∧ t.size ≤ 9 ∧ SmM b l) ∧ Aside0 (Fa w w pg p4) ∧ Aside0 (wc.heap[p4]? = some (.cells #[.string m, .string t, .slice A l.length c, .string b] 24 (0, 0))) ∧ Aside0 (Kd.R k75 75 wc w.heap.size (fun _ => True) (.slice A l.length c) l) ∧ Aside0 (Dr w w wc pg cs 430))
  case first =>
    go_wp2_with (first
      | ((with_reducible refine gc 52 ?_); refine gL 52 Tryz.func52 (some 9) #[.pointer (some ⟨pg, 0, none⟩)] ?_; refine (requestD (dr HD.out).here (by omega)).mono ?_; rintro e w5 ⟨m, t, v, b, l, rfl, hm, ho, hl, hs, hk⟩; obtain ⟨A3, c3, rfl⟩ := Kd.R_slice ho; refine ⟨_, rfl, ?_⟩; have HO := ak (Kd.R_lower ho (keep_size (dr HD.out).keep)); replace HD := ak ((dr HD.out).join hk); clear hk ho)
      | ((with_reducible refine gd 4 ?_); refine bE 4 #[.string (⟨#[]⟩ : ByteArray), .string (⟨#[]⟩ : ByteArray), .slice none 0 0, .string (⟨#[]⟩ : ByteArray)] 24 ?_; intro p4 hg w6 hbox hb; have FA4 := ak ((dr HD.out).new hg); have BK4 := ak hbox; replace HO := ak (Kd.R_below (kr HO.out) hb); replace HD := ak ((dr HD.out).step hb); clear hb hbox hg; obtain ⟨hcz0, hcz1, hcz2, hcz3, hfz0, hfz1, hfz2, hfz3⟩ := b4 BK4.out))
    go_meet
    case rel => exact ⟨p4, m, t, b, l, A3, c3, rfl, ⟨hm.1, hm.2.1, hm.2.2, hl, hs⟩, FA4, ⟨bq BK4.out⟩, ⟨kz HO.out ⟨_, BK4.out⟩ (by decide)⟩, ⟨(dr HD.out).more (by omega)⟩⟩
  case rest =>
    obtain ⟨p4, m, t, b, l, A, c, rfl, HM, FA4, BK4, HO, HD⟩ := hcut
    obtain ⟨k, f1, h1, hf1, hh1, hs1⟩ := HFa.out m t b l HM.out.1 HM.out.2.1 HM.out.2.2
    have N1 := ak hf1
    have N2 := ak hh1
    have N3 := ak hs1
    clear hf1 hh1 hs1
    have N4 := ak HM.out.2.2.1
    have v0 : (9223372036854775807 < h1.size + b.size) = False := eq_false (Nat.not_lt.2 (by have := N3.out; have := N4.out; omega))
    go_upto_region 3 with fail
    replace HO := ak (Kd.R_drew HO.out)
    refine start_ (n := 11) (S := fun w' => w'.cell? ⟨p4, 0, none⟩ = some (.string m) ∧ w'.cell? ⟨p4, 1, none⟩ = some (.string t) ∧ w'.cell? ⟨p4, 2, none⟩ = some (.slice A l.length c) ∧ w'.cell? ⟨p4, 3, none⟩ = some (.string b)) (ds := []) #[false, false, false, false, false, false, false, false, false, false, false] (by kernel_rfl) rfl rfl ⟨bc0 (blk_drew BK4.out), bc1 (blk_drew BK4.out), bc2 (blk_drew BK4.out), bc3 (blk_drew BK4.out)⟩ (fun hHeld => ?_)
    refine with_tabW takeReq_tab takeReq_bits (fun HT_ HW_ => ?_)
    replace BK4 := ak (blk_drew BK4.out)
    replace HD := ak (Dr.drew HD.out)
    generalize wc.drew = wd at BK4 HD HO hHeld ⊢
    refine pu 0 (some 10) HT_ ?_
    refine pu 3 (some 13) HT_ ?_
    refine pu 6 (some 16) HT_ ?_
    refine tk 1 (some 11) HT_ HW_ hHeld ?_
    refine tk 4 (some 14) HT_ HW_ hHeld ?_
    refine tk 7 (some 17) HT_ HW_ hHeld ?_
    refine on 2 (some 12) HT_ (fun K hK => ?_)
    refine gO Tryz.func51 #[.agg #[.string m, .string t, .slice A l.length c, .string b]] ?_
    refine (spec_l4First.calls m t _ _ l b f1 _ (Kd.R_reads' HO.out).2.2 (Kd.R_reads' HO.out).2.1 N1.out).mono ?_
    rintro e w7 ⟨rfl, hb⟩
    refine ⟨_, rfl, ?_⟩
    replace HO := ak (Kd.R_below HO.out hb)
    replace BK4 := ak (blk_below BK4.out hb)
    replace HD := ak (HD.out.step hb)
    clear hb
    refine hK.out _ _ ⟨bc0 BK4.out, bc1 BK4.out, bc2 BK4.out, bc3 BK4.out⟩ (fun hHeld => ?_)
    clear hK K
    refine nr (some 12) ?_
    refine on 5 (some 15) HT_ (fun K hK => ?_)
    refine gO Tryz.func50 #[.string f1, .slice A l.length c] ?_
    refine (spec_l4Head.calls k f1 _ _ l h1 _ (Kd.R_reads' HO.out).2.2 (Kd.R_reads' HO.out).2.1 N2.out).mono ?_
    rintro e w8 ⟨rfl, hb⟩
    refine ⟨_, rfl, ?_⟩
    replace HO := ak (Kd.R_below HO.out hb)
    replace BK4 := ak (blk_below BK4.out hb)
    replace HD := ak (HD.out.step hb)
    clear hb
    refine hK.out _ _ ⟨bc0 BK4.out, bc1 BK4.out, bc2 BK4.out, bc3 BK4.out⟩ (fun hHeld => ?_)
    clear hK K
    refine nr (some 15) ?_
    refine pu 8 (some 18) HT_ ?_
    refine on 9 (some 19) HT_ (fun K hK => ?_)
    refine gO Tryz.func53 #[.pointer (some ⟨pg, 0, none⟩), .string (h1 ++ b)] ?_
    refine (cutD (h1 ++ b) HD.out.here (by have := N3.out; have := N4.out; rw [ByteArray.size_append]; omega) (by omega)).mono ?_
    rintro e w9 ⟨r, rfl, hr, hk⟩
    refine ⟨_, rfl, ?_⟩
    replace BK4 := ak (hk.blk BK4.out FA4.out.n)
    replace HD := ak (HD.out.join hk)
    clear hk
    rw [ByteArray.size_append] at hr
    refine hK.out _ _ ⟨bc0 BK4.out, bc1 BK4.out, bc2 BK4.out, bc3 BK4.out⟩ (fun hHeld => ?_)
    clear hK K
    refine nr (some 19) ?_
    refine pu 10 (some 2) HT_ ?_
    refine done_ (done_of HT_.out (by kernel_rfl)) ?_
    try go_wp2
    go_ret
    exact ⟨_, rfl, by have := N3.out; have := N4.out; omega, (dr HD.out).low⟩
/-! ### spec_DrawTakeResponse: function 22 -/
theorem takeRespD (HF : RespF) {w : World} {cs : List Int} {A0 : Option Addr} {c0 : Nat} (hy : BytD cs) (hr0 : Kd.C (Kd.int .u8) w A0 cs.length cs) :
    Calls Tryz.prog 22 #[.slice A0 cs.length c0] w fun e w' => ∃ r, e = .returned (.string r) ∧ r.size ≤ 5000 ∧ Below w.heap.size w w' := by
  have hu31 := Tryz.underlying31
  have hu68 := Tryz.underlying68
  have HR0 := ak hr0
  clear hr0
  have HFa := ak HF
  clear HF
  have HB := ak (Below.refl w.heap.size w)
  go_enter Tryz.func22, Tryz.ntmps22
  go_upto_region 3 with (first
    | ((with_reducible refine gd 9 ?_); refine bE 9 #[.slice A0 cs.length c0, .int .i64 0, .int .u64 0] 68 ?_; intro pg hg w4 hbox hb; have G6 := gs hg (bl HB.out); replace HB := ak (below_step (bl HB.out) hb); have HD := ak (Dr.start hy HB.out hbox G6.out HR0.out); clear hb hbox hg)
    | ((with_reducible refine gc 55 ?_); refine gL 55 Tryz.func55 (some 11) #[.pointer (some ⟨pg, 0, none⟩)] ?_; refine (responseD (dr HD.out).here (by omega)).mono ?_; rintro e w5 ⟨m, t, v, b, l, rfl, hm, ho, hl, hs, hk⟩; obtain ⟨A3, c3, rfl⟩ := Kd.R_slice ho; refine ⟨_, rfl, ?_⟩; have HO := ak (Kd.R_lower ho (keep_size (dr HD.out).keep)); replace HD := ak ((dr HD.out).join hk); clear hk ho)
    | ((with_reducible refine gd 4 ?_); refine bE 4 #[.int .i64 0, .string (⟨#[]⟩ : ByteArray), .slice none 0 0, .string (⟨#[]⟩ : ByteArray)] 31 ?_; intro p4 hg w6 hbox hb; have FA4 := ak ((dr HD.out).new hg); have BK4 := ak hbox; replace HO := ak (Kd.R_below (kr HO.out) hb); replace HD := ak ((dr HD.out).step hb); clear hb hbox hg; obtain ⟨hcz0, hcz1, hcz2, hcz3, hfz0, hfz1, hfz2, hfz3⟩ := b4 BK4.out))
  obtain ⟨k, s1, ok1, hf1, hs1⟩ := HFa.out m t b l hm.1 hm.2.1 ⟨hm.2.2, hl, hs⟩
  have N1 := ak hf1
  have N3 := ak hs1
  clear hf1 hs1
  go_wp2_with (first
    | ((with_reducible refine gc 56 ?_); refine gL 56 Tryz.func56 (some 14) #[.agg #[.int .i64 m, .string t, .slice A3 l.length c3, .string b]] ?_; refine (spec_ResponseBytes.calls k m t _ _ l b s1 ok1 _ (Kd.R_reads' (kz HO.out ⟨_, BK4.out⟩ (by decide))).2.2 (Kd.R_reads' HO.out).2.1 N1.out).mono ?_; rintro e w7 ⟨rfl, hb⟩; refine ⟨_, rfl, ?_⟩; replace HD := ak ((dr HD.out).step hb); clear hb)
    | ((with_reducible refine gc 53 ?_); refine gL 53 Tryz.func53 (some 19) #[.pointer (some ⟨pg, 0, none⟩), .string s1] ?_; refine (cutD s1 (dr HD.out).here (by have := N3.out; omega) (by omega)).mono ?_; rintro e w8 ⟨r, rfl, hr, hk⟩; refine ⟨_, rfl, ?_⟩; replace HD := ak ((dr HD.out).join hk); clear hk))
  go_ret
  exact ⟨_, rfl, by have := N3.out; omega, (dr HD.out).low⟩
end Go.Proofs.YthneflfbafieeaaGreatDoor.PFnTorn
