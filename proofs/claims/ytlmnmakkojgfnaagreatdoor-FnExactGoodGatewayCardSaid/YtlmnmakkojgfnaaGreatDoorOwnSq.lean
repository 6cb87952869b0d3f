/- Short words for long steps of the printed texts, second part. -/
import Derived.Test.YtlmnmakkojgfnaaGreatDoorVOwnShort
import Derived.Test.YtlmnmakkojgfnaaGreatDoorVWTab
import Derived.Test.YtlmnmakkojgfnaaGreatDoorVWKept
import Derived.Test.YtlmnmakkojgfnaaGreatDoorVWLast
import Derived.WalkKit
import Derived.BigCall
namespace Go.Proofs.YtlmnmakkojgfnaaGreatDoorOwn
open Go.RowKit Go.Proofs.YtlmnmakkojgfnaaGreatDoorW.PrintWords Go.Proofs.YtlmnmakkojgfnaaGreatDoorW.PrintLast Go.Proofs.YtlmnmakkojgfnaaGreatDoorW.PrintMore
set_option linter.unusedVariables false
theorem ak {p : Prop} (h : p) : Aside0 p := ⟨h⟩
theorem od {p : Prop} [Decidable p] (h : decide p = true := by first | (with_reducible assumption) | assumption) : p := of_decide_eq_true h
theorem b2 {w : World} {g : Nat} {t : TypeId} {v0 v1 : Value} (h : w.heap[g]? = some (.cells #[v0, v1] t (0, 0))) : w.cell? ⟨g, 0, none⟩ = some v0 ∧ w.cell? ⟨g, 1, none⟩ = some v1 ∧ w.frozen? ⟨g, 0, none⟩ = false ∧ w.frozen? ⟨g, 1, none⟩ = false := ⟨bc0 h, bc1 h, blk_frozen h 0, blk_frozen h 1⟩
theorem b4 {w : World} {g : Nat} {t : TypeId} {v0 v1 v2 v3 : Value} (h : w.heap[g]? = some (.cells #[v0, v1, v2, v3] t (0, 0))) : w.cell? ⟨g, 0, none⟩ = some v0 ∧ w.cell? ⟨g, 1, none⟩ = some v1 ∧ w.cell? ⟨g, 2, none⟩ = some v2 ∧ w.cell? ⟨g, 3, none⟩ = some v3 ∧ w.frozen? ⟨g, 0, none⟩ = false ∧ w.frozen? ⟨g, 1, none⟩ = false ∧ w.frozen? ⟨g, 2, none⟩ = false ∧ w.frozen? ⟨g, 3, none⟩ = false := ⟨bc0 h, bc1 h, bc2 h, bc3 h, blk_frozen h 0, blk_frozen h 1, blk_frozen h 2, blk_frozen h 3⟩
theorem b6 {w : World} {g : Nat} {t : TypeId} {v0 v1 v2 v3 v4 v5 : Value} (h : w.heap[g]? = some (.cells #[v0, v1, v2, v3, v4, v5] t (0, 0))) : w.cell? ⟨g, 0, none⟩ = some v0 ∧ w.cell? ⟨g, 1, none⟩ = some v1 ∧ w.cell? ⟨g, 2, none⟩ = some v2 ∧ w.cell? ⟨g, 3, none⟩ = some v3 ∧ w.cell? ⟨g, 4, none⟩ = some v4 ∧ w.cell? ⟨g, 5, none⟩ = some v5 ∧ w.frozen? ⟨g, 0, none⟩ = false ∧ w.frozen? ⟨g, 1, none⟩ = false ∧ w.frozen? ⟨g, 2, none⟩ = false ∧ w.frozen? ⟨g, 3, none⟩ = false ∧ w.frozen? ⟨g, 4, none⟩ = false ∧ w.frozen? ⟨g, 5, none⟩ = false := ⟨bc0 h, bc1 h, bc2 h, bc3 h, bc4 h, bc5 h, blk_frozen h 0, blk_frozen h 1, blk_frozen h 2, blk_frozen h 3, blk_frozen h 4, blk_frozen h 5⟩
theorem b8 {w : World} {g : Nat} {t : TypeId} {v0 v1 v2 v3 v4 v5 v6 v7 : Value} (h : w.heap[g]? = some (.cells #[v0, v1, v2, v3, v4, v5, v6, v7] t (0, 0))) : w.cell? ⟨g, 0, none⟩ = some v0 ∧ w.cell? ⟨g, 1, none⟩ = some v1 ∧ w.cell? ⟨g, 2, none⟩ = some v2 ∧ w.cell? ⟨g, 3, none⟩ = some v3 ∧ w.cell? ⟨g, 4, none⟩ = some v4 ∧ w.cell? ⟨g, 5, none⟩ = some v5 ∧ w.cell? ⟨g, 6, none⟩ = some v6 ∧ w.cell? ⟨g, 7, none⟩ = some v7 ∧ w.frozen? ⟨g, 0, none⟩ = false ∧ w.frozen? ⟨g, 1, none⟩ = false ∧ w.frozen? ⟨g, 2, none⟩ = false ∧ w.frozen? ⟨g, 3, none⟩ = false ∧ w.frozen? ⟨g, 4, none⟩ = false ∧ w.frozen? ⟨g, 5, none⟩ = false ∧ w.frozen? ⟨g, 6, none⟩ = false ∧ w.frozen? ⟨g, 7, none⟩ = false := ⟨bc0 h, bc1 h, bc2 h, bc3 h, bc4 h, bc5 h, bc6 h, bc7 h, blk_frozen h 0, blk_frozen h 1, blk_frozen h 2, blk_frozen h 3, blk_frozen h 4, blk_frozen h 5, blk_frozen h 6, blk_frozen h 7⟩
theorem nl {W0 W : World} {g g' : Nat} {o : Obj} (hg : g' = W.heap.size) (h0 : W0.heap[g]? = some o) (h : W0.heap[g]? = some o → W.heap[g]? = some o := by (intro h_; (with_reducible repeat (first | refine blk_drewN ?_ _ | refine blk_drew ?_ | refine blk_alloc ?_ _)); exact h_)) : Aside0 (g ≠ g') := ⟨by rw [hg]; exact Nat.ne_of_lt (blk_lt (h h0))⟩
theorem ng {W0 W : World} {g g' : Nat} {o : Obj} (hg : g' = W.heap.size) (h0 : W0.heap[g]? = some o) (h : W0.heap[g]? = some o → W.heap[g]? = some o := by (intro h_; (with_reducible repeat (first | refine blk_drewN ?_ _ | refine blk_drew ?_ | refine blk_alloc ?_ _)); exact h_)) : Aside0 (g' ≠ g) := ⟨by rw [hg]; exact Nat.ne_of_gt (blk_lt (h h0))⟩
theorem gs {w W : World} {g : Nat} (hg : g = W.heap.size) (h : Below w.heap.size w W) : Aside0 (w.heap.size ≤ g) := ⟨by rw [hg]; exact below_size h⟩
section
variable {P : Program} {ops : Array Oper} {rest : List Oper} {o : Oper} {a : Act} {Q : Exit → Act → World → Prop}
theorem bE {W : World} (N : Tmp) (cs : Array Value) (t : TypeId) 
    (h : ∀ g, g = W.heap.size → ∀ w1, w1.heap[g]? = some (.cells cs t (0, 0)) → Below W.heap.size W w1 → wpList P ops Q rest (a.put o.dst (.pointer (some ⟨g, 0, none⟩))) w1)
    (hd : o.dst = some N := by (with_reducible exact rfl)) (hgd : o.guard = none := by rfl)
    (hrun : (execOp a.eval o).run P W = .ok (.value (.pointer (some ⟨W.heap.size, 0, none⟩))) (W.alloc (.cells cs t (0, 0))) := by (first | (go_simp; done) | (go_simp; rfl))) : wpList P ops Q (o :: rest) a W := box_event hgd hd hrun h
theorem gL {w : World} (f : FuncId) {fn : Func} (hf : P.funcs[f]? = some fn) (N : Option Tmp) (args : Array Value) {as : Array Operand} {ts : Array TypeId}
    (h : Calls P f args w fun e w' => ∃ v, e = .returned v ∧ wpList P ops Q rest (a.put N v) w')
    (hop : o.op = .call { callee := .value (.func f), args := as, argTypes := ts } := by (with_reducible exact rfl)) (hd : o.dst = N := by (exact rfl)) (hg : o.guard = none := by rfl)
    (hname : (fn.name == "runtime.NumGoroutine") = false := by kernel_rfl) (hb : fn.body.isSome = true := by rfl)
    (hargs : as.map a.eval = args := by ((try simp only [List.map_toArray, List.map_cons, List.map_nil]); first | done | rfl | (simp only [List.length_drop, List.length_take]; rfl))) : wpList P ops Q (o :: rest) a w := goesL_ N hd hg hf hname hb args hop hargs h
end
section
variable {P : Program} {ops : Array Oper} {Q : Exit → Act → World → Prop} {md : Region.Mode} {S : World → Prop} {ds : List Nat} {T : Bool × List (List Nat × List Nat)} {B : List Nat} {oi : Oper} {v : Value} {fuel : Nat} {l l' : Array Bool} {a a' : Act} {w : World}
theorem pu (i : Nat) (N : Option Tmp) (HT : Aside0 (rtab md ops = T)) (h : wpAnyLast P md ops Q S ds fuel l' a' w)
    (hl : l.setIfInBounds i true = l' := by (simp only [List.setIfInBounds_toArray, List.set_cons_zero, List.set_cons_succ]; rfl)) (hi : ops[i]? = some oi := by (exact rfl)) (hN : oi.dst = N := by (exact rfl)) (hc : anyT T l.toList l'.toList i = true := by kernel_rfl)
    (hw : Region.wanted oi (yielded ops a.tmps) = true := by rfl) (hy : ∀ w, (execOp a.eval oi).run P w = .ok (.value v) w := by (intro w'; go_simp; with_reducible rfl))
    (ha : a.put N v = a' := by (simp only [Act.put, List.setIfInBounds_toArray, List.set_cons_zero, List.set_cons_succ, i64_w, i32_w]; rfl))
    (hQ : ∀ c a w, Q (.panic c) (a.put oi.dst v) w → Q (.panic c) a w := by (exact fun _ _ _ h => h)) : wpAnyLast P md ops Q S ds (fuel + 1) l a w := pure_ l' hi hN (any_of HT.out hc) hQ (.inl ⟨hw, hy⟩) ha h
theorem pn (i : Nat) (N : Option Tmp) (HT : Aside0 (rtab md ops = T)) (h : wpAnyLast P md ops Q S ds fuel l' a' w)
    (hl : l.setIfInBounds i true = l' := by (simp only [List.setIfInBounds_toArray, List.set_cons_zero, List.set_cons_succ]; rfl)) (hi : ops[i]? = some oi := by (exact rfl)) (hN : oi.dst = N := by (exact rfl)) (hc : anyT T l.toList l'.toList i = true := by kernel_rfl)
    (hw : Region.wanted oi (yielded ops a.tmps) = false := by rfl)
    (ha : a.put N undef = a' := by (simp only [Act.put, List.setIfInBounds_toArray, List.set_cons_zero, List.set_cons_succ, i64_w, i32_w]; rfl))
    (hQ : ∀ c a w, Q (.panic c) (a.put oi.dst undef) w → Q (.panic c) a w := by (exact fun _ _ _ h => h)) : wpAnyLast P md ops Q S ds (fuel + 1) l a w := pure_ l' hi hN (any_of HT.out hc) hQ (.inr ⟨hw, rfl⟩) ha h
theorem tk (i : Nat) (N : Option Tmp) (HT : Aside0 (rtab md ops = T)) (HW : Aside0 (waitsOk T.2 B = true)) (hS : S w) (h : wpAnyLast P md ops Q S ds fuel l' a' w)
    (hl : l.setIfInBounds i true = l' := by (simp only [List.setIfInBounds_toArray, List.set_cons_zero, List.set_cons_succ]; rfl)) (hi : ops[i]? = some oi := by (exact rfl)) (hN : oi.dst = N := by (exact rfl)) (hc : takeW T B ds l.toList l'.toList i = true := by kernel_rfl)
    (hw : Region.wanted oi (yielded ops a.tmps) = true := by rfl) (hy : ∀ w, S w → (execOp a.eval oi).run P w = .ok (.value v) w := by (intro w' s_; (repeat (have := s_.1; replace s_ := s_.2)); go_simp; with_reducible rfl))
    (ha : a.put N v = a' := by (simp only [Act.put, List.setIfInBounds_toArray, List.set_cons_zero, List.set_cons_succ, i64_w, i32_w]; rfl))
    (hQ : ∀ c a w, Q (.panic c) (a.put oi.dst v) w → Q (.panic c) a w := by (exact fun _ _ _ h => h)) : wpAnyLast P md ops Q S ds (fuel + 1) l a w := take_ l' hi hN (take_ofW HT.out HW.out hc) hQ (.inl ⟨hw, hy⟩) hS ha h
theorem on (i : Nat) (N : Option Tmp) (HT : Aside0 (rtab md ops = T)) 
    (h : ∀ K : Act → World → Prop, Shut (∀ a' w', S w' → (S w' → wpAnyLast P md ops Q S ds fuel l' a' w') → K a' w') → if Region.wanted oi (yielded ops a.tmps) = true then Oper.wp P oi a w K Q else K (a.put N undef) w)
    (hl : l.setIfInBounds i true = l' := by (simp only [List.setIfInBounds_toArray, List.set_cons_zero, List.set_cons_succ]; rfl)) (hi : ops[i]? = some oi := by (exact rfl)) (hN : oi.dst = N := by (exact rfl)) (hc : (readyT T.2 l.toList == [i] && l.toList.set i true == l'.toList) = true := by kernel_rfl) (hd : i ∉ ds := by decide) : wpAnyLast P md ops Q S ds (fuel + 1) l a w := one_ l' hi hN (one_of HT.out hc) hd h
end
theorem bq1 {w : World} {g : Nat} {o : Obj} (h9_ : w.heap[g]? = some o) (k : Nat) : (w.drewN k).heap[g]? = some o := blk_drewN h9_ k
theorem bq2 {w : World} {g : Nat} {o : Obj} (h9_ : w.heap[g]? = some o) : w.drew.heap[g]? = some o := blk_drew h9_
theorem bq3 {w : World} {g : Nat} {o : Obj} (h9_ : w.heap[g]? = some o) (p : Obj) : (w.alloc p).heap[g]? = some o := blk_alloc h9_ p
theorem bq4 {w : World} {g : Nat} {t : TypeId} {c8_ c9_ : Array Value} (h9_ : w.heap[g]? = some (.cells c8_ t (0, 0))) (i : Nat) (u : Value) (e9_ : c8_.setIfInBounds i u = c9_) : (w.setCell ⟨g, i, none⟩ u).heap[g]? = some (.cells c9_ t (0, 0)) := blk_put h9_ i u e9_
theorem bq5 {w : World} {g : Nat} {t : TypeId} {c9_ : Array Value} (h9_ : w.heap[g]? = some (.cells c9_ t (0, 0))) {p : Addr} (q9_ : g ≠ p.block) (u : Value) : (w.setCell p u).heap[g]? = some (.cells c9_ t (0, 0)) := blk_far h9_ q9_ u
theorem bq {W0 W : World} {g : Nat} {o0 o : Obj} (h0 : W0.heap[g]? = some o0) (h : W0.heap[g]? = some o0 → W.heap[g]? = some o := by (intro h_; repeat (first | (with_reducible exact h_) | (with_reducible apply bq1) | (with_reducible apply bq2) | (with_reducible apply bq3) | (with_reducible apply bq4) | (with_reducible apply bq5) | exact h_ | rfl | (refine Aside0.out ?_; assumption)))) : W.heap[g]? = some o := h h0
theorem kp {w W0 W : World} {S : Nat → Prop} (h0 : Kept w W0 S) (h : Kept w W0 S → Kept w W S := by (intro h_; repeat (first | (with_reducible first | exact h_ | apply Kept.alloc | apply Kept.drewN | apply Kept.drew) | exact h_))) : Kept w W S := h h0
theorem kp1 {w W0 W : World} {S : Nat → Prop} {b0 : Nat} (h0 : Kept w W0 S) (g0 : w.heap.size ≤ b0) (h : Kept w W0 S → w.heap.size ≤ b0 → Kept w W S := by (intro h_ g0_; repeat (first | (with_reducible first | exact h_ | apply Kept.alloc | apply Kept.drewN | apply Kept.drew | refine Kept.setCell ?_ (.inr g0_) _) | exact h_))) : Kept w W S := h h0 g0
theorem kb1 {w W0 W : World} {g : Nat} {row : Option Nat} {b0 : Nat} (h0 : KeepBut w W0 g row) (g0 : w.heap.size ≤ b0) (h : KeepBut w W0 g row → w.heap.size ≤ b0 → KeepBut w W g row := by (intro h_ g0_; repeat (first | (with_reducible first | exact h_ | apply KeepBut.set_ | apply keep_drewN | apply keep_drew | apply keep_alloc | refine keep_far ?_ g0_ _) | exact h_))) : KeepBut w W g row := h h0 g0
theorem kp2 {w W0 W : World} {S : Nat → Prop} {b0 : Nat} {b1 : Nat} (h0 : Kept w W0 S) (g0 : w.heap.size ≤ b0) (g1 : w.heap.size ≤ b1) (h : Kept w W0 S → w.heap.size ≤ b0 → w.heap.size ≤ b1 → Kept w W S := by (intro h_ g0_ g1_; repeat (first | (with_reducible first | exact h_ | apply Kept.alloc | apply Kept.drewN | apply Kept.drew | refine Kept.setCell ?_ (.inr g0_) _ | refine Kept.setCell ?_ (.inr g1_) _) | exact h_))) : Kept w W S := h h0 g0 g1
theorem kb2 {w W0 W : World} {g : Nat} {row : Option Nat} {b0 : Nat} {b1 : Nat} (h0 : KeepBut w W0 g row) (g0 : w.heap.size ≤ b0) (g1 : w.heap.size ≤ b1) (h : KeepBut w W0 g row → w.heap.size ≤ b0 → w.heap.size ≤ b1 → KeepBut w W g row := by (intro h_ g0_ g1_; repeat (first | (with_reducible first | exact h_ | apply KeepBut.set_ | apply keep_drewN | apply keep_drew | apply keep_alloc | refine keep_far ?_ g0_ _ | refine keep_far ?_ g1_ _) | exact h_))) : KeepBut w W g row := h h0 g0 g1
theorem kp3 {w W0 W : World} {S : Nat → Prop} {b0 : Nat} {b1 : Nat} {b2 : Nat} (h0 : Kept w W0 S) (g0 : w.heap.size ≤ b0) (g1 : w.heap.size ≤ b1) (g2 : w.heap.size ≤ b2) (h : Kept w W0 S → w.heap.size ≤ b0 → w.heap.size ≤ b1 → w.heap.size ≤ b2 → Kept w W S := by (intro h_ g0_ g1_ g2_; repeat (first | (with_reducible first | exact h_ | apply Kept.alloc | apply Kept.drewN | apply Kept.drew | refine Kept.setCell ?_ (.inr g0_) _ | refine Kept.setCell ?_ (.inr g1_) _ | refine Kept.setCell ?_ (.inr g2_) _) | exact h_))) : Kept w W S := h h0 g0 g1 g2
theorem kb3 {w W0 W : World} {g : Nat} {row : Option Nat} {b0 : Nat} {b1 : Nat} {b2 : Nat} (h0 : KeepBut w W0 g row) (g0 : w.heap.size ≤ b0) (g1 : w.heap.size ≤ b1) (g2 : w.heap.size ≤ b2) (h : KeepBut w W0 g row → w.heap.size ≤ b0 → w.heap.size ≤ b1 → w.heap.size ≤ b2 → KeepBut w W g row := by (intro h_ g0_ g1_ g2_; repeat (first | (with_reducible first | exact h_ | apply KeepBut.set_ | apply keep_drewN | apply keep_drew | apply keep_alloc | refine keep_far ?_ g0_ _ | refine keep_far ?_ g1_ _ | refine keep_far ?_ g2_ _) | exact h_))) : KeepBut w W g row := h h0 g0 g1 g2
theorem kp4 {w W0 W : World} {S : Nat → Prop} {b0 : Nat} {b1 : Nat} {b2 : Nat} {b3 : Nat} (h0 : Kept w W0 S) (g0 : w.heap.size ≤ b0) (g1 : w.heap.size ≤ b1) (g2 : w.heap.size ≤ b2) (g3 : w.heap.size ≤ b3) (h : Kept w W0 S → w.heap.size ≤ b0 → w.heap.size ≤ b1 → w.heap.size ≤ b2 → w.heap.size ≤ b3 → Kept w W S := by (intro h_ g0_ g1_ g2_ g3_; repeat (first | (with_reducible first | exact h_ | apply Kept.alloc | apply Kept.drewN | apply Kept.drew | refine Kept.setCell ?_ (.inr g0_) _ | refine Kept.setCell ?_ (.inr g1_) _ | refine Kept.setCell ?_ (.inr g2_) _ | refine Kept.setCell ?_ (.inr g3_) _) | exact h_))) : Kept w W S := h h0 g0 g1 g2 g3
theorem kb4 {w W0 W : World} {g : Nat} {row : Option Nat} {b0 : Nat} {b1 : Nat} {b2 : Nat} {b3 : Nat} (h0 : KeepBut w W0 g row) (g0 : w.heap.size ≤ b0) (g1 : w.heap.size ≤ b1) (g2 : w.heap.size ≤ b2) (g3 : w.heap.size ≤ b3) (h : KeepBut w W0 g row → w.heap.size ≤ b0 → w.heap.size ≤ b1 → w.heap.size ≤ b2 → w.heap.size ≤ b3 → KeepBut w W g row := by (intro h_ g0_ g1_ g2_ g3_; repeat (first | (with_reducible first | exact h_ | apply KeepBut.set_ | apply keep_drewN | apply keep_drew | apply keep_alloc | refine keep_far ?_ g0_ _ | refine keep_far ?_ g1_ _ | refine keep_far ?_ g2_ _ | refine keep_far ?_ g3_ _) | exact h_))) : KeepBut w W g row := h h0 g0 g1 g2 g3
theorem gk {w W : World} {S : Nat → Prop} {g : Nat} (hg : g = W.heap.size) (h : Kept w W S) : Aside0 (w.heap.size ≤ g) := ⟨by rw [hg]; exact h.1⟩
theorem gb {w W : World} {g' : Nat} {row : Option Nat} {g : Nat} (hg : g = W.heap.size) (h : KeepBut w W g' row) : w.heap.size ≤ g := by rw [hg]; exact keep_size h
section
variable {P : Program} {ops : Array Oper} {Q : Exit → Act → World → Prop} {oi : Oper} {a : Act} {w : World} {K : Act → World → Prop}
theorem gO {N : Option Tmp} {f : FuncId} {fn : Func} (hf : P.funcs[f]? = some fn) (args : Array Value) {as : Array Operand} {ts : Array TypeId}
    (h : Calls P f args w fun e w' => ∃ v, e = .returned v ∧ K (a.put N v) w') (hop : oi.op = .call { callee := .value (.func f), args := as, argTypes := ts } := by (exact rfl)) (hN : oi.dst = N := by (exact rfl))
    (hname : (fn.name == "runtime.NumGoroutine") = false := by kernel_rfl) (hb : fn.body.isSome = true := by rfl) (hw : Region.wanted oi (yielded ops a.tmps) = true := by rfl)
    (hargs : as.map a.eval = args := by ((try simp only [List.map_toArray, List.map_cons, List.map_nil]); first | done | rfl | (simp only [List.length_drop, List.length_take]; rfl))) : if Region.wanted oi (yielded ops a.tmps) = true then Oper.wp P oi a w K Q else K (a.put N undef) w := goes_ hf hname hb args hw hN hop hargs h
end
theorem bs {α β : Type} {o : Option α} {f : α → Option β} {r : β} (h : o.bind f = some r) : ∃ a, Aside0 (o = some a) ∧ f a = some r := by
  obtain ⟨a, h1, h2⟩ := Option.bind_eq_some_iff.mp h
  exact ⟨a, ⟨h1⟩, h2⟩
theorem ff : ¬ (false = true) := by decide
theorem rz {α : Type} {a b : α} {Q : Prop} (hq : Q) (h : a = b := by first | rfl | (simp <;> rfl) | (simp [*] <;> rfl)) : a = b ∧ Q := ⟨h, hq⟩
section
variable {P : Program} {ops : Array Oper} {Q : Exit → Act → World → Prop} {rest : List Oper} {o : Oper} {a : Act} {W : World}
theorem gd (N : Tmp) (h : wpList P ops Q (o :: rest) a W) (_hN : o.dst = some N := by (with_reducible exact rfl)) : wpList P ops Q (o :: rest) a W := h
theorem gc (f : FuncId) {as : Array Operand} {ts : Array TypeId} (h : wpList P ops Q (o :: rest) a W) (_ho : o.op = .call { callee := .value (.func f), args := as, argTypes := ts } := by (with_reducible exact rfl)) : wpList P ops Q (o :: rest) a W := h
end
section
variable {P : Program} {md : Region.Mode} {ops : Array Oper} {Q : Exit → Act → World → Prop} {S : World → Prop} {ds : List Nat} {fuel : Nat} {l : Array Bool} {a a' : Act} {v : Value} {w : World}
theorem nr (N : Option Tmp) (H : wpAnyLast P md ops Q S ds fuel l a' w) (ha : a.put N v = a' := by (simp only [Act.put, List.setIfInBounds_toArray, List.set_cons_zero, List.set_cons_succ, i64_w, i32_w]; rfl)) : wpAnyLast P md ops Q S ds fuel l (a.put N v) w := norm_ ha H
end
end Go.Proofs.YtlmnmakkojgfnaaGreatDoorOwn
