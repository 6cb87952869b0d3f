-- written by a program of this session (wip/tool)
import Derived.Test.YthneflfbafieeaaGreatDoorPFnTornx20
import Derived.Test.YthneflfbafieeaaGreatDoorVOwn0
import Derived.Test.YthneflfbafieeaaGreatDoorVOwnOpen
import Derived.WalkKit
import Derived.BigCall
import Derived.Test.YthneflfbafieeaaGreatDoorOwnTr
import Derived.Test.YthneflfbafieeaaGreatDoorVOwnShort
import Derived.Test.YthneflfbafieeaaGreatDoorOwnSq
namespace Go.Proofs.YthneflfbafieeaaGreatDoor.PFnTorn
open Go.RowKit Go.Proofs.YthneflfbafieeaaGreatDoorW.PrintWords Go.Proofs.YthneflfbafieeaaGreatDoorW.PrintLast Go.Proofs.YthneflfbafieeaaGreatDoorW.PrintMore Go.Shelf Go.Proofs.YthneflfbafieeaaGreatDoorOwn
set_option linter.unusedVariables false
set_option linter.unusedSimpArgs false
set_option maxHeartbeats 8000000
set_option maxRecDepth 100000
/-! ### drawing, told by its bounds alone -/
def BytD (l : List Int) : Prop := ∀ x ∈ l, 0 ≤ x ∧ x ≤ 255
theorem rdD {l : List Int} (hl : BytD l) (j : Nat) (hj : j < l.length) : 0 ≤ rd l (j : Int) ∧ rd l (j : Int) ≤ 255 := by
  rw [show rd l (j : Int) = l.getD j 0 from rfl, List.getD_eq_getElem?_getD, List.getElem?_eq_getElem hj]; exact hl _ (List.getElem_mem hj)
theorem wD {x : Int} (h0 : -9223372036854775808 ≤ x) (h1 : x ≤ 9223372036854775807) : wrap64 x = x := by
  unfold wrap64; omega
theorem and255D (x : Int) : 0 ≤ Go.bits .and .u64 x 255 ∧ Go.bits .and .u64 x 255 ≤ 255 := by
  have e : ∀ z : Nat, z ≤ 255 → IntKind.u64.wrap (z : Int) = (z : Int) := by
    intro z hz; simp only [IntKind.wrap, IntKind.bits, IntKind.signed]; simp; omega
  have hz : ∀ y : Nat, y &&& 255 ≤ 255 := fun y => Nat.and_le_right
  have : ∃ z : Nat, z ≤ 255 ∧ Go.bits .and .u64 x 255 = (z : Int) := by
    refine ⟨_, hz (x % 18446744073709551616).toNat, ?_⟩
    rw [← e _ (hz _)]
    simp only [Go.bits, IntKind.bits]
    rfl
  obtain ⟨z, h1, h2⟩ := this
  rw [h2]; omega
theorem nextD {l : List Int} (hl : BytD l) (a s : Int) (h0 : 0 ≤ a) (h1 : a ≤ 4611686018427387904) :
    ∃ r s', spec_l1Cur_next.f 1 l a s = some (r, a + 1, s') ∧ 0 ≤ r ∧ r ≤ 255 := by
  unfold spec_l1Cur_next.f
  have e1 : wrap64 (a + 1) = a + 1 := wD (by omega) (by omega)
  by_cases c : a < (l.length : Int)
  · have hb := rdD hl a.toNat (by omega)
    rw [show ((a.toNat : Nat) : Int) = a from by omega] at hb
    rw [if_pos c, if_pos h0, spec_l1Cur_next.j0, e1, if_pos (by omega), wD (x := rd l a) (by omega) (by omega)]
    exact ⟨_, _, rfl, hb.1, hb.2⟩
  · rw [if_neg c, spec_l1Cur_next.j0, e1, if_neg (by omega)]
    refine ⟨_, _, rfl, ?_⟩
    have hb := and255D (IntKind.u64.wrap (IntKind.u64.wrap (IntKind.u64.wrap (s * 6364136223846793005) + IntKind.u64.wrap 0) + 1442695040888963407) / 1099511627776)
    rw [wD (by omega) (by omega)]
    exact hb
theorem pickOk {l : List Int} (hl : BytD l) (a s n : Int) (h0 : 0 ≤ a) (h1 : a ≤ 4611686018427387900) :
    ∃ r a' s', spec_l1Cur_pick.f 1 l a s n = some (r, a', s') ∧ 0 ≤ r ∧ (r < n ∨ n ≤ 1 ∧ r = 0) ∧ a ≤ a' ∧ a' ≤ a + 2 := by
  unfold spec_l1Cur_pick.f
  by_cases c : n ≤ 1
  · rw [if_pos c]; exact ⟨_, _, _, rfl, by omega, .inr ⟨c, rfl⟩, by omega, by omega⟩
  · obtain ⟨r, s1, e1, g0, g1⟩ := nextD hl a s h0 (by omega)
    rw [if_neg c, e1]
    simp only [Option.bind_some]
    by_cases c2 : n > 200
    · obtain ⟨r2, s2, e2, k0, k1⟩ := nextD hl (a + 1) s1 (by omega) (by omega)
      rw [if_pos c2, e2]
      simp only [Option.bind_some]
      rw [if_neg (by omega), wD (x := r * 256) (by omega) (by omega), wD (by omega) (by omega)]
      exact ⟨_, _, _, rfl, Int.tmod_nonneg _ (by omega), .inl (Int.tmod_lt_of_pos _ (by omega)), by omega, by omega⟩
    · rw [if_neg c2, if_neg (by omega)]
      exact ⟨_, _, _, rfl, Int.tmod_nonneg _ (by omega), .inl (Int.tmod_lt_of_pos _ (by omega)), by omega, by omega⟩
/-- What was drawn so far: at most n steps of the state at g; wS is where the call began. -/
structure Dr (w0 wS W : World) (g : Nat) (cs : List Int) (n : Nat) : Prop where
  byt : BytD cs
  cur : ∃ a b, IsS68 w0 W g cs a b ∧ 0 ≤ a ∧ a ≤ (n : Int)
  low : Below w0.heap.size w0 W
  keep : KeepBut wS W g none
/-- A block that was made since the call began. -/
structure Fa (w0 wS : World) (g b : Nat) : Prop where
  s : wS.heap.size ≤ b
  l : w0.heap.size ≤ b
  n : b ≠ g
  m : g ≠ b
section
variable {w0 wS W W' : World} {g n m b : Nat} {cs : List Int}
theorem Dr.lt (h : Dr w0 wS W g cs n) : g < W.heap.size := by obtain ⟨_, ⟨a, s, hi, _⟩, _, _⟩ := h; exact hi.lt
theorem Dr.ge (h : Dr w0 wS W g cs n) : w0.heap.size ≤ g := by obtain ⟨_, ⟨a, s, hi, _⟩, _, _⟩ := h; exact hi.ge
theorem Dr.step (h : Dr w0 wS W g cs n) (hb : Below W.heap.size W W') : Dr w0 wS W' g cs n := by
  obtain ⟨hy, ⟨a, s, hi, ha⟩, hl, hk⟩ := h
  exact ⟨hy, ⟨a, s, hi.below hb, ha⟩, below_step hl hb, hk.trans (KeepBut.of_below hb g none) (.inl rfl)⟩
theorem Dr.alloc (h : Dr w0 wS W g cs n) (o : Obj) : Dr w0 wS (W.alloc o) g cs n := h.step (below_alloc (Below.refl _ _) o)
theorem Dr.drewN (h : Dr w0 wS W g cs n) (k : Nat) : Dr w0 wS (W.drewN k) g cs n := ⟨h.byt, h.cur, pw_below_drewN h.low k, keep_drewN h.keep k⟩
theorem Dr.drew (h : Dr w0 wS W g cs n) : Dr w0 wS W.drew g cs n := ⟨h.byt, h.cur, below_drew1 h.low, keep_drew h.keep⟩
theorem Dr.far (h : Dr w0 wS W g cs n) {j : Nat} (hf : Fa w0 wS g b) (u : Value) : Dr w0 wS (W.setCell ⟨b, j, none⟩ u) g cs n := by
  obtain ⟨hy, ⟨a, s, hi, ha⟩, hl, hk⟩ := h
  exact ⟨hy, ⟨a, s, hi.far (p := ⟨b, j, none⟩) hf.m u, ha⟩, below_set hl hf.l, keep_far (p := ⟨b, j, none⟩) hk hf.s u⟩
theorem Dr.new (h : Dr w0 wS W g cs n) (hb : b = W.heap.size) : Fa w0 wS g b := by
  subst hb; have := h.lt; exact ⟨keep_size h.keep, h.low.size, by omega, by omega⟩
theorem Dr.here (h : Dr w0 wS W g cs n) : Dr w0 W W g cs n := ⟨h.byt, h.cur, h.low, KeepBut.refl _ _ _⟩
theorem Dr.join (h : Dr w0 wS W g cs n) (k : Dr w0 W W' g cs m) : Dr w0 wS W' g cs m := ⟨k.byt, k.cur, k.low, h.keep.trans k.keep (.inl rfl)⟩
theorem Dr.more (h : Dr w0 wS W g cs n) (k : n ≤ m) : Dr w0 wS W g cs m := by
  obtain ⟨hy, ⟨a, s, hi, h0, ha⟩, hl, hk⟩ := h; exact ⟨hy, ⟨a, s, hi, h0, by omega⟩, hl, hk⟩
theorem Dr.blk {o : Obj} (k : Dr w0 W W' g cs m) (hb : W.heap[b]? = some o) (hn : b ≠ g) : W'.heap[b]? = some o := KeepBut.blk k.keep hb hn (by simp)
theorem Dr.row {α : Type} {d : Kd α} {e base : Nat} {ok : Nat → Prop} {v : Value} {xs : List α} {k' : Nat} (h : Dr w0 wS W g cs n) (k : Dr w0 W W' g cs k') (hr : d.R e W base ok v xs) (ht : ∀ q, q ∈ e :: d.E → q ≠ 68) : d.R e W' base ok v xs := by
  obtain ⟨_, ⟨a, s, hi, _⟩, _, _⟩ := h
  exact Kd.R_mono (Kd.R_keep (hi.apart hr ht) k.keep (fun _ h => h.2)) (fun _ h => h.1)
theorem Dr.own_ne {α : Type} {d : Kd α} {e base : Nat} {ok : Nat → Prop} {v : Value} {xs : List α} (h : Dr w0 wS W g cs n) (hr : d.R e W base ok v xs) (ht : e ≠ 68) : some g ≠ v.ownBlock := by
  obtain ⟨_, ⟨a, s, hi, _⟩, _, _⟩ := h; exact hi.own_ne hr ht
theorem Dr.grown {row : Option Nat} (h : Dr w0 wS W g cs n) (hl : w0.heap.size ≤ wS.heap.size) (hb : Below wS.heap.size W W') (hg : W.grownBy W' row) (hne : some g ≠ row) (hr : row = none ∨ ∃ b, row = some b ∧ wS.heap.size ≤ b) : Dr w0 wS W' g cs n := by
  obtain ⟨hy, ⟨a, s, hi, ha⟩, hl2, hk⟩ := h
  exact ⟨hy, ⟨a, s, hi.grown hg hne, ha⟩, below_weaken hl2 hl hb, hk.trans (KeepBut.of_grown hg g) hr⟩
theorem dr {W0 : World} (h0 : Dr w0 wS W0 g cs n) (h : Dr w0 wS W0 g cs n → Dr w0 wS W g cs n := by (intro h_; repeat (first | (with_reducible first | exact h_ | apply Dr.alloc | apply Dr.drewN | apply Dr.drew | refine Dr.far ?_ (Aside0.out (by assumption)) _) | exact h_))) : Dr w0 wS W g cs n := h h0
theorem pickD (N : Int) (h : Dr w0 W W g cs n) (hn : n ≤ 4000000000) : Calls Tryz.prog 86 #[.pointer (some ⟨g, 0, none⟩), .int .i64 N] W fun e w' => ∃ r : Int, e = .returned (.int .i64 r) ∧ 0 ≤ r ∧ (r < N ∨ N ≤ 1 ∧ r = 0) ∧ Dr w0 W w' g cs (n + 2) := by
  obtain ⟨hy, ⟨a, s, hi, ha, ha2⟩, hl, hk⟩ := h
  obtain ⟨r, a', s', e, h0, h1, g0, g1⟩ := pickOk hy a s N ha (by omega)
  refine (spec_l1Cur_pick.calls 1 g cs a s N r a' s' w0 W hi hl e).mono ?_
  rintro e w' ⟨rfl, hi', hb', hk'⟩
  exact ⟨r, rfl, h0, h1, hy, ⟨a', s', hi', by omega, by omega⟩, hb', hk'⟩
theorem oneD (N : Int) (h : Dr w0 W W g cs n) (hn : n ≤ 4000000000) : Calls Tryz.prog 85 #[.pointer (some ⟨g, 0, none⟩), .int .i64 N] W fun e w' => ∃ r : Bool, e = .returned (.bool r) ∧ Dr w0 W w' g cs (n + 2) := by
  obtain ⟨hy, ⟨a, s, hi, ha, ha2⟩, hl, hk⟩ := h
  obtain ⟨r, a', s', e, h0, h1, g0, g1⟩ := pickOk hy a s N ha (by omega)
  refine (spec_l1Cur_one.calls 1 g cs a s N (r == 0) a' s' w0 W hi hl (by unfold spec_l1Cur_one.f; rw [e]; rfl)).mono ?_
  rintro e w' ⟨rfl, hi', hb', hk'⟩
  exact ⟨_, rfl, hy, ⟨a', s', hi', by omega, by omega⟩, hb', hk'⟩
theorem ofD {xs : List ByteArray} {A : Option Addr} {c k base : Nat} {ok : Nat → Prop} (hx : 0 < xs.length) (h : Dr w0 W W g cs n) (hr : Kd.R Kd.string 9 W base ok (.slice A k c) xs) (hn : n ≤ 4000000000) :
    Calls Tryz.prog 83 #[.pointer (some ⟨g, 0, none⟩), .slice A k c] W fun e w' => ∃ r, e = .returned (.string r) ∧ r ∈ xs ∧ Dr w0 W w' g cs (n + 2) := by
  obtain ⟨hy, ⟨a, s, hi, ha, ha2⟩, hl, hk⟩ := h
  obtain ⟨rfl, hc, hC⟩ := Kd.R_reads' hr
  obtain ⟨r, a', s', e, h0, h1, g0, g1⟩ := pickOk hy a s (xs.length : Int) ha (by omega)
  refine (spec_l1Cur_of.calls 1 g cs a s A c xs (rdOf ByteArray.empty xs r) a' s' w0 W hi hl hC hc (far_slice (hi.own_ne hr (by decide))) (by unfold spec_l1Cur_of.f; rw [e]; simp only [Option.bind_some]; rw [if_pos h0, if_pos (by omega)])).mono ?_
  rintro e w' ⟨rfl, hi', hb', hk'⟩
  refine ⟨_, rfl, ?_, hy, ⟨a', s', hi', by omega, by omega⟩, hb', hk'⟩
  rw [rdOf, List.getD_eq_getElem?_getD, List.getElem?_eq_getElem (by omega)]; exact List.getElem_mem _
theorem amongD {xs : List Int} {A : Option Addr} {c k base : Nat} {ok : Nat → Prop} (hx : 0 < xs.length) (h : Dr w0 W W g cs n) (hr : Kd.R (Kd.int .i64) 3 W base ok (.slice A k c) xs) (hn : n ≤ 4000000000) :
    Calls Tryz.prog 88 #[.pointer (some ⟨g, 0, none⟩), .slice A k c] W fun e w' => ∃ r, e = .returned (.int .i64 r) ∧ r ∈ xs ∧ Dr w0 W w' g cs (n + 2) := by
  obtain ⟨hy, ⟨a, s, hi, ha, ha2⟩, hl, hk⟩ := h
  obtain ⟨rfl, hc, hC⟩ := Kd.R_reads' hr
  obtain ⟨r, a', s', e, h0, h1, g0, g1⟩ := pickOk hy a s (xs.length : Int) ha (by omega)
  refine (spec_l1Cur_among.calls 1 g cs a s A c xs (rd xs r) a' s' w0 W hi hl hC hc (far_slice (hi.own_ne hr (by decide))) (by unfold spec_l1Cur_among.f; rw [e]; simp only [Option.bind_some]; rw [if_pos h0, if_pos (by omega)])).mono ?_
  rintro e w' ⟨rfl, hi', hb', hk'⟩
  refine ⟨_, rfl, ?_, hy, ⟨a', s', hi', by omega, by omega⟩, hb', hk'⟩
  rw [rd, List.getD_eq_getElem?_getD, List.getElem?_eq_getElem (by omega)]; exact List.getElem_mem _
theorem reps_str {R : ByteArray → List Value → Prop} (hR : ∀ x, R x [.string x]) : ∀ xs : List ByteArray, Reps R 1 xs (xs.map Value.string)
  | [] => Reps.none _ _
  | x :: xs => Reps.one (hR x) (reps_str hR xs)
theorem reps_int {R : Int → List Value → Prop} (hR : ∀ x, R x [.int .i64 x]) : ∀ xs : List Int, Reps R 1 xs (xs.map (Value.int .i64))
  | [] => Reps.none _ _
  | x :: xs => Reps.one (hR x) (reps_int hR xs)
variable {ops : Array Oper} {Q : Exit → Act → World → Prop} {rest : List Oper} {o o2 : Oper} {a : Act}
/-- A list of texts, and one of them drawn. -/
theorem ofL (N N2 : Tmp) (xs : List ByteArray) (B : Nat) {ar : Array Operand} {ts : Array TypeId} (hd : Dr w0 wS W g cs n) (hn : n ≤ 4000000000)
    (h : ∀ A c r w1, r.size ≤ B → Dr w0 W w1 g cs (n + 2) → wpList Tryz.prog ops Q rest ((a.put (some N) (.slice A xs.length c)).put (some N2) (.string r)) w1)
    (h1 : o.dst = some N := by rfl) (h2 : o.guard = none := by rfl) (h3 : o2.dst = some N2 := by rfl) (h4 : o2.guard = none := by rfl)
    (hop : o2.op = .call { callee := .value (.func 83), args := ar, argTypes := ts } := by rfl)
    (hB : ∀ x ∈ xs, x.size ≤ B := by decide) (hx : 0 < xs.length := by decide) (hm : xs.length ≤ 9223372036854775807 := by decide)
    (hrun : (execOp a.eval o).run Tryz.prog W = .ok (.value (.slice (some ⟨W.heap.size, 0, none⟩) xs.length xs.length)) (W.alloc (.cells (xs.map Value.string).toArray 9)) := by (first | (go_simp; done) | (go_simp; rfl)))
    (hargs : ∀ A c, ar.map (a.put (some N) (.slice A xs.length c)).eval = #[.pointer (some ⟨g, 0, none⟩), .slice A xs.length c] := by (intro A c; (try simp only [List.map_toArray, List.map_cons, List.map_nil]); first | done | rfl)) : wpList Tryz.prog ops Q (o :: o2 :: rest) a W := by
  refine Kd.R_lit Kd.string W.heap.size 9 h2 h1 (xs := xs) (inner := xs.map Value.string) (ok := fun _ => True) (okp := fun _ => True) hrun (show Reps (Kd.string.M W W.heap.size fun _ => True) 1 xs _ from reps_str (fun x => show Kd.string.M W W.heap.size (fun _ => True) x [.string x] from rfl) xs) (fun _ hk => hk) trivial (Below.refl _ _) (Nat.le_refl _) hm ?_
  intro v w1 hr hb _ _
  obtain ⟨A, c, rfl⟩ := Kd.R_slice hr
  rw [h1]
  refine gL 83 Tryz.func83 (some N2) #[.pointer (some ⟨g, 0, none⟩), .slice A xs.length c] ?_ hop h3 h4 (by kernel_rfl) rfl (hargs A c)
  refine (ofD hx (hd.here.step hb).here hr hn).mono ?_
  rintro e w2 ⟨r, rfl, hm, hk⟩
  exact ⟨_, rfl, h A c r w2 (hB r hm) ((hd.here.step hb).join hk)⟩
/-- A list of numbers, and one of them drawn. -/
theorem amongL (N N2 : Tmp) (xs : List Int) (B : Int) {ar : Array Operand} {ts : Array TypeId} (hd : Dr w0 wS W g cs n) (hn : n ≤ 4000000000)
    (h : ∀ A c r w1, 0 ≤ r ∧ r ≤ B → Dr w0 W w1 g cs (n + 2) → wpList Tryz.prog ops Q rest ((a.put (some N) (.slice A xs.length c)).put (some N2) (.int .i64 r)) w1)
    (h1 : o.dst = some N := by rfl) (h2 : o.guard = none := by rfl) (h3 : o2.dst = some N2 := by rfl) (h4 : o2.guard = none := by rfl)
    (hop : o2.op = .call { callee := .value (.func 88), args := ar, argTypes := ts } := by rfl)
    (hB : ∀ x ∈ xs, 0 ≤ x ∧ x ≤ B := by decide) (hx : 0 < xs.length := by decide) (hm : xs.length ≤ 9223372036854775807 := by decide)
    (hrun : (execOp a.eval o).run Tryz.prog W = .ok (.value (.slice (some ⟨W.heap.size, 0, none⟩) xs.length xs.length)) (W.alloc (.cells (xs.map (Value.int .i64)).toArray 3)) := by (first | (go_simp; done) | (go_simp; rfl)))
    (hargs : ∀ A c, ar.map (a.put (some N) (.slice A xs.length c)).eval = #[.pointer (some ⟨g, 0, none⟩), .slice A xs.length c] := by (intro A c; (try simp only [List.map_toArray, List.map_cons, List.map_nil]); first | done | rfl)) : wpList Tryz.prog ops Q (o :: o2 :: rest) a W := by
  refine Kd.R_lit (Kd.int .i64) W.heap.size 3 h2 h1 (xs := xs) (inner := xs.map (Value.int .i64)) (ok := fun _ => True) (okp := fun _ => True) hrun (show Reps ((Kd.int .i64).M W W.heap.size fun _ => True) 1 xs _ from reps_int (fun x => show (Kd.int .i64).M W W.heap.size (fun _ => True) x [.int .i64 x] from rfl) xs) (fun _ hk => hk) trivial (Below.refl _ _) (Nat.le_refl _) hm ?_
  intro v w1 hr hb _ _
  obtain ⟨A, c, rfl⟩ := Kd.R_slice hr
  rw [h1]
  refine gL 88 Tryz.func88 (some N2) #[.pointer (some ⟨g, 0, none⟩), .slice A xs.length c] ?_ hop h3 h4 (by kernel_rfl) rfl (hargs A c)
  refine (amongD hx (hd.here.step hb).here hr hn).mono ?_
  rintro e w2 ⟨r, rfl, hm, hk⟩
  exact ⟨_, rfl, h A c r w2 (hB r hm) ((hd.here.step hb).join hk)⟩
end
/-! ### spec_l1Cur_field: function 114 -/
theorem fieldD {w0 w : World} {g n : Nat} {cs : List Int} (h : Dr w0 w w g cs n) (hn : n ≤ 3000000000) :
    Calls Tryz.prog 114 #[.pointer (some ⟨g, 0, none⟩)] w fun e w' => ∃ a b, e = .returned (.agg #[.string a, .string b]) ∧ a.size ≤ 6 ∧ b.size ≤ 5 ∧ Dr w0 w w' g cs (n + 8) := by
  have hu75 := Tryz.underlying75
  have HD := ak h
  clear h
  go_enter Tryz.func114, Tryz.ntmps114
  go_wp2_with (first
    | ((with_reducible refine gate_dst (N := 2) rfl ?_); refine bE 2 #[.string (⟨#[]⟩ : ByteArray), .string (⟨#[]⟩ : ByteArray)] 75 ?_; intro p2 hg w1 hbox hb; have FA2 := ak ((dr HD.out).new hg); have BK2 := ak hbox; replace HD := ak ((dr HD.out).step hb); clear hb hbox hg)
    | ((with_reducible refine gate_dst (N := 5) rfl ?_); refine ofL 5 6 [⟨#[65, 103, 101]⟩, ⟨#[97, 103, 101]⟩, ⟨#[69, 84, 97, 103]⟩, ⟨#[86, 97, 114, 121]⟩, ⟨#[88, 45, 65]⟩, ⟨#[65, 99, 99, 101, 112, 116]⟩] 6 (dr HD.out) (by omega) ?_; intro A5 c5 r6 w2 hr6 hk; replace BK2 := ak (hk.blk (bq BK2.out) FA2.out.n); replace HD := ak ((dr HD.out).join hk); clear hk)
    | ((with_reducible refine gate_dst (N := 8) rfl ?_); refine ofL 8 9 [⟨#[49]⟩, ⟨#[97, 44, 32, 98]⟩, ⟨#[]⟩, ⟨#[34, 120, 34]⟩, ⟨#[122, 59, 113, 61, 49]⟩] 5 (dr HD.out) (by omega) ?_; intro A8 c8 r9 w3 hr9 hk; replace BK2 := ak (hk.blk (bq BK2.out) FA2.out.n); replace HD := ak ((dr HD.out).join hk); clear hk)
    | ((with_reducible refine gate_dst (N := 3) rfl ?_); refine bE 3 #[.string (⟨#[]⟩ : ByteArray), .string (⟨#[]⟩ : ByteArray)] 75 ?_; intro p3 hg w4 hbox hb; have FA3 := ak ((dr HD.out).new hg); have NB32 := ng hg BK2.out; have NB23 := nl hg BK2.out; have BK3 := ak hbox; replace BK2 := ak (blk_below (bq BK2.out) hb); replace HD := ak ((dr HD.out).step hb); clear hb hbox hg; have hnb := NB32.out; have hnc := NB23.out; obtain ⟨hcz0, hcz1, hfz0, hfz1⟩ := b2 BK3.out)
    | ((with_reducible refine gate_callee (f := 86) rfl ?_); refine gL 86 Tryz.func86 (some 12) #[.pointer (some ⟨g, 0, none⟩), .int .i64 60] ?_; refine (pickD 60 (dr HD.out).here (by omega)).mono ?_; rintro e w5 ⟨r12, rfl, hp0, hp1, hk⟩; refine ⟨_, rfl, ?_⟩; replace BK2 := ak (hk.blk (bq BK2.out) FA2.out.n); replace BK3 := ak (hk.blk (bq BK3.out) FA3.out.n); replace HD := ak ((dr HD.out).join hk); clear hk; obtain ⟨hcz0, hcz1, hfz0, hfz1⟩ := b2 BK3.out; obtain ⟨hdz0, hdz1, hez0, hez1⟩ := b2 BK2.out)
    | ((with_reducible refine gate_dst (N := 16) rfl ?_); refine ofL 16 17 [⟨#[]⟩, ⟨#[97, 32, 98]⟩] 6 (dr HD.out) (by omega) ?_; intro A16 c16 r17 w6 hr17 hk; replace BK2 := ak (hk.blk (bq BK2.out) FA2.out.n); replace BK3 := ak (hk.blk (bq BK3.out) FA3.out.n); replace HD := ak ((dr HD.out).join hk); clear hk; obtain ⟨hcz0, hcz1, hfz0, hfz1⟩ := b2 BK3.out; obtain ⟨hdz0, hdz1, hez0, hez1⟩ := b2 BK2.out)
    | ((with_reducible refine gate_dst (N := 22) rfl ?_); refine ofL 22 23 [⟨#[32, 120]⟩, ⟨#[120, 32]⟩, ⟨#[10]⟩] 5 (dr HD.out) (by omega) ?_; intro A22 c22 r23 w7 hr23 hk; replace BK2 := ak (hk.blk (bq BK2.out) FA2.out.n); replace BK3 := ak (hk.blk (bq BK3.out) FA3.out.n); replace HD := ak ((dr HD.out).join hk); clear hk; obtain ⟨hcz0, hcz1, hfz0, hfz1⟩ := b2 BK3.out; obtain ⟨hdz0, hdz1, hez0, hez1⟩ := b2 BK2.out))
  all_goals
    refine bodyPost_ret (results_cell_row rfl _ _ p2 75 #[.string _, .string _] (0, 0) _ rfl (bq BK2.out) Tryz.underlying75 rfl (by kernel_rfl)) rfl ?_
    exact ⟨_, _, rfl, by assumption, by assumption, (dr HD.out).more (by omega)⟩
/-! ### spec_l1Cur_fields: function 84 -/
/-- Small fields. -/
def SmF (l : List S75) : Prop := ∀ f ∈ l, f.f0.size ≤ 14 ∧ f.f1.size ≤ 20
theorem fieldsD {w0 w : World} {g n : Nat} {cs : List Int} (h : Dr w0 w w g cs n) (hn : n ≤ 2000000000) :
    Calls Tryz.prog 84 #[.pointer (some ⟨g, 0, none⟩)] w fun e w' => ∃ v l, e = .returned v ∧ Kd.R k75 75 w' w.heap.size (fun _ => True) v l ∧ l.length ≤ 41 ∧ SmF l ∧ Dr w0 w w' g cs (n + 400) := by
  have HD := ak h
  have HL := ak h.low.size
  clear h
  go_enter Tryz.func84, Tryz.ntmps84
  go_upto_if 8 with (first
    | ((with_reducible refine gate_callee (f := 86) rfl ?_); refine gL 86 Tryz.func86 (some 6) #[.pointer (some ⟨g, 0, none⟩), .int .i64 6] ?_; refine (pickD 6 (dr HD.out).here (by omega)).mono ?_; rintro e w5 ⟨r6, rfl, hp0, hp1, hk⟩; refine ⟨_, rfl, ?_⟩; replace HD := ak ((dr HD.out).join hk); clear hk)
    | ((with_reducible refine gate_callee (f := 85) rfl ?_); refine gL 85 Tryz.func85 (some 8) #[.pointer (some ⟨g, 0, none⟩), .int .i64 40] ?_; refine (oneD 40 (dr HD.out).here (by omega)).mono ?_; rintro e w6 ⟨r8, rfl, hk⟩; refine ⟨_, rfl, ?_⟩; replace HD := ak ((dr HD.out).join hk); clear hk))
  (try simp only [Act.put, List.setIfInBounds_toArray, List.set_cons_zero, List.set_cons_succ])
  go_cut [4] (fun v4 wc => ∃ x : Int, v4 = .int .i64 x ∧ Aside0 (0 ≤ x ∧ x ≤ 41) ∧ Aside0 (Dr w0 w wc g cs (n + 6)))
  case first =>
    cases r8 with
    | true =>
      go_wp2_with (first | ((with_reducible refine gate_callee (f := 86) rfl ?_); refine gL 86 Tryz.func86 (some 10) #[.pointer (some ⟨g, 0, none⟩), .int .i64 2] ?_; refine (pickD 2 (dr HD.out).here (by omega)).mono ?_; rintro e w9 ⟨r10, rfl, hq0, hq1, hk⟩; refine ⟨_, rfl, ?_⟩; replace HD := ak ((dr HD.out).join hk); clear hk))
      go_meet
      case rel => exact ⟨_, by first | rfl | (simp; done), ⟨by (try unfold wrap64); omega⟩, ⟨(dr HD.out).more (by omega)⟩⟩
    | false =>
      go_wp2
      go_meet
      case rel => exact ⟨_, by first | rfl | (simp; done), ⟨by omega⟩, ⟨(dr HD.out).more (by omega)⟩⟩
  case rest =>
    obtain ⟨x0, rfl, HX, HD⟩ := hcut
    go_wp2
    go_loopg [3, 4] 41 (fun kq v3 v4 w' => ∃ (l : List S75) (x : Int), v4 = .int .i64 x ∧ Aside0 (0 ≤ x ∧ x ≤ (kq : Int) ∧ (l.length : Int) + x ≤ 41 ∧ SmF l) ∧ Aside0 (Kd.R k75 75 w' w.heap.size (fun _ => True) v3 l) ∧ Aside0 (Dr w0 w w' g cs (n + 6 + 8 * l.length)))
    case atStart => exact ⟨[], x0, rfl, ⟨by have := HX.out; refine ⟨by omega, by omega, by simp only [List.length_nil]; omega, fun f hf => absurd hf (by simp)⟩⟩, ⟨Kd.R_nil _ _ _ _ _⟩, ⟨(dr HD.out).more (by omega)⟩⟩
    case round =>
      obtain ⟨l, x, rfl, HY, HO, HD⟩ := hrel
      by_cases c : 0 < x
      · have cb : decide (0 < x) = true := decide_eq_true c
        go_wp2_with (first
          | ((with_reducible refine gate_callee (f := 114) rfl ?_); refine gL 114 Tryz.func114 (some 18) #[.pointer (some ⟨g, 0, none⟩)] ?_; refine (fieldD (dr HD.out).here (by have := HY.out; omega)).mono ?_; rintro e w7 ⟨fa, fb, rfl, ha, hb, hk⟩; refine ⟨_, rfl, ?_⟩; replace HO := ak (Dr.row (dr HD.out) hk (kr HO.out) (by decide)); replace HD := ak ((dr HD.out).join hk); clear hk)
          | ((with_reducible refine gate_builtin (b := .append) (xs := #[.tmp 16, .tmp 19]) rfl ?_); at_builtin; refine Kd.R_append k75 w.heap.size rfl (.tmp 16) (.tmp 19) 22 75 (.agg #[(.string ⟨#[]⟩), (.string ⟨#[]⟩)]) 32 rfl Tryz.underlying22 info75 rfl (by decide) (by omega) u3 l (⟨fa, fb⟩ : S75) [.string fa, .string fb] (fun _ => True) (fun _ => False) rfl rfl ?aP (fun _ hk => hk.elim) ?aF ?aO (Below.refl _ _) ?aS ?aL ?_; (case aP => exact k75_mkM _ _ _ (⟨fa, fb⟩ : S75)); (case aF => exact (fun _ _ => trivial)); (case aO => exact (kr HO.out)); (case aS => exact (keep_size (dr HD.out).keep)); (case aL => have := HY.out; omega); intro v20 w8 ho hb2 hg hat; replace HD := ak ((dr HD.out).grown HL.out hb2 hg ((dr HD.out).own_ne HO.out (by decide)) (Kd.R_base2 HO.out)); replace HO := ak ho; clear ho hb2 hg hat))
        go_roundg (gk - 1)
        case measure => have := HY.out; omega
        case rel => exact ⟨l ++ [⟨fa, fb⟩], _, by first | rfl | (simp; done), ⟨by have := HY.out; refine ⟨by unfold wrap64; omega, by unfold wrap64; omega, by simp only [List.length_append, List.length_cons, List.length_nil]; unfold wrap64; omega, fun f hf => (List.mem_append.mp hf).elim (this.2.2.2 f) (fun hf => by simp only [List.mem_singleton] at hf; subst hf; exact ⟨by dsimp only; omega, by dsimp only; omega⟩)⟩⟩, ⟨kr HO.out⟩, ⟨(dr HD.out).more (by simp only [List.length_append, List.length_cons, List.length_nil]; omega)⟩⟩
      · have cb : decide (0 < x) = false := decide_eq_false c
        go_wp2
        go_ret
        have := HY.out
        exact ⟨_, by first | rfl | (simp [*] <;> rfl), l, kr HO.out, by omega, this.2.2.2, (dr HD.out).more (by omega)⟩
end Go.Proofs.YthneflfbafieeaaGreatDoor.PFnTorn
