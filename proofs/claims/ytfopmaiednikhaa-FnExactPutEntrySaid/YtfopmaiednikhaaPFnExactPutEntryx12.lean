-- written by a program of this session (wip/tool)
import Derived.Test.YtfopmaiednikhaaPFnExactPutEntryx
import Derived.Test.YtfopmaiednikhaaVOwn0
import Derived.Test.YtfopmaiednikhaaVOwnOpen
import Derived.WalkKit
import Derived.BigCall
import Derived.Lib.SliceRun
import Derived.Deep.RegionLaw
import Derived.Maps.OwnSet
import Derived.Maps.OwnOps
import Derived.Maps.Views
import Derived.Test.YtfopmaiednikhaaVWZeros
import Derived.Test.YtfopmaiednikhaaVWArr
import Derived.Test.YtfopmaiednikhaaVOwnShort
namespace Go.Proofs.Ytfopmaiednikhaa.PFnExactPutEntry
open Go.RowKit Go.Proofs.YtfopmaiednikhaaW.PrintWords Go.Proofs.YtfopmaiednikhaaW.PrintLast Go.Proofs.YtfopmaiednikhaaW.PrintMore Go.Shelf Go.Proofs.YtfopmaiednikhaaOwn
attribute [local go_sem] max2_int min2_int max_two min_two max_three min_three max_four min_four   -- for this text's walks alone
set_option linter.unusedVariables false
set_option linter.unusedSimpArgs false

/-! ### laws_FnExactPutEntry: function 5 -/
structure Pj where
 Ax : Option Addr
 cx : Nat
 Ay : Option Addr
 cy : Nat
 A3 : Option Addr
 c3 : Nat
 A4 : Option Addr
 c4 : Nat
 A5 : Option Addr
 c5 : Nat
 g : Nat
set_option maxHeartbeats 8000000 in
set_option maxRecDepth 100000 in
theorem laws_FnExactPutEntry.end1 (a0_0 : Int) (a0_1 : Int) (A0_2 : Option Addr) (c0_2 : Nat) (l0_2 : List S49) (A0_3 : Option Addr) (c0_3 : Nat) (l0_3 : List S49) (a1_0 : ByteArray) (a1_1 : ByteArray) (w : World) (hr2 : Kd.C k49 w A0_2 l0_2.length l0_2) (hc2 : l0_2.length ≤ c0_2) (hr3 : Kd.C k49 w A0_3 l0_3.length l0_3) (hc3 : l0_3.length ≤ c0_3) (k : Nat) (r1 : Int) (z1 : laws_szSegmented.f k a0_0 a0_1 l0_2 l0_3 1048576 = some r1) (y1 : r1 < 0) :
 Calls Try.prog 5 #[.agg #[.int .i64 a0_0, .int .i64 a0_1, .slice A0_2 l0_2.length c0_2, .slice A0_3 l0_3.length c0_3], .agg #[.string a1_0, .string a1_1]] w fun e w' => e = .returned (.bool true) ∧ Below w.heap.size w w' := by
 have HR2 := Aside0.mk hr2
 have HC2 := Aside0.mk hc2
 have HR3 := Aside0.mk hr3
 have HC3 := Aside0.mk hc3
 clear hr2 hc2 hr3 hc3
 have HB := Aside0.mk (Below.refl w.heap.size w)
 have Z1 := Aside0.mk z1
 clear z1
 have y1b : decide (r1 < 0) = true := decide_eq_true y1
 go_enter Try.func5, Try.ntmps5
 go_wp2_with (first
   | ((with_reducible refine gate_dst (N := 2) rfl ?_); refine box_event ?hg (N := 2) ?hd (cs := #[.int .i64 a0_0, .int .i64 a0_1, .slice A0_2 l0_2.length c0_2, .slice A0_3 l0_3.length c0_3]) (t := 24) ?hr ?_; (case hd => rfl); (case hg => rfl); (case hr => first | (go_simp; done) | (go_simp; rfl)); intro g_s hg x_s hbox hb; have G_s : Aside0 (w.heap.size ≤ g_s) := ⟨by rw [hg]; exact HB.out.size⟩; replace HB := Aside0.mk (below_step HB.out hb); have K_s := Aside0.mk hbox; clear hb hbox hg)
   | ((with_reducible refine gate_dst (N := 3) rfl ?_); refine box_event ?hg (N := 3) ?hd (cs := #[.string a1_0, .string a1_1]) (t := 49) ?hr ?_; (case hd => rfl); (case hg => rfl); (case hr => first | (go_simp; done) | (go_simp; rfl)); intro g_e hg x_e hbox hb; have G_e : Aside0 (w.heap.size ≤ g_e) := ⟨by rw [hg]; exact HB.out.size⟩; replace K_s := Aside0.mk (blk_below K_s.out hb); replace HB := Aside0.mk (below_step HB.out hb); have K_e := Aside0.mk hbox; clear hb hbox hg; have z_s_0 := (blk_cell K_s.out 0).trans rfl; have z_s_1 := (blk_cell K_s.out 1).trans rfl; have z_s_2 := (blk_cell K_s.out 2).trans rfl; have z_s_3 := (blk_cell K_s.out 3).trans rfl)
   | (go_at_call 9; (with_reducible refine (laws_szSegmented.calls k a0_0 a0_1 A0_2 c0_2 l0_2 A0_3 c0_3 l0_3 1048576 r1 _ (Kd.C_below HR2.out HB.out) HC2.out (Kd.C_below HR3.out HB.out) HC3.out Z1.out).mono ?_); rintro e W ⟨rfl, hb⟩; clear z_s_0 z_s_1 z_s_2 z_s_3; replace K_s := Aside0.mk (blk_below K_s.out hb); replace K_e := Aside0.mk (blk_below K_e.out hb); replace HB := Aside0.mk (below_step HB.out hb); clear hb))
 go_ret
 exact ⟨rfl, HB.out⟩
set_option maxHeartbeats 8000000 in
set_option maxRecDepth 100000 in
theorem laws_FnExactPutEntry.end2 (a0_0 : Int) (a0_1 : Int) (A0_2 : Option Addr) (c0_2 : Nat) (l0_2 : List S49) (A0_3 : Option Addr) (c0_3 : Nat) (l0_3 : List S49) (a1_0 : ByteArray) (a1_1 : ByteArray) (w : World) (hr2 : Kd.C k49 w A0_2 l0_2.length l0_2) (hc2 : l0_2.length ≤ c0_2) (hr3 : Kd.C k49 w A0_3 l0_3.length l0_3) (hc3 : l0_3.length ≤ c0_3) (k : Nat) (r1 r2 : Int) (z1 : laws_szSegmented.f k a0_0 a0_1 l0_2 l0_3 1048576 = some r1) (y1 : ¬ r1 < 0) (z2 : laws_szEntry.f a1_0 a1_1 r1 = some r2) (y2 : r2 < 0) :
 Calls Try.prog 5 #[.agg #[.int .i64 a0_0, .int .i64 a0_1, .slice A0_2 l0_2.length c0_2, .slice A0_3 l0_3.length c0_3], .agg #[.string a1_0, .string a1_1]] w fun e w' => e = .returned (.bool true) ∧ Below w.heap.size w w' := by
 have HR2 := Aside0.mk hr2
 have HC2 := Aside0.mk hc2
 have HR3 := Aside0.mk hr3
 have HC3 := Aside0.mk hc3
 clear hr2 hc2 hr3 hc3
 have HB := Aside0.mk (Below.refl w.heap.size w)
 have Z1 := Aside0.mk z1
 clear z1
 have Z2 := Aside0.mk z2
 clear z2
 have y1b : decide (r1 < 0) = false := decide_eq_false y1
 have y2b : decide (r2 < 0) = true := decide_eq_true y2
 go_enter Try.func5, Try.ntmps5
 go_wp2_with (first
   | ((with_reducible refine gate_dst (N := 2) rfl ?_); refine box_event ?hg (N := 2) ?hd (cs := #[.int .i64 a0_0, .int .i64 a0_1, .slice A0_2 l0_2.length c0_2, .slice A0_3 l0_3.length c0_3]) (t := 24) ?hr ?_; (case hd => rfl); (case hg => rfl); (case hr => first | (go_simp; done) | (go_simp; rfl)); intro g_s hg x_s hbox hb; have G_s : Aside0 (w.heap.size ≤ g_s) := ⟨by rw [hg]; exact HB.out.size⟩; replace HB := Aside0.mk (below_step HB.out hb); have K_s := Aside0.mk hbox; clear hb hbox hg)
   | ((with_reducible refine gate_dst (N := 3) rfl ?_); refine box_event ?hg (N := 3) ?hd (cs := #[.string a1_0, .string a1_1]) (t := 49) ?hr ?_; (case hd => rfl); (case hg => rfl); (case hr => first | (go_simp; done) | (go_simp; rfl)); intro g_e hg x_e hbox hb; have G_e : Aside0 (w.heap.size ≤ g_e) := ⟨by rw [hg]; exact HB.out.size⟩; replace K_s := Aside0.mk (blk_below K_s.out hb); replace HB := Aside0.mk (below_step HB.out hb); have K_e := Aside0.mk hbox; clear hb hbox hg; have z_s_0 := (blk_cell K_s.out 0).trans rfl; have z_s_1 := (blk_cell K_s.out 1).trans rfl; have z_s_2 := (blk_cell K_s.out 2).trans rfl; have z_s_3 := (blk_cell K_s.out 3).trans rfl)
   | (go_at_call 9; (with_reducible refine (laws_szSegmented.calls k a0_0 a0_1 A0_2 c0_2 l0_2 A0_3 c0_3 l0_3 1048576 r1 _ (Kd.C_below HR2.out HB.out) HC2.out (Kd.C_below HR3.out HB.out) HC3.out Z1.out).mono ?_); rintro e W ⟨rfl, hb⟩; clear z_s_0 z_s_1 z_s_2 z_s_3; replace K_s := Aside0.mk (blk_below K_s.out hb); replace K_e := Aside0.mk (blk_below K_e.out hb); replace HB := Aside0.mk (below_step HB.out hb); clear hb; have z_e_0 := (blk_cell K_e.out 0).trans rfl; have z_e_1 := (blk_cell K_e.out 1).trans rfl)
   | (go_at_call 24; (with_reducible refine (laws_szEntry.calls a1_0 a1_1 r1 r2 _ Z2.out).mono ?_); rintro e W ⟨rfl, hb⟩; clear z_e_0 z_e_1; replace K_s := Aside0.mk (blk_below K_s.out hb); replace K_e := Aside0.mk (blk_below K_e.out hb); replace HB := Aside0.mk (below_step HB.out hb); clear hb))
 go_ret
 exact ⟨rfl, HB.out⟩
theorem held15 (k : Nat) (a b : Int) (A : Option Addr) (n c : Nat) (l : List S45) (A' : Option Addr) (n' c' : Nat) (l' : List S45) (x r : Int) (w : World) (h : n = l.length ∧ n ≤ c ∧ Kd.C k45 w A l.length l) (h' : n' = l'.length ∧ n' ≤ c' ∧ Kd.C k45 w A' l'.length l') (hf : laws_heldSegmented.f k a b l l' x = some r) :
  Calls Try.prog 15 #[.agg #[.int .i64 a, .int .i64 b, .slice A n c, .slice A' n' c'], .int .i64 x] w fun e w' => e = .returned (.int .i64 r) ∧ Below w.heap.size w w' := by
 obtain ⟨rfl, h1, h2⟩ := h
 obtain ⟨rfl, h3, h4⟩ := h'
 exact laws_heldSegmented.calls k a b A c l A' c' l' x r w h2 h1 h4 h3 hf
theorem held29 (k : Nat) (A : Option Addr) (n c : Nat) (l : List S45) (x r : Int) (w : World) (h : n = l.length ∧ n ≤ c ∧ Kd.C k45 w A l.length l) (hf : laws_heldEntryS.f k l x = some r) :
  Calls Try.prog 29 #[.slice A n c, .int .i64 x] w fun e w' => e = .returned (.int .i64 r) ∧ Below w.heap.size w w' := by
 obtain ⟨rfl, h1, h2⟩ := h
 exact laws_heldEntryS.calls k A c l x r w h2 h1 hf
structure PutFacts (k : Nat) (a0_0 a0_1 : Int) (l0_2 l0_3 : List S49) (a1_0 a1_1 : ByteArray) (r1 r2 n o : Int) (t s : List S45) (q1 q2 : Int) (q3 q4 q5 : List S45) (q6 : Bool) (k1 : Int) (tm sm : List S45) (k2 : Int) (q3m q4m : List S45) (k3 : Int) (q5m : List S45) : Prop where
 z1 : laws_szSegmented.f k a0_0 a0_1 l0_2 l0_3 1048576 = some r1
 y1 : ¬ r1 < 0
 z2 : laws_szEntry.f a1_0 a1_1 r1 = some r2
 y2 : ¬ r2 < 0
 tS : laws_toSegmented.f k a0_0 a0_1 l0_2 l0_3 = some (n, o, t, s)
 sp : spec_PutEntry.f k n o t s a1_0 a1_1 = some (q1, q2, q3, q4, q5, q6)
 im : impl_PutEntry.f k n o t s a1_0 a1_1 = some (q1, q2, q3, q4, q5, q6)
 e1 : laws_eqSegmented.f k q1 q2 q3 q4 q1 q2 q3 q4 = some true
 e2 : laws_eqEntryS.f k q5 q5 = some true
 e3 : laws_eqSegmented.f k n o t s n o t s = some true
 m1 : laws_markSegmented.f k n o t s 1 = some (k1, tm, sm)
 y3 : ¬ k1 < 0
 m2 : laws_markSegmented.f k q1 q2 q3 q4 1 = some (k2, q3m, q4m)
 m3 : laws_markEntryS.f k q5 k2 = some (k3, q5m)
 h1 : laws_heldSegmented.f k q1 q2 q3m q4m 1 = some k2
 y4 : ¬ k2 < 0
 h2 : laws_heldEntryS.f k q5m k2 = some k3
 y5 : ¬ k3 < 0
theorem far_ {w w' : World} {B b' : Nat} {ok ok' : Nat → Prop} {v u : Value} {xs ys : List S45} (h : Kd.R k45 45 w B ok v xs) (h' : Kd.R k45 45 w' b' ok' u ys) (hle : w.heap.size ≤ b') : ∀ k, v.ownBlock = some k → some k ≠ u.ownBlock := fun k hk e => by
 have := Kd.R_lt h k hk
 have := Kd.R_base h' k e.symm
 omega
theorem tr_ {w : World} {B : Nat} {ok : Nat → Prop} {v : Value} {xs : List S45} (h : Kd.R k45 45 w B ok v xs) : Kd.R k45 45 w B (fun k_ => some k_ = v.ownBlock) v xs := Kd.R_tight rfl h
set_option maxHeartbeats 8000000 in
set_option maxRecDepth 100000 in
theorem laws_FnExactPutEntry.main (a0_0 : Int) (a0_1 : Int) (A0_2 : Option Addr) (c0_2 : Nat) (l0_2 : List S49) (A0_3 : Option Addr) (c0_3 : Nat) (l0_3 : List S49) (a1_0 : ByteArray) (a1_1 : ByteArray) (w : World) (hr2 : Kd.C k49 w A0_2 l0_2.length l0_2) (hc2 : l0_2.length ≤ c0_2) (hr3 : Kd.C k49 w A0_3 l0_3.length l0_3) (hc3 : l0_3.length ≤ c0_3) (k : Nat) (r1 r2 n o : Int) (t s : List S45) (q1 q2 : Int) (q3 q4 q5 : List S45) (q6 : Bool) (k1 : Int) (tm sm : List S45) (k2 : Int) (q3m q4m : List S45) (k3 : Int) (q5m : List S45) (hf : PutFacts k a0_0 a0_1 l0_2 l0_3 a1_0 a1_1 r1 r2 n o t s q1 q2 q3 q4 q5 q6 k1 tm sm k2 q3m q4m k3 q5m) :
 Calls Try.prog 5 #[.agg #[.int .i64 a0_0, .int .i64 a0_1, .slice A0_2 l0_2.length c0_2, .slice A0_3 l0_3.length c0_3], .agg #[.string a1_0, .string a1_1]] w fun e w' => e = .returned (.bool true) ∧ Below w.heap.size w w' := by
 have HR2 := Aside0.mk hr2
 have HC2 := Aside0.mk hc2
 have HR3 := Aside0.mk hr3
 have HC3 := Aside0.mk hc3
 clear hr2 hc2 hr3 hc3
 have HB := Aside0.mk (Below.refl w.heap.size w)
 have FA := Aside0.mk hf
 have Z1 := Aside0.mk hf.z1
 have Z2 := Aside0.mk hf.z2
 have y1b : decide (r1 < 0) = false := decide_eq_false hf.y1
 have y2b : decide (r2 < 0) = false := decide_eq_false hf.y2
 have y3b : decide (k1 < 0) = false := decide_eq_false hf.y3
 have y4b : decide (k2 < 0) = false := decide_eq_false hf.y4
 have y5b : decide (k3 < 0) = false := decide_eq_false hf.y5
 have q6b : (q6 != q6) = false := by simp
 have k3b : (k3 != k3) = false := by simp
 clear hf
 go_enter Try.func5, Try.ntmps5
 go_wp2_with (first
   | ((with_reducible refine gate_dst (N := 2) rfl ?_); refine box_event ?hg (N := 2) ?hd (cs := #[.int .i64 a0_0, .int .i64 a0_1, .slice A0_2 l0_2.length c0_2, .slice A0_3 l0_3.length c0_3]) (t := 24) ?hr ?_; (case hd => rfl); (case hg => rfl); (case hr => first | (go_simp; done) | (go_simp; rfl)); intro g_s hg x_s hbox hb; have G_s : Aside0 (w.heap.size ≤ g_s) := ⟨by rw [hg]; exact HB.out.size⟩; replace HB := Aside0.mk (below_step HB.out hb); have K_s := Aside0.mk hbox; clear hb hbox hg)
   | ((with_reducible refine gate_dst (N := 3) rfl ?_); refine box_event ?hg (N := 3) ?hd (cs := #[.string a1_0, .string a1_1]) (t := 49) ?hr ?_; (case hd => rfl); (case hg => rfl); (case hr => first | (go_simp; done) | (go_simp; rfl)); intro g_e hg x_e hbox hb; have G_e : Aside0 (w.heap.size ≤ g_e) := ⟨by rw [hg]; exact HB.out.size⟩; replace K_s := Aside0.mk (blk_below K_s.out hb); replace HB := Aside0.mk (below_step HB.out hb); have K_e := Aside0.mk hbox; clear hb hbox hg; have z_s_0 := (blk_cell K_s.out 0).trans rfl; have z_s_1 := (blk_cell K_s.out 1).trans rfl; have z_s_2 := (blk_cell K_s.out 2).trans rfl; have z_s_3 := (blk_cell K_s.out 3).trans rfl)
   | (go_at_call 9; (with_reducible refine (laws_szSegmented.calls k a0_0 a0_1 A0_2 c0_2 l0_2 A0_3 c0_3 l0_3 1048576 r1 _ (Kd.C_below HR2.out HB.out) HC2.out (Kd.C_below HR3.out HB.out) HC3.out Z1.out).mono ?_); rintro e W ⟨rfl, hb⟩; clear z_s_0 z_s_1 z_s_2 z_s_3; replace K_s := Aside0.mk (blk_below K_s.out hb); replace K_e := Aside0.mk (blk_below K_e.out hb); replace HB := Aside0.mk (below_step HB.out hb); clear hb; have z_e_0 := (blk_cell K_e.out 0).trans rfl; have z_e_1 := (blk_cell K_e.out 1).trans rfl)
   | (go_at_call 24; (with_reducible refine (laws_szEntry.calls a1_0 a1_1 r1 r2 _ Z2.out).mono ?_); rintro e W ⟨rfl, hb⟩; clear z_e_0 z_e_1; replace K_s := Aside0.mk (blk_below K_s.out hb); replace K_e := Aside0.mk (blk_below K_e.out hb); replace HB := Aside0.mk (below_step HB.out hb); clear hb))
 obtain ⟨x_0, hx0⟩ : ∃ x_, W = x_ := ⟨_, rfl⟩
 subst hx0
 have L_s : Aside0 (g_s < W.heap.size) := ⟨blk_lt K_s.out⟩
 have L_e : Aside0 (g_e < W.heap.size) := ⟨blk_lt K_e.out⟩
 have hS : ∀ V_, Below W.heap.size W V_ → V_.cell? ⟨g_s, 0, none⟩ = some (.int .i64 a0_0) ∧ V_.cell? ⟨g_s, 1, none⟩ = some (.int .i64 a0_1) ∧ V_.cell? ⟨g_s, 2, none⟩ = some (.slice A0_2 l0_2.length c0_2) ∧ V_.cell? ⟨g_s, 3, none⟩ = some (.slice A0_3 l0_3.length c0_3) ∧ V_.cell? ⟨g_e, 0, none⟩ = some (.string a1_0) ∧ V_.cell? ⟨g_e, 1, none⟩ = some (.string a1_1) := fun V_ hb => ⟨(blk_cell (blk_below K_s.out hb) 0).trans rfl, (blk_cell (blk_below K_s.out hb) 1).trans rfl, (blk_cell (blk_below K_s.out hb) 2).trans rfl, (blk_cell (blk_below K_s.out hb) 3).trans rfl, (blk_cell (blk_below K_e.out hb) 0).trans rfl, (blk_cell (blk_below K_e.out hb) 1).trans rfl⟩
 refine start_ (n := 13) (S := fun w' => w'.cell? ⟨g_s, 0, none⟩ = some (.int .i64 a0_0) ∧ w'.cell? ⟨g_s, 1, none⟩ = some (.int .i64 a0_1) ∧ w'.cell? ⟨g_s, 2, none⟩ = some (.slice A0_2 l0_2.length c0_2) ∧ w'.cell? ⟨g_s, 3, none⟩ = some (.slice A0_3 l0_3.length c0_3) ∧ w'.cell? ⟨g_e, 0, none⟩ = some (.string a1_0) ∧ w'.cell? ⟨g_e, 1, none⟩ = some (.string a1_1)) (ds := []) #[false, false, false, false, false, false, false, false, false, false, false, false, false] (by kernel_rfl) rfl rfl (hS _ (below_drew (Below.refl _ _))) (fun hHeld => ?_)
 refine take_ (i := 0) (N := some 30) (v := ?_) (a' := ?_) #[true, false, false, false, false, false, false, false, false, false, false, false, false] rfl rfl (by kernel_rfl) (fun _ _ _ h => h) (Or.inl ⟨by rfl, ?_⟩) hHeld ?_ ?_
 rotate_left
 · rintro w' ⟨s0, s1, s2, s3, s4, s5⟩
   go_simp
   with_reducible rfl
 rotate_left
 · simp only [Act.put, List.setIfInBounds_toArray, List.set_cons_zero, List.set_cons_succ, i64_w, i32_w]
   rfl
 refine take_ (i := 2) (N := some 32) (v := ?_) (a' := ?_) #[true, false, true, false, false, false, false, false, false, false, false, false, false] rfl rfl (by kernel_rfl) (fun _ _ _ h => h) (Or.inl ⟨by rfl, ?_⟩) hHeld ?_ ?_
 rotate_left
 · rintro w' ⟨s0, s1, s2, s3, s4, s5⟩
   go_simp
   with_reducible rfl
 rotate_left
 · simp only [Act.put, List.setIfInBounds_toArray, List.set_cons_zero, List.set_cons_succ, i64_w, i32_w]
   rfl
 refine join_ (σ := Pj) 3 #[true, true, true, true, true, true, true, true, true, true, false, false, false] (fun p_ => [(31, .agg #[.int .i64 n, .int .i64 o, .slice p_.Ax t.length p_.cx, .slice p_.Ay s.length p_.cy]), (33, .agg #[.string a1_0, .string a1_1]), (34, .tuple #[.agg #[.int .i64 q1, .int .i64 q2, .slice p_.A3 q3.length p_.c3, .slice p_.A4 q4.length p_.c4], .slice p_.A5 q5.length p_.c5, .bool q6]), (29, .tuple #[.agg #[.int .i64 q1, .int .i64 q2, .slice p_.A3 q3.length p_.c3, .slice p_.A4 q4.length p_.c4], .slice p_.A5 q5.length p_.c5, .bool q6]), (35, .agg #[.int .i64 q1, .int .i64 q2, .slice p_.A3 q3.length p_.c3, .slice p_.A4 q4.length p_.c4]), (36, .slice p_.A5 q5.length p_.c5), (37, .bool q6), (6, .pointer (some ⟨p_.g, 0, none⟩))]) (fun p_ w' => Below W.heap.size W w' ∧ W.heap.size ≤ p_.g ∧ w'.heap[p_.g]? = some (.cells #[.int .i64 0, .int .i64 0, .slice none 0 0, .slice none 0 0] 28 (0, 0)) ∧ Kd.R k45 45 w' W.heap.size (fun k_ => some k_ ≠ (.slice p_.A4 q4.length p_.c4 : Value).ownBlock ∧ some k_ ≠ (.slice p_.A5 q5.length p_.c5 : Value).ownBlock) (.slice p_.A3 q3.length p_.c3) q3 ∧ Kd.R k45 45 w' W.heap.size (fun k_ => some k_ ≠ (.slice p_.A3 q3.length p_.c3 : Value).ownBlock ∧ some k_ ≠ (.slice p_.A5 q5.length p_.c5 : Value).ownBlock) (.slice p_.A4 q4.length p_.c4) q4 ∧ Kd.R k45 45 w' W.heap.size (fun k_ => some k_ ≠ (.slice p_.A3 q3.length p_.c3 : Value).ownBlock ∧ some k_ ≠ (.slice p_.A4 q4.length p_.c4 : Value).ownBlock) (.slice p_.A5 q5.length p_.c5) q5) ?_ ?_
 rotate_left
 · intro hCont
   refine two_ (i := 1) (j := 9) (Ni := some 31) (Nj := some 6) #[true, true, true, false, false, false, false, false, false, false, false, false, false] #[true, false, true, false, false, false, false, false, false, true, false, false, false] rfl rfl rfl rfl (by kernel_rfl) (by decide) (by decide) (fun K hK => ?_) (fun K hK => ?_)
   · skip
     refine goes_ Try.func11 (by kernel_rfl) rfl #[.agg #[.int .i64 a0_0, .int .i64 a0_1, .slice A0_2 l0_2.length c0_2, .slice A0_3 l0_3.length c0_3]] (by rfl) rfl rfl (by (try simp only [List.map_toArray, List.map_cons, List.map_nil]); first | done | rfl) ?_
     refine (laws_toSegmented.calls k a0_0 a0_1 A0_2 c0_2 l0_2 A0_3 c0_3 l0_3 n o t s _ ?s1 HC2.out ?s2 HC3.out FA.out.tS).mono ?_
     (case s1 => exact Kd.C_below HR2.out (below_then HB.out HB.out.size (by repeat (first | exact Below.refl _ _ | refine below_drew ?_ | refine below_alloc ?_ _ | exact B0.out | exact B1.out | exact (B0.out).alloc B0.out.size _ | exact below_drew ((B0.out).alloc B0.out.size _) | exact below_alloc B0.out _))))
     (case s2 => exact Kd.C_below HR3.out (below_then HB.out HB.out.size (by repeat (first | exact Below.refl _ _ | refine below_drew ?_ | refine below_alloc ?_ _ | exact B0.out | exact B1.out | exact (B0.out).alloc B0.out.size _ | exact below_drew ((B0.out).alloc B0.out.size _) | exact below_alloc B0.out _))))
     rintro e W0 ⟨vx, vy, rfl, hx, hy, hb⟩
     have B0 : Aside0 (Below W.heap.size W W0) := ⟨below_then (below_drew (Below.refl _ _)) (by (try simp only [World.size_drew, World.size_alloc]); have := Nat.le_refl W.heap.size; omega) hb⟩
     obtain ⟨Ax, cx, ex⟩ := Kd.R_slice hx
     subst ex
     obtain ⟨Ay, cy, ey⟩ := Kd.R_slice hy
     subst ey
     have X := Aside0.mk hx
     have Y := Aside0.mk hy
     clear hx hy
     clear hb
     refine ⟨_, rfl, ?_⟩
     refine hK.out _ _ (hS _ B0.out) (fun hHeld => ?_)
     clear hK K
     refine norm_ (a' := ?_) ?_ ?_
     rotate_left
     · show Act.put _ (some 31) _ = _
       simp only [Act.put, List.setIfInBounds_toArray, List.set_cons_zero, List.set_cons_succ, i64_w, i32_w]
       rfl
     refine two_ (i := 3) (j := 9) (Ni := some 33) (Nj := some 6) #[true, true, true, true, false, false, false, false, false, false, false, false, false] #[true, true, true, false, false, false, false, false, false, true, false, false, false] rfl rfl rfl rfl (by kernel_rfl) (by decide) (by decide) (fun K hK => ?_) (fun K hK => ?_)
     · skip
       refine goes_ Try.func26 (by kernel_rfl) rfl #[.agg #[.string a1_0, .string a1_1]] (by rfl) rfl rfl (by (try simp only [List.map_toArray, List.map_cons, List.map_nil]); first | done | rfl) ?_
       refine (laws_toEntry.calls a1_0 a1_1 a1_0 a1_1 _ rfl).mono ?_
       rintro e W1 ⟨rfl, hb⟩
       have B1 : Aside0 (Below W.heap.size W W1) := ⟨below_then B0.out (by (try simp only [World.size_drew, World.size_alloc]); have := B0.out.size; omega) hb⟩
       replace X := Aside0.mk (Kd.R_below (kr X.out) hb)
       replace Y := Aside0.mk (Kd.R_below (kr Y.out) hb)
       clear hb
       refine ⟨_, rfl, ?_⟩
       refine hK.out _ _ (hS _ B1.out) (fun hHeld => ?_)
       clear hK K
       refine norm_ (a' := ?_) ?_ ?_
       rotate_left
       · show Act.put _ (some 33) _ = _
         simp only [Act.put, List.setIfInBounds_toArray, List.set_cons_zero, List.set_cons_succ, i64_w, i32_w]
         rfl
       refine two_ (i := 4) (j := 9) (Ni := some 34) (Nj := some 6) #[true, true, true, true, true, false, false, false, false, false, false, false, false] #[true, true, true, true, false, false, false, false, false, true, false, false, false] rfl rfl rfl rfl (by kernel_rfl) (by decide) (by decide) (fun K hK => ?_) (fun K hK => ?_)
       · skip
         refine goes_ Try.func25 (by kernel_rfl) rfl #[.agg #[.int .i64 n, .int .i64 o, .slice Ax t.length cx, .slice Ay s.length cy], .agg #[.string a1_0, .string a1_1]] (by rfl) rfl rfl (by (try simp only [List.map_toArray, List.map_cons, List.map_nil]); first | done | rfl) ?_
         refine (spec_PutEntry.calls k n o Ax cx t Ay cy s a1_0 a1_1 q1 q2 q3 q4 q5 q6 _ (kc (Kd.R_reads' X.out).2.2) (Kd.R_reads' X.out).2.1 (kc (Kd.R_reads' Y.out).2.2) (Kd.R_reads' Y.out).2.1 FA.out.sp).mono ?_
         rintro e W2 ⟨v3, v4, v5, rfl, h3, h4, h5, hb⟩
         have B2 : Aside0 (Below W.heap.size W W2) := ⟨below_then B1.out (by (try simp only [World.size_drew, World.size_alloc]); have := B1.out.size; omega) hb⟩
         obtain ⟨A3, c3, e3⟩ := Kd.R_slice h3
         subst e3
         obtain ⟨A4, c4, e4⟩ := Kd.R_slice h4
         subst e4
         obtain ⟨A5, c5, e5⟩ := Kd.R_slice h5
         subst e5
         have Q3 := Aside0.mk (Kd.R_lower h3 (show W.heap.size ≤ _ from (by (try simp only [World.size_drew, World.size_alloc]); have := B1.out.size; omega)))
         have Q4 := Aside0.mk (Kd.R_lower h4 (show W.heap.size ≤ _ from (by (try simp only [World.size_drew, World.size_alloc]); have := B1.out.size; omega)))
         have Q5 := Aside0.mk (Kd.R_lower h5 (show W.heap.size ≤ _ from (by (try simp only [World.size_drew, World.size_alloc]); have := B1.out.size; omega)))
         clear h3 h4 h5
         clear hb
         refine ⟨_, rfl, ?_⟩
         refine hK.out _ _ (hS _ B2.out) (fun hHeld => ?_)
         clear hK K
         refine norm_ (a' := ?_) ?_ ?_
         rotate_left
         · show Act.put _ (some 34) _ = _
           simp only [Act.put, List.setIfInBounds_toArray, List.set_cons_zero, List.set_cons_succ, i64_w, i32_w]
           rfl
         refine pure_ (i := 5) (N := some 29) (v := ?_) (a' := ?_) #[true, true, true, true, true, true, false, false, false, false, false, false, false] rfl rfl (by kernel_rfl) (fun _ _ _ h => h) (Or.inl ⟨by rfl, ?_⟩) ?_ ?_
         rotate_left
         · intro w'
           go_simp
           with_reducible rfl
         rotate_left
         · simp only [Act.put, List.setIfInBounds_toArray, List.set_cons_zero, List.set_cons_succ, i64_w, i32_w]
           rfl
         refine pure_ (i := 6) (N := some 35) (v := ?_) (a' := ?_) #[true, true, true, true, true, true, true, false, false, false, false, false, false] rfl rfl (by kernel_rfl) (fun _ _ _ h => h) (Or.inl ⟨by rfl, ?_⟩) ?_ ?_
         rotate_left
         · intro w'
           go_simp
           with_reducible rfl
         rotate_left
         · simp only [Act.put, List.setIfInBounds_toArray, List.set_cons_zero, List.set_cons_succ, i64_w, i32_w]
           rfl
         refine pure_ (i := 7) (N := some 36) (v := ?_) (a' := ?_) #[true, true, true, true, true, true, true, true, false, false, false, false, false] rfl rfl (by kernel_rfl) (fun _ _ _ h => h) (Or.inl ⟨by rfl, ?_⟩) ?_ ?_
         rotate_left
         · intro w'
           go_simp
           with_reducible rfl
         rotate_left
         · simp only [Act.put, List.setIfInBounds_toArray, List.set_cons_zero, List.set_cons_succ, i64_w, i32_w]
           rfl
         refine pure_ (i := 8) (N := some 37) (v := ?_) (a' := ?_) #[true, true, true, true, true, true, true, true, true, false, false, false, false] rfl rfl (by kernel_rfl) (fun _ _ _ h => h) (Or.inl ⟨by rfl, ?_⟩) ?_ ?_
         rotate_left
         · intro w'
           go_simp
           with_reducible rfl
         rotate_left
         · simp only [Act.put, List.setIfInBounds_toArray, List.set_cons_zero, List.set_cons_succ, i64_w, i32_w]
           rfl
         refine one_ (i := 9) (N := some 6) #[true, true, true, true, true, true, true, true, true, true, false, false, false] rfl rfl (by kernel_rfl) (by decide) (fun K hK => ?_)
         go_simp
         refine hK.out _ _ (hS _ (by first | exact below_drew (below_alloc (Below.refl _ _) _) | exact below_alloc (below_drew (Below.refl _ _)) _ | exact (B2.out).alloc (B2.out.size) _ | exact below_drew ((B2.out).alloc (B2.out.size) _))) (fun hHeld => ?_)
         clear hK K
         refine norm_ (a' := ?_) ?_ ?_
         rotate_left
         · rfl
         exact norm_ (by first | (simp only [putAll, Act.put, List.setIfInBounds_toArray, List.set_cons_zero, List.set_cons_succ]; done) | (simp only [putAll, Act.put, List.setIfInBounds_toArray, List.set_cons_zero, List.set_cons_succ]; rfl)) (hCont ⟨Ax, cx, Ay, cy, A3, c3, A4, c4, A5, c5, W2.heap.size⟩ _ ⟨(by first | exact (B2.out).alloc (B2.out.size) _ | exact below_drew ((B2.out).alloc (B2.out.size) _)), B2.out.size, (by first | exact blk_drew (blk_new W2 _) | exact blk_new W2 _), kr Q3.out, kr Q4.out, kr Q5.out⟩)
       · skip
         go_simp
         refine hK.out _ _ (hS _ (by first | exact below_drew (below_alloc (Below.refl _ _) _) | exact below_alloc (below_drew (Below.refl _ _)) _ | exact (B1.out).alloc (B1.out.size) _ | exact below_drew ((B1.out).alloc (B1.out.size) _))) (fun hHeld => ?_)
         clear hK K
         refine norm_ (a' := ?_) ?_ ?_
         rotate_left
         · rfl
         refine one_ (i := 4) (N := some 34) #[true, true, true, true, true, false, false, false, false, true, false, false, false] rfl rfl (by kernel_rfl) (by decide) (fun K hK => ?_)
         refine goes_ Try.func25 (by kernel_rfl) rfl #[.agg #[.int .i64 n, .int .i64 o, .slice Ax t.length cx, .slice Ay s.length cy], .agg #[.string a1_0, .string a1_1]] (by rfl) rfl rfl (by (try simp only [List.map_toArray, List.map_cons, List.map_nil]); first | done | rfl) ?_
         refine (spec_PutEntry.calls k n o Ax cx t Ay cy s a1_0 a1_1 q1 q2 q3 q4 q5 q6 _ (kc (Kd.R_reads' X.out).2.2) (Kd.R_reads' X.out).2.1 (kc (Kd.R_reads' Y.out).2.2) (Kd.R_reads' Y.out).2.1 FA.out.sp).mono ?_
         rintro e W2 ⟨v3, v4, v5, rfl, h3, h4, h5, hb⟩
         have B2 : Aside0 (Below W.heap.size W W2) := ⟨below_then (by first | exact (B1.out).alloc (B1.out.size) _ | exact below_drew ((B1.out).alloc (B1.out.size) _)) (by (try simp only [World.size_drew, World.size_alloc]); have := B1.out.size; omega) hb⟩
         have ZB2 := Aside0.mk (blk_below (by first | exact blk_drew (blk_new W1 _) | exact blk_new W1 _) hb)
         obtain ⟨A3, c3, e3⟩ := Kd.R_slice h3
         subst e3
         obtain ⟨A4, c4, e4⟩ := Kd.R_slice h4
         subst e4
         obtain ⟨A5, c5, e5⟩ := Kd.R_slice h5
         subst e5
         have Q3 := Aside0.mk (Kd.R_lower h3 (show W.heap.size ≤ _ from (by (try simp only [World.size_drew, World.size_alloc]); have := B1.out.size; omega)))
         have Q4 := Aside0.mk (Kd.R_lower h4 (show W.heap.size ≤ _ from (by (try simp only [World.size_drew, World.size_alloc]); have := B1.out.size; omega)))
         have Q5 := Aside0.mk (Kd.R_lower h5 (show W.heap.size ≤ _ from (by (try simp only [World.size_drew, World.size_alloc]); have := B1.out.size; omega)))
         clear h3 h4 h5
         clear hb
         refine ⟨_, rfl, ?_⟩
         refine hK.out _ _ (hS _ B2.out) (fun hHeld => ?_)
         clear hK K
         refine norm_ (a' := ?_) ?_ ?_
         rotate_left
         · show Act.put _ (some 34) _ = _
           simp only [Act.put, List.setIfInBounds_toArray, List.set_cons_zero, List.set_cons_succ, i64_w, i32_w]
           rfl
         refine pure_ (i := 5) (N := some 29) (v := ?_) (a' := ?_) #[true, true, true, true, true, true, false, false, false, true, false, false, false] rfl rfl (by kernel_rfl) (fun _ _ _ h => h) (Or.inl ⟨by rfl, ?_⟩) ?_ ?_
         rotate_left
         · intro w'
           go_simp
           with_reducible rfl
         rotate_left
         · simp only [Act.put, List.setIfInBounds_toArray, List.set_cons_zero, List.set_cons_succ, i64_w, i32_w]
           rfl
         refine pure_ (i := 6) (N := some 35) (v := ?_) (a' := ?_) #[true, true, true, true, true, true, true, false, false, true, false, false, false] rfl rfl (by kernel_rfl) (fun _ _ _ h => h) (Or.inl ⟨by rfl, ?_⟩) ?_ ?_
         rotate_left
         · intro w'
           go_simp
           with_reducible rfl
         rotate_left
         · simp only [Act.put, List.setIfInBounds_toArray, List.set_cons_zero, List.set_cons_succ, i64_w, i32_w]
           rfl
         refine pure_ (i := 7) (N := some 36) (v := ?_) (a' := ?_) #[true, true, true, true, true, true, true, true, false, true, false, false, false] rfl rfl (by kernel_rfl) (fun _ _ _ h => h) (Or.inl ⟨by rfl, ?_⟩) ?_ ?_
         rotate_left
         · intro w'
           go_simp
           with_reducible rfl
         rotate_left
         · simp only [Act.put, List.setIfInBounds_toArray, List.set_cons_zero, List.set_cons_succ, i64_w, i32_w]
           rfl
         refine pure_ (i := 8) (N := some 37) (v := ?_) (a' := ?_) #[true, true, true, true, true, true, true, true, true, true, false, false, false] rfl rfl (by kernel_rfl) (fun _ _ _ h => h) (Or.inl ⟨by rfl, ?_⟩) ?_ ?_
         rotate_left
         · intro w'
           go_simp
           with_reducible rfl
         rotate_left
         · simp only [Act.put, List.setIfInBounds_toArray, List.set_cons_zero, List.set_cons_succ, i64_w, i32_w]
           rfl
         exact norm_ (by first | (simp only [putAll, Act.put, List.setIfInBounds_toArray, List.set_cons_zero, List.set_cons_succ]; done) | (simp only [putAll, Act.put, List.setIfInBounds_toArray, List.set_cons_zero, List.set_cons_succ]; rfl)) (hCont ⟨Ax, cx, Ay, cy, A3, c3, A4, c4, A5, c5, W1.heap.size⟩ _ ⟨B2.out, B1.out.size, ZB2.out, kr Q3.out, kr Q4.out, kr Q5.out⟩)
     · skip
       go_simp
       refine hK.out _ _ (hS _ (by first | exact below_drew (below_alloc (Below.refl _ _) _) | exact below_alloc (below_drew (Below.refl _ _)) _ | exact (B0.out).alloc (B0.out.size) _ | exact below_drew ((B0.out).alloc (B0.out.size) _))) (fun hHeld => ?_)
       clear hK K
       refine norm_ (a' := ?_) ?_ ?_
       rotate_left
       · rfl
       refine one_ (i := 3) (N := some 33) #[true, true, true, true, false, false, false, false, false, true, false, false, false] rfl rfl (by kernel_rfl) (by decide) (fun K hK => ?_)
       refine goes_ Try.func26 (by kernel_rfl) rfl #[.agg #[.string a1_0, .string a1_1]] (by rfl) rfl rfl (by (try simp only [List.map_toArray, List.map_cons, List.map_nil]); first | done | rfl) ?_
       refine (laws_toEntry.calls a1_0 a1_1 a1_0 a1_1 _ rfl).mono ?_
       rintro e W1 ⟨rfl, hb⟩
       have B1 : Aside0 (Below W.heap.size W W1) := ⟨below_then (by first | exact (B0.out).alloc (B0.out.size) _ | exact below_drew ((B0.out).alloc (B0.out.size) _)) (by (try simp only [World.size_drew, World.size_alloc]); have := B0.out.size; omega) hb⟩
       have ZB1 := Aside0.mk (blk_below (by first | exact blk_drew (blk_new W0 _) | exact blk_new W0 _) hb)
       replace X := Aside0.mk (Kd.R_below (kr X.out) hb)
       replace Y := Aside0.mk (Kd.R_below (kr Y.out) hb)
       clear hb
       refine ⟨_, rfl, ?_⟩
       refine hK.out _ _ (hS _ B1.out) (fun hHeld => ?_)
       clear hK K
       refine norm_ (a' := ?_) ?_ ?_
       rotate_left
       · show Act.put _ (some 33) _ = _
         simp only [Act.put, List.setIfInBounds_toArray, List.set_cons_zero, List.set_cons_succ, i64_w, i32_w]
         rfl
       refine one_ (i := 4) (N := some 34) #[true, true, true, true, true, false, false, false, false, true, false, false, false] rfl rfl (by kernel_rfl) (by decide) (fun K hK => ?_)
       refine goes_ Try.func25 (by kernel_rfl) rfl #[.agg #[.int .i64 n, .int .i64 o, .slice Ax t.length cx, .slice Ay s.length cy], .agg #[.string a1_0, .string a1_1]] (by rfl) rfl rfl (by (try simp only [List.map_toArray, List.map_cons, List.map_nil]); first | done | rfl) ?_
       refine (spec_PutEntry.calls k n o Ax cx t Ay cy s a1_0 a1_1 q1 q2 q3 q4 q5 q6 _ (kc (Kd.R_reads' X.out).2.2) (Kd.R_reads' X.out).2.1 (kc (Kd.R_reads' Y.out).2.2) (Kd.R_reads' Y.out).2.1 FA.out.sp).mono ?_
       rintro e W2 ⟨v3, v4, v5, rfl, h3, h4, h5, hb⟩
       have B2 : Aside0 (Below W.heap.size W W2) := ⟨below_then B1.out (by (try simp only [World.size_drew, World.size_alloc]); have := B1.out.size; omega) hb⟩
       have ZB2 := Aside0.mk (blk_below ZB1.out hb)
       obtain ⟨A3, c3, e3⟩ := Kd.R_slice h3
       subst e3
       obtain ⟨A4, c4, e4⟩ := Kd.R_slice h4
       subst e4
       obtain ⟨A5, c5, e5⟩ := Kd.R_slice h5
       subst e5
       have Q3 := Aside0.mk (Kd.R_lower h3 (show W.heap.size ≤ _ from (by (try simp only [World.size_drew, World.size_alloc]); have := B1.out.size; omega)))
       have Q4 := Aside0.mk (Kd.R_lower h4 (show W.heap.size ≤ _ from (by (try simp only [World.size_drew, World.size_alloc]); have := B1.out.size; omega)))
       have Q5 := Aside0.mk (Kd.R_lower h5 (show W.heap.size ≤ _ from (by (try simp only [World.size_drew, World.size_alloc]); have := B1.out.size; omega)))
       clear h3 h4 h5
       clear hb
       refine ⟨_, rfl, ?_⟩
       refine hK.out _ _ (hS _ B2.out) (fun hHeld => ?_)
       clear hK K
       refine norm_ (a' := ?_) ?_ ?_
       rotate_left
       · show Act.put _ (some 34) _ = _
         simp only [Act.put, List.setIfInBounds_toArray, List.set_cons_zero, List.set_cons_succ, i64_w, i32_w]
         rfl
       refine pure_ (i := 5) (N := some 29) (v := ?_) (a' := ?_) #[true, true, true, true, true, true, false, false, false, true, false, false, false] rfl rfl (by kernel_rfl) (fun _ _ _ h => h) (Or.inl ⟨by rfl, ?_⟩) ?_ ?_
       rotate_left
       · intro w'
         go_simp
         with_reducible rfl
       rotate_left
       · simp only [Act.put, List.setIfInBounds_toArray, List.set_cons_zero, List.set_cons_succ, i64_w, i32_w]
         rfl
       refine pure_ (i := 6) (N := some 35) (v := ?_) (a' := ?_) #[true, true, true, true, true, true, true, false, false, true, false, false, false] rfl rfl (by kernel_rfl) (fun _ _ _ h => h) (Or.inl ⟨by rfl, ?_⟩) ?_ ?_
       rotate_left
       · intro w'
         go_simp
         with_reducible rfl
       rotate_left
       · simp only [Act.put, List.setIfInBounds_toArray, List.set_cons_zero, List.set_cons_succ, i64_w, i32_w]
         rfl
       refine pure_ (i := 7) (N := some 36) (v := ?_) (a' := ?_) #[true, true, true, true, true, true, true, true, false, true, false, false, false] rfl rfl (by kernel_rfl) (fun _ _ _ h => h) (Or.inl ⟨by rfl, ?_⟩) ?_ ?_
       rotate_left
       · intro w'
         go_simp
         with_reducible rfl
       rotate_left
       · simp only [Act.put, List.setIfInBounds_toArray, List.set_cons_zero, List.set_cons_succ, i64_w, i32_w]
         rfl
       refine pure_ (i := 8) (N := some 37) (v := ?_) (a' := ?_) #[true, true, true, true, true, true, true, true, true, true, false, false, false] rfl rfl (by kernel_rfl) (fun _ _ _ h => h) (Or.inl ⟨by rfl, ?_⟩) ?_ ?_
       rotate_left
       · intro w'
         go_simp
         with_reducible rfl
       rotate_left
       · simp only [Act.put, List.setIfInBounds_toArray, List.set_cons_zero, List.set_cons_succ, i64_w, i32_w]
         rfl
       exact norm_ (by first | (simp only [putAll, Act.put, List.setIfInBounds_toArray, List.set_cons_zero, List.set_cons_succ]; done) | (simp only [putAll, Act.put, List.setIfInBounds_toArray, List.set_cons_zero, List.set_cons_succ]; rfl)) (hCont ⟨Ax, cx, Ay, cy, A3, c3, A4, c4, A5, c5, W0.heap.size⟩ _ ⟨B2.out, B0.out.size, ZB2.out, kr Q3.out, kr Q4.out, kr Q5.out⟩)
   · skip
     go_simp
     refine hK.out _ _ (hS _ (by first | exact below_drew (below_alloc (Below.refl _ _) _) | exact below_alloc (below_drew (Below.refl _ _)) _)) (fun hHeld => ?_)
     clear hK K
     refine norm_ (a' := ?_) ?_ ?_
     rotate_left
     · rfl
     refine one_ (i := 1) (N := some 31) #[true, true, true, false, false, false, false, false, false, true, false, false, false] rfl rfl (by kernel_rfl) (by decide) (fun K hK => ?_)
     refine goes_ Try.func11 (by kernel_rfl) rfl #[.agg #[.int .i64 a0_0, .int .i64 a0_1, .slice A0_2 l0_2.length c0_2, .slice A0_3 l0_3.length c0_3]] (by rfl) rfl rfl (by (try simp only [List.map_toArray, List.map_cons, List.map_nil]); first | done | rfl) ?_
     refine (laws_toSegmented.calls k a0_0 a0_1 A0_2 c0_2 l0_2 A0_3 c0_3 l0_3 n o t s _ ?s1 HC2.out ?s2 HC3.out FA.out.tS).mono ?_
     (case s1 => exact Kd.C_below HR2.out (below_then HB.out HB.out.size (by repeat (first | exact Below.refl _ _ | refine below_drew ?_ | refine below_alloc ?_ _ | exact B0.out | exact B1.out | exact (B0.out).alloc B0.out.size _ | exact below_drew ((B0.out).alloc B0.out.size _) | exact below_alloc B0.out _))))
     (case s2 => exact Kd.C_below HR3.out (below_then HB.out HB.out.size (by repeat (first | exact Below.refl _ _ | refine below_drew ?_ | refine below_alloc ?_ _ | exact B0.out | exact B1.out | exact (B0.out).alloc B0.out.size _ | exact below_drew ((B0.out).alloc B0.out.size _) | exact below_alloc B0.out _))))
     rintro e W0 ⟨vx, vy, rfl, hx, hy, hb⟩
     have B0 : Aside0 (Below W.heap.size W W0) := ⟨below_then (by first | exact below_drew (below_alloc (Below.refl _ _) _) | exact below_alloc (below_drew (Below.refl _ _)) _) (by (try simp only [World.size_drew, World.size_alloc]); have := Nat.le_refl W.heap.size; omega) hb⟩
     have ZB0 := Aside0.mk (blk_below (by first | exact blk_drew (blk_new W _) | exact blk_new W _) hb)
     obtain ⟨Ax, cx, ex⟩ := Kd.R_slice hx
     subst ex
     obtain ⟨Ay, cy, ey⟩ := Kd.R_slice hy
     subst ey
     have X := Aside0.mk hx
     have Y := Aside0.mk hy
     clear hx hy
     clear hb
     refine ⟨_, rfl, ?_⟩
     refine hK.out _ _ (hS _ B0.out) (fun hHeld => ?_)
     clear hK K
     refine norm_ (a' := ?_) ?_ ?_
     rotate_left
     · show Act.put _ (some 31) _ = _
       simp only [Act.put, List.setIfInBounds_toArray, List.set_cons_zero, List.set_cons_succ, i64_w, i32_w]
       rfl
     refine one_ (i := 3) (N := some 33) #[true, true, true, true, false, false, false, false, false, true, false, false, false] rfl rfl (by kernel_rfl) (by decide) (fun K hK => ?_)
     refine goes_ Try.func26 (by kernel_rfl) rfl #[.agg #[.string a1_0, .string a1_1]] (by rfl) rfl rfl (by (try simp only [List.map_toArray, List.map_cons, List.map_nil]); first | done | rfl) ?_
     refine (laws_toEntry.calls a1_0 a1_1 a1_0 a1_1 _ rfl).mono ?_
     rintro e W1 ⟨rfl, hb⟩
     have B1 : Aside0 (Below W.heap.size W W1) := ⟨below_then B0.out (by (try simp only [World.size_drew, World.size_alloc]); have := B0.out.size; omega) hb⟩
     have ZB1 := Aside0.mk (blk_below ZB0.out hb)
     replace X := Aside0.mk (Kd.R_below (kr X.out) hb)
     replace Y := Aside0.mk (Kd.R_below (kr Y.out) hb)
     clear hb
     refine ⟨_, rfl, ?_⟩
     refine hK.out _ _ (hS _ B1.out) (fun hHeld => ?_)
     clear hK K
     refine norm_ (a' := ?_) ?_ ?_
     rotate_left
     · show Act.put _ (some 33) _ = _
       simp only [Act.put, List.setIfInBounds_toArray, List.set_cons_zero, List.set_cons_succ, i64_w, i32_w]
       rfl
     refine one_ (i := 4) (N := some 34) #[true, true, true, true, true, false, false, false, false, true, false, false, false] rfl rfl (by kernel_rfl) (by decide) (fun K hK => ?_)
     refine goes_ Try.func25 (by kernel_rfl) rfl #[.agg #[.int .i64 n, .int .i64 o, .slice Ax t.length cx, .slice Ay s.length cy], .agg #[.string a1_0, .string a1_1]] (by rfl) rfl rfl (by (try simp only [List.map_toArray, List.map_cons, List.map_nil]); first | done | rfl) ?_
     refine (spec_PutEntry.calls k n o Ax cx t Ay cy s a1_0 a1_1 q1 q2 q3 q4 q5 q6 _ (kc (Kd.R_reads' X.out).2.2) (Kd.R_reads' X.out).2.1 (kc (Kd.R_reads' Y.out).2.2) (Kd.R_reads' Y.out).2.1 FA.out.sp).mono ?_
     rintro e W2 ⟨v3, v4, v5, rfl, h3, h4, h5, hb⟩
     have B2 : Aside0 (Below W.heap.size W W2) := ⟨below_then B1.out (by (try simp only [World.size_drew, World.size_alloc]); have := B1.out.size; omega) hb⟩
     have ZB2 := Aside0.mk (blk_below ZB1.out hb)
     obtain ⟨A3, c3, e3⟩ := Kd.R_slice h3
     subst e3
     obtain ⟨A4, c4, e4⟩ := Kd.R_slice h4
     subst e4
     obtain ⟨A5, c5, e5⟩ := Kd.R_slice h5
     subst e5
     have Q3 := Aside0.mk (Kd.R_lower h3 (show W.heap.size ≤ _ from (by (try simp only [World.size_drew, World.size_alloc]); have := B1.out.size; omega)))
     have Q4 := Aside0.mk (Kd.R_lower h4 (show W.heap.size ≤ _ from (by (try simp only [World.size_drew, World.size_alloc]); have := B1.out.size; omega)))
     have Q5 := Aside0.mk (Kd.R_lower h5 (show W.heap.size ≤ _ from (by (try simp only [World.size_drew, World.size_alloc]); have := B1.out.size; omega)))
     clear h3 h4 h5
     clear hb
     refine ⟨_, rfl, ?_⟩
     refine hK.out _ _ (hS _ B2.out) (fun hHeld => ?_)
     clear hK K
     refine norm_ (a' := ?_) ?_ ?_
     rotate_left
     · show Act.put _ (some 34) _ = _
       simp only [Act.put, List.setIfInBounds_toArray, List.set_cons_zero, List.set_cons_succ, i64_w, i32_w]
       rfl
     refine pure_ (i := 5) (N := some 29) (v := ?_) (a' := ?_) #[true, true, true, true, true, true, false, false, false, true, false, false, false] rfl rfl (by kernel_rfl) (fun _ _ _ h => h) (Or.inl ⟨by rfl, ?_⟩) ?_ ?_
     rotate_left
     · intro w'
       go_simp
       with_reducible rfl
     rotate_left
     · simp only [Act.put, List.setIfInBounds_toArray, List.set_cons_zero, List.set_cons_succ, i64_w, i32_w]
       rfl
     refine pure_ (i := 6) (N := some 35) (v := ?_) (a' := ?_) #[true, true, true, true, true, true, true, false, false, true, false, false, false] rfl rfl (by kernel_rfl) (fun _ _ _ h => h) (Or.inl ⟨by rfl, ?_⟩) ?_ ?_
     rotate_left
     · intro w'
       go_simp
       with_reducible rfl
     rotate_left
     · simp only [Act.put, List.setIfInBounds_toArray, List.set_cons_zero, List.set_cons_succ, i64_w, i32_w]
       rfl
     refine pure_ (i := 7) (N := some 36) (v := ?_) (a' := ?_) #[true, true, true, true, true, true, true, true, false, true, false, false, false] rfl rfl (by kernel_rfl) (fun _ _ _ h => h) (Or.inl ⟨by rfl, ?_⟩) ?_ ?_
     rotate_left
     · intro w'
       go_simp
       with_reducible rfl
     rotate_left
     · simp only [Act.put, List.setIfInBounds_toArray, List.set_cons_zero, List.set_cons_succ, i64_w, i32_w]
       rfl
     refine pure_ (i := 8) (N := some 37) (v := ?_) (a' := ?_) #[true, true, true, true, true, true, true, true, true, true, false, false, false] rfl rfl (by kernel_rfl) (fun _ _ _ h => h) (Or.inl ⟨by rfl, ?_⟩) ?_ ?_
     rotate_left
     · intro w'
       go_simp
       with_reducible rfl
     rotate_left
     · simp only [Act.put, List.setIfInBounds_toArray, List.set_cons_zero, List.set_cons_succ, i64_w, i32_w]
       rfl
     exact norm_ (by first | (simp only [putAll, Act.put, List.setIfInBounds_toArray, List.set_cons_zero, List.set_cons_succ]; done) | (simp only [putAll, Act.put, List.setIfInBounds_toArray, List.set_cons_zero, List.set_cons_succ]; rfl)) (hCont ⟨Ax, cx, Ay, cy, A3, c3, A4, c4, A5, c5, W.heap.size⟩ _ ⟨B2.out, Nat.le_refl _, ZB2.out, kr Q3.out, kr Q4.out, kr Q5.out⟩)
 rintro ⟨Ax, cx, Ay, cy, Aw3, cw3, Aw4, cw4, Aw5, cw5, g_w⟩ V_ ⟨hb, hg, hz, hq3, hq4, hq5⟩
 dsimp only at hg hz hq3 hq4 hq5
 refine norm_ (a' := ?_) ?_ ?_
 rotate_left
 · simp only [putAll, Act.put, List.setIfInBounds_toArray, List.set_cons_zero, List.set_cons_succ]
   rfl
 have hlow := HB.out.size
 have G_w : Aside0 (w.heap.size ≤ g_w) := ⟨Nat.le_trans hlow hg⟩
 replace K_s := Aside0.mk (blk_below K_s.out hb)
 replace K_e := Aside0.mk (blk_below K_e.out hb)
 replace HB := Aside0.mk (below_step HB.out hb)
 have D_w3 := Aside0.mk hq3.1
 have R_w3 := Aside0.mk (tr_ (Kd.R_lower hq3 hlow))
 have D_w4 := Aside0.mk hq4.1
 have R_w4 := Aside0.mk (tr_ (Kd.R_lower hq4 hlow))
 have D_w5 := Aside0.mk hq5.1
 have R_w5 := Aside0.mk (tr_ (Kd.R_lower hq5 hlow))
 have hs0 := (blk_cell hz 0).trans rfl
 have hs1 := (blk_cell hz 1).trans rfl
 have hs2 := (blk_cell hz 2).trans rfl
 have hs3 := (blk_cell hz 3).trans rfl
 have hf0 := blk_frozen hz 0
 have hf1 := blk_frozen hz 1
 have hf2 := blk_frozen hz 2
 have hf3 := blk_frozen hz 3
 have hbV := Aside0.mk hb
 have HZ := Aside0.mk hz
 have HG := Aside0.mk hg
 clear hb hg hz hq3 hq4 hq5
 refine one_ (i := 10) (N := none) #[true, true, true, true, true, true, true, true, true, true, true, false, false] rfl rfl (by kernel_rfl) (by decide) (fun K hK => ?_)
 go_simp
 refine hK.out _ _ (hS _ ((((hbV.out.setCell HG.out _).setCell HG.out _).setCell HG.out _).setCell HG.out _)) (fun hHeld => ?_)
 clear hK K
 refine norm_ (a' := ?_) ?_ ?_
 rotate_left
 · rfl
 refine pure_ (i := 11) (N := some 7) (v := ?_) (a' := ?_) #[true, true, true, true, true, true, true, true, true, true, true, true, false] rfl rfl (by kernel_rfl) (fun _ _ _ h => h) (Or.inl ⟨by rfl, ?_⟩) ?_ ?_
 rotate_left
 · intro w'
   go_simp
   with_reducible rfl
 rotate_left
 · simp only [Act.put, List.setIfInBounds_toArray, List.set_cons_zero, List.set_cons_succ, i64_w, i32_w]
   rfl
 refine pure_ (i := 12) (N := some 8) (v := ?_) (a' := ?_) #[true, true, true, true, true, true, true, true, true, true, true, true, true] rfl rfl (by kernel_rfl) (fun _ _ _ h => h) (Or.inl ⟨by rfl, ?_⟩) ?_ ?_
 rotate_left
 · intro w'
   go_simp
   with_reducible rfl
 rotate_left
 · simp only [Act.put, List.setIfInBounds_toArray, List.set_cons_zero, List.set_cons_succ, i64_w, i32_w]
   rfl
 refine done_ (by kernel_rfl) ?_
 obtain ⟨W_w, hW⟩ : ∃ W_, ((((V_.setCell ⟨g_w, 0, none⟩ (.int .i64 q1)).setCell ⟨g_w, 1, none⟩ (.int .i64 q2)).setCell ⟨g_w, 2, none⟩ (.slice Aw3 q3.length cw3)).setCell ⟨g_w, 3, none⟩ (.slice Aw4 q4.length cw4)) = W_ := ⟨_, rfl⟩
 rw [hW]
 replace R_w3 : Aside0 (Kd.R k45 45 W_w w.heap.size (fun k_ => some k_ = (.slice Aw3 q3.length cw3 : Value).ownBlock) (.slice Aw3 q3.length cw3) q3) := ⟨by rw [← hW]; exact Kd.R_set (Kd.R_set (Kd.R_set (Kd.R_set R_w3.out HZ.out (by decide) 0 _) (blk_set HZ.out 0 _) (by decide) 1 _) (blk_set (blk_set HZ.out 0 _) 1 _) (by decide) 2 _) (blk_set (blk_set (blk_set HZ.out 0 _) 1 _) 2 _) (by decide) 3 _⟩
 replace R_w4 : Aside0 (Kd.R k45 45 W_w w.heap.size (fun k_ => some k_ = (.slice Aw4 q4.length cw4 : Value).ownBlock) (.slice Aw4 q4.length cw4) q4) := ⟨by rw [← hW]; exact Kd.R_set (Kd.R_set (Kd.R_set (Kd.R_set R_w4.out HZ.out (by decide) 0 _) (blk_set HZ.out 0 _) (by decide) 1 _) (blk_set (blk_set HZ.out 0 _) 1 _) (by decide) 2 _) (blk_set (blk_set (blk_set HZ.out 0 _) 1 _) 2 _) (by decide) 3 _⟩
 replace R_w5 : Aside0 (Kd.R k45 45 W_w w.heap.size (fun k_ => some k_ = (.slice Aw5 q5.length cw5 : Value).ownBlock) (.slice Aw5 q5.length cw5) q5) := ⟨by rw [← hW]; exact Kd.R_set (Kd.R_set (Kd.R_set (Kd.R_set R_w5.out HZ.out (by decide) 0 _) (blk_set HZ.out 0 _) (by decide) 1 _) (blk_set (blk_set HZ.out 0 _) 1 _) (by decide) 2 _) (blk_set (blk_set (blk_set HZ.out 0 _) 1 _) 2 _) (by decide) 3 _⟩
 have NB_s : Aside0 (g_s ≠ g_w) := ⟨by have := L_s.out; have := HG.out; omega⟩
 replace K_s : Aside0 (W_w.heap[g_s]? = some (.cells #[.int .i64 a0_0, .int .i64 a0_1, .slice A0_2 l0_2.length c0_2, .slice A0_3 l0_3.length c0_3] 24 (0, 0))) := ⟨by rw [← hW]; exact blk_far (blk_far (blk_far (blk_far K_s.out NB_s.out _) NB_s.out _) NB_s.out _) NB_s.out _⟩
 clear NB_s
 have NB_e : Aside0 (g_e ≠ g_w) := ⟨by have := L_e.out; have := HG.out; omega⟩
 replace K_e : Aside0 (W_w.heap[g_e]? = some (.cells #[.string a1_0, .string a1_1] 49 (0, 0))) := ⟨by rw [← hW]; exact blk_far (blk_far (blk_far (blk_far K_e.out NB_e.out _) NB_e.out _) NB_e.out _) NB_e.out _⟩
 clear NB_e
 have K_w : Aside0 (W_w.heap[g_w]? = some (.cells #[.int .i64 q1, .int .i64 q2, .slice Aw3 q3.length cw3, .slice Aw4 q4.length cw4] 28 (0, 0))) := ⟨by rw [← hW]; refine blk_put (cs := #[.int .i64 q1, .int .i64 q2, .slice Aw3 q3.length cw3, .slice none 0 0]) ?_ 3 _ rfl; refine blk_put (cs := #[.int .i64 q1, .int .i64 q2, .slice none 0 0, .slice none 0 0]) ?_ 2 _ rfl; refine blk_put (cs := #[.int .i64 q1, .int .i64 0, .slice none 0 0, .slice none 0 0]) ?_ 1 _ rfl; refine blk_put (cs := #[.int .i64 0, .int .i64 0, .slice none 0 0, .slice none 0 0]) ?_ 0 _ rfl; exact HZ.out⟩
 replace HB : Aside0 (Below w.heap.size w W_w) := ⟨by rw [← hW]; exact ((((HB.out.setCell G_w.out _).setCell G_w.out _).setCell G_w.out _).setCell G_w.out _)⟩
 clear hW hs0 hs1 hs2 hs3 hf0 hf1 hf2 hf3 hbV HZ HG hS hHeld
 have L_s : Aside0 (g_s < W_w.heap.size) := ⟨blk_lt K_s.out⟩
 have L_e : Aside0 (g_e < W_w.heap.size) := ⟨blk_lt K_e.out⟩
 have L_w : Aside0 (g_w < W_w.heap.size) := ⟨blk_lt K_w.out⟩
 have z_s_0 := (blk_cell K_s.out 0).trans rfl
 have z_s_1 := (blk_cell K_s.out 1).trans rfl
 have z_s_2 := (blk_cell K_s.out 2).trans rfl
 have z_s_3 := (blk_cell K_s.out 3).trans rfl
 go_wp2_with (first
   | (go_at_call 11; (with_reducible refine (laws_toSegmented.calls k a0_0 a0_1 A0_2 c0_2 l0_2 A0_3 c0_3 l0_3 n o t s _ (Kd.C_below HR2.out HB.out) HC2.out (Kd.C_below HR3.out HB.out) HC3.out FA.out.tS).mono ?_); rintro e W ⟨vx, vy, rfl, hx, hy, hb⟩; clear z_s_0 z_s_1 z_s_2 z_s_3; obtain ⟨Ax3, cx3, ex3⟩ := Kd.R_slice hx; subst ex3; obtain ⟨Ax4, cx4, ex4⟩ := Kd.R_slice hy; subst ex4; have hlow := HB.out.size; have N_x3_w3 := Aside0.mk (far_ R_w3.out hx (Nat.le_refl _)); have N_x4_w3 := Aside0.mk (far_ R_w3.out hy (Nat.le_refl _)); have N_x3_w4 := Aside0.mk (far_ R_w4.out hx (Nat.le_refl _)); have N_x4_w4 := Aside0.mk (far_ R_w4.out hy (Nat.le_refl _)); have N_x3_w5 := Aside0.mk (far_ R_w5.out hx (Nat.le_refl _)); have N_x4_w5 := Aside0.mk (far_ R_w5.out hy (Nat.le_refl _)); replace R_w3 := Aside0.mk (Kd.R_below R_w3.out hb); replace R_w4 := Aside0.mk (Kd.R_below R_w4.out hb); replace R_w5 := Aside0.mk (Kd.R_below R_w5.out hb); replace K_s := Aside0.mk (blk_below K_s.out hb); replace K_e := Aside0.mk (blk_below K_e.out hb); replace K_w := Aside0.mk (blk_below K_w.out hb); replace HB := Aside0.mk (below_step HB.out hb); have D_x3 := Aside0.mk hx.1; have R_x3 := Aside0.mk (tr_ (Kd.R_lower hx hlow)); have D_x4 := Aside0.mk hy.1; have R_x4 := Aside0.mk (tr_ (Kd.R_lower hy hlow)); clear hb hlow hx hy))
 obtain ⟨W_x, hW⟩ : ∃ W_, W.alloc (.cells #[.int .i64 n, .int .i64 o, .slice Ax3 t.length cx3, .slice Ax4 s.length cx4] 28 (0, 0)) = W_ := ⟨_, rfl⟩
 have hb : Below W.heap.size W W_x := by rw [← hW]; exact below_alloc (Below.refl _ _) _
 have hx : W_x.heap[W.heap.size]? = some (.cells #[.int .i64 n, .int .i64 o, .slice Ax3 t.length cx3, .slice Ax4 s.length cx4] 28 (0, 0)) := by rw [← hW]; exact blk_new W _
 have hgx := HB.out.size
 rw [hW]
 clear hW
 replace R_w3 := Aside0.mk (Kd.R_below R_w3.out hb)
 replace R_w4 := Aside0.mk (Kd.R_below R_w4.out hb)
 replace R_w5 := Aside0.mk (Kd.R_below R_w5.out hb)
 replace R_x3 := Aside0.mk (Kd.R_below R_x3.out hb)
 replace R_x4 := Aside0.mk (Kd.R_below R_x4.out hb)
 replace K_s := Aside0.mk (blk_below K_s.out hb)
 replace K_e := Aside0.mk (blk_below K_e.out hb)
 replace K_w := Aside0.mk (blk_below K_w.out hb)
 replace HB := Aside0.mk (below_step HB.out hb)
 obtain ⟨g_x, hg⟩ : ∃ g_, W.heap.size = g_ := ⟨_, rfl⟩
 rw [hg] at hx hgx ⊢
 have K_x := Aside0.mk hx
 have G_x := Aside0.mk hgx
 clear hx hgx hg hb
 have L_x : Aside0 (g_x < W_x.heap.size) := ⟨blk_lt K_x.out⟩
 replace L_s : Aside0 (g_s < W_x.heap.size) := ⟨blk_lt K_s.out⟩
 replace L_e : Aside0 (g_e < W_x.heap.size) := ⟨blk_lt K_e.out⟩
 replace L_w : Aside0 (g_w < W_x.heap.size) := ⟨blk_lt K_w.out⟩
 have hS : ∀ V_, Below W_x.heap.size W_x V_ → V_.cell? ⟨g_x, 0, none⟩ = some (.int .i64 n) ∧ V_.cell? ⟨g_x, 1, none⟩ = some (.int .i64 o) ∧ V_.cell? ⟨g_x, 2, none⟩ = some (.slice Ax3 t.length cx3) ∧ V_.cell? ⟨g_x, 3, none⟩ = some (.slice Ax4 s.length cx4) ∧ V_.cell? ⟨g_e, 0, none⟩ = some (.string a1_0) ∧ V_.cell? ⟨g_e, 1, none⟩ = some (.string a1_1) := fun V_ hb => ⟨(blk_cell (blk_below K_x.out hb) 0).trans rfl, (blk_cell (blk_below K_x.out hb) 1).trans rfl, (blk_cell (blk_below K_x.out hb) 2).trans rfl, (blk_cell (blk_below K_x.out hb) 3).trans rfl, (blk_cell (blk_below K_e.out hb) 0).trans rfl, (blk_cell (blk_below K_e.out hb) 1).trans rfl⟩
 refine start_ (n := 12) (S := fun w' => w'.cell? ⟨g_x, 0, none⟩ = some (.int .i64 n) ∧ w'.cell? ⟨g_x, 1, none⟩ = some (.int .i64 o) ∧ w'.cell? ⟨g_x, 2, none⟩ = some (.slice Ax3 t.length cx3) ∧ w'.cell? ⟨g_x, 3, none⟩ = some (.slice Ax4 s.length cx4) ∧ w'.cell? ⟨g_e, 0, none⟩ = some (.string a1_0) ∧ w'.cell? ⟨g_e, 1, none⟩ = some (.string a1_1)) (ds := []) #[false, false, false, false, false, false, false, false, false, false, false, false] (by kernel_rfl) rfl rfl (hS _ (below_drew (Below.refl _ _))) (fun hHeld => ?_)
 refine take_ (i := 0) (N := some 41) (v := ?_) (a' := ?_) #[true, false, false, false, false, false, false, false, false, false, false, false] rfl rfl (by kernel_rfl) (fun _ _ _ h => h) (Or.inl ⟨by rfl, ?_⟩) hHeld ?_ ?_
 rotate_left
 · rintro w' ⟨s0, s1, s2, s3, s4, s5⟩
   go_simp
   with_reducible rfl
 rotate_left
 · simp only [Act.put, List.setIfInBounds_toArray, List.set_cons_zero, List.set_cons_succ, i64_w, i32_w]
   rfl
 refine take_ (i := 1) (N := some 42) (v := ?_) (a' := ?_) #[true, true, false, false, false, false, false, false, false, false, false, false] rfl rfl (by kernel_rfl) (fun _ _ _ h => h) (Or.inl ⟨by rfl, ?_⟩) hHeld ?_ ?_
 rotate_left
 · rintro w' ⟨s0, s1, s2, s3, s4, s5⟩
   go_simp
   with_reducible rfl
 rotate_left
 · simp only [Act.put, List.setIfInBounds_toArray, List.set_cons_zero, List.set_cons_succ, i64_w, i32_w]
   rfl
 refine join_ (σ := Pj) 3 #[true, true, true, true, true, true, true, true, true, false, false, false] (fun p_ => [(43, .agg #[.string a1_0, .string a1_1]), (44, .tuple #[.agg #[.int .i64 q1, .int .i64 q2, .slice p_.A3 q3.length p_.c3, .slice p_.A4 q4.length p_.c4], .slice p_.A5 q5.length p_.c5, .bool q6]), (40, .tuple #[.agg #[.int .i64 q1, .int .i64 q2, .slice p_.A3 q3.length p_.c3, .slice p_.A4 q4.length p_.c4], .slice p_.A5 q5.length p_.c5, .bool q6]), (45, .agg #[.int .i64 q1, .int .i64 q2, .slice p_.A3 q3.length p_.c3, .slice p_.A4 q4.length p_.c4]), (46, .slice p_.A5 q5.length p_.c5), (47, .bool q6), (10, .pointer (some ⟨p_.g, 0, none⟩))]) (fun p_ w' => Below W_x.heap.size W_x w' ∧ W_x.heap.size ≤ p_.g ∧ w'.heap[p_.g]? = some (.cells #[.int .i64 0, .int .i64 0, .slice none 0 0, .slice none 0 0] 28 (0, 0)) ∧ Kd.R k45 45 w' W_x.heap.size (fun k_ => some k_ ≠ (.slice p_.A4 q4.length p_.c4 : Value).ownBlock ∧ some k_ ≠ (.slice p_.A5 q5.length p_.c5 : Value).ownBlock) (.slice p_.A3 q3.length p_.c3) q3 ∧ Kd.R k45 45 w' W_x.heap.size (fun k_ => some k_ ≠ (.slice p_.A3 q3.length p_.c3 : Value).ownBlock ∧ some k_ ≠ (.slice p_.A5 q5.length p_.c5 : Value).ownBlock) (.slice p_.A4 q4.length p_.c4) q4 ∧ Kd.R k45 45 w' W_x.heap.size (fun k_ => some k_ ≠ (.slice p_.A3 q3.length p_.c3 : Value).ownBlock ∧ some k_ ≠ (.slice p_.A4 q4.length p_.c4 : Value).ownBlock) (.slice p_.A5 q5.length p_.c5) q5) ?_ ?_
 rotate_left
 · intro hCont
   refine two_ (i := 2) (j := 8) (Ni := some 43) (Nj := some 10) #[true, true, true, false, false, false, false, false, false, false, false, false] #[true, true, false, false, false, false, false, false, true, false, false, false] rfl rfl rfl rfl (by kernel_rfl) (by decide) (by decide) (fun K hK => ?_) (fun K hK => ?_)
   · skip
     refine goes_ Try.func26 (by kernel_rfl) rfl #[.agg #[.string a1_0, .string a1_1]] (by rfl) rfl rfl (by (try simp only [List.map_toArray, List.map_cons, List.map_nil]); first | done | rfl) ?_
     refine (laws_toEntry.calls a1_0 a1_1 a1_0 a1_1 _ rfl).mono ?_
     rintro e W0 ⟨rfl, hb⟩
     have B0 : Aside0 (Below W_x.heap.size W_x W0) := ⟨below_then (below_drew (Below.refl _ _)) (by (try simp only [World.size_drew, World.size_alloc]); have := Nat.le_refl W_x.heap.size; omega) hb⟩
     clear hb
     refine ⟨_, rfl, ?_⟩
     refine hK.out _ _ (hS _ B0.out) (fun hHeld => ?_)
     clear hK K
     refine norm_ (a' := ?_) ?_ ?_
     rotate_left
     · show Act.put _ (some 43) _ = _
       simp only [Act.put, List.setIfInBounds_toArray, List.set_cons_zero, List.set_cons_succ, i64_w, i32_w]
       rfl
     refine two_ (i := 3) (j := 8) (Ni := some 44) (Nj := some 10) #[true, true, true, true, false, false, false, false, false, false, false, false] #[true, true, true, false, false, false, false, false, true, false, false, false] rfl rfl rfl rfl (by kernel_rfl) (by decide) (by decide) (fun K hK => ?_) (fun K hK => ?_)
     · skip
       refine goes_ Try.func21 (by kernel_rfl) rfl #[.agg #[.int .i64 n, .int .i64 o, .slice Ax3 t.length cx3, .slice Ax4 s.length cx4], .agg #[.string a1_0, .string a1_1]] (by rfl) rfl rfl (by (try simp only [List.map_toArray, List.map_cons, List.map_nil]); first | done | rfl) ?_
       refine (impl_PutEntry.calls k n o Ax3 cx3 t Ax4 cx4 s a1_0 a1_1 q1 q2 q3 q4 q5 q6 _ (Kd.C_below (Kd.R_reads' R_x3.out).2.2 (by repeat (first | exact Below.refl _ _ | refine below_drew ?_ | refine below_alloc ?_ _ | exact B0.out | exact B1.out | exact (B0.out).alloc B0.out.size _ | exact below_drew ((B0.out).alloc B0.out.size _) | exact below_alloc B0.out _))) (Kd.R_reads' R_x3.out).2.1 (Kd.C_below (Kd.R_reads' R_x4.out).2.2 (by repeat (first | exact Below.refl _ _ | refine below_drew ?_ | refine below_alloc ?_ _ | exact B0.out | exact B1.out | exact (B0.out).alloc B0.out.size _ | exact below_drew ((B0.out).alloc B0.out.size _) | exact below_alloc B0.out _))) (Kd.R_reads' R_x4.out).2.1 FA.out.im).mono ?_
       rintro e W1 ⟨v3, v4, v5, rfl, h3, h4, h5, hb⟩
       have B1 : Aside0 (Below W_x.heap.size W_x W1) := ⟨below_then B0.out (by (try simp only [World.size_drew, World.size_alloc]); have := B0.out.size; omega) hb⟩
       obtain ⟨A3, c3, e3⟩ := Kd.R_slice h3
       subst e3
       obtain ⟨A4, c4, e4⟩ := Kd.R_slice h4
       subst e4
       obtain ⟨A5, c5, e5⟩ := Kd.R_slice h5
       subst e5
       have Q3 := Aside0.mk (Kd.R_lower h3 (show W_x.heap.size ≤ _ from (by (try simp only [World.size_drew, World.size_alloc]); have := B0.out.size; omega)))
       have Q4 := Aside0.mk (Kd.R_lower h4 (show W_x.heap.size ≤ _ from (by (try simp only [World.size_drew, World.size_alloc]); have := B0.out.size; omega)))
       have Q5 := Aside0.mk (Kd.R_lower h5 (show W_x.heap.size ≤ _ from (by (try simp only [World.size_drew, World.size_alloc]); have := B0.out.size; omega)))
       clear h3 h4 h5
       clear hb
       refine ⟨_, rfl, ?_⟩
       refine hK.out _ _ (hS _ B1.out) (fun hHeld => ?_)
       clear hK K
       refine norm_ (a' := ?_) ?_ ?_
       rotate_left
       · show Act.put _ (some 44) _ = _
         simp only [Act.put, List.setIfInBounds_toArray, List.set_cons_zero, List.set_cons_succ, i64_w, i32_w]
         rfl
       refine pure_ (i := 4) (N := some 40) (v := ?_) (a' := ?_) #[true, true, true, true, true, false, false, false, false, false, false, false] rfl rfl (by kernel_rfl) (fun _ _ _ h => h) (Or.inl ⟨by rfl, ?_⟩) ?_ ?_
       rotate_left
       · intro w'
         go_simp
         with_reducible rfl
       rotate_left
       · simp only [Act.put, List.setIfInBounds_toArray, List.set_cons_zero, List.set_cons_succ, i64_w, i32_w]
         rfl
       refine pure_ (i := 5) (N := some 45) (v := ?_) (a' := ?_) #[true, true, true, true, true, true, false, false, false, false, false, false] rfl rfl (by kernel_rfl) (fun _ _ _ h => h) (Or.inl ⟨by rfl, ?_⟩) ?_ ?_
       rotate_left
       · intro w'
         go_simp
         with_reducible rfl
       rotate_left
       · simp only [Act.put, List.setIfInBounds_toArray, List.set_cons_zero, List.set_cons_succ, i64_w, i32_w]
         rfl
       refine pure_ (i := 6) (N := some 46) (v := ?_) (a' := ?_) #[true, true, true, true, true, true, true, false, false, false, false, false] rfl rfl (by kernel_rfl) (fun _ _ _ h => h) (Or.inl ⟨by rfl, ?_⟩) ?_ ?_
       rotate_left
       · intro w'
         go_simp
         with_reducible rfl
       rotate_left
       · simp only [Act.put, List.setIfInBounds_toArray, List.set_cons_zero, List.set_cons_succ, i64_w, i32_w]
         rfl
       refine pure_ (i := 7) (N := some 47) (v := ?_) (a' := ?_) #[true, true, true, true, true, true, true, true, false, false, false, false] rfl rfl (by kernel_rfl) (fun _ _ _ h => h) (Or.inl ⟨by rfl, ?_⟩) ?_ ?_
       rotate_left
       · intro w'
         go_simp
         with_reducible rfl
       rotate_left
       · simp only [Act.put, List.setIfInBounds_toArray, List.set_cons_zero, List.set_cons_succ, i64_w, i32_w]
         rfl
       refine one_ (i := 8) (N := some 10) #[true, true, true, true, true, true, true, true, true, false, false, false] rfl rfl (by kernel_rfl) (by decide) (fun K hK => ?_)
       go_simp
       refine hK.out _ _ (hS _ (by first | exact below_drew (below_alloc (Below.refl _ _) _) | exact below_alloc (below_drew (Below.refl _ _)) _ | exact (B1.out).alloc (B1.out.size) _ | exact below_drew ((B1.out).alloc (B1.out.size) _))) (fun hHeld => ?_)
       clear hK K
       refine norm_ (a' := ?_) ?_ ?_
       rotate_left
       · rfl
       exact norm_ (by first | (simp only [putAll, Act.put, List.setIfInBounds_toArray, List.set_cons_zero, List.set_cons_succ]; done) | (simp only [putAll, Act.put, List.setIfInBounds_toArray, List.set_cons_zero, List.set_cons_succ]; rfl)) (hCont ⟨none, 0, none, 0, A3, c3, A4, c4, A5, c5, W1.heap.size⟩ _ ⟨(by first | exact (B1.out).alloc (B1.out.size) _ | exact below_drew ((B1.out).alloc (B1.out.size) _)), B1.out.size, (by first | exact blk_drew (blk_new W1 _) | exact blk_new W1 _), kr Q3.out, kr Q4.out, kr Q5.out⟩)
     · skip
       go_simp
       refine hK.out _ _ (hS _ (by first | exact below_drew (below_alloc (Below.refl _ _) _) | exact below_alloc (below_drew (Below.refl _ _)) _ | exact (B0.out).alloc (B0.out.size) _ | exact below_drew ((B0.out).alloc (B0.out.size) _))) (fun hHeld => ?_)
       clear hK K
       refine norm_ (a' := ?_) ?_ ?_
       rotate_left
       · rfl
       refine one_ (i := 3) (N := some 44) #[true, true, true, true, false, false, false, false, true, false, false, false] rfl rfl (by kernel_rfl) (by decide) (fun K hK => ?_)
       refine goes_ Try.func21 (by kernel_rfl) rfl #[.agg #[.int .i64 n, .int .i64 o, .slice Ax3 t.length cx3, .slice Ax4 s.length cx4], .agg #[.string a1_0, .string a1_1]] (by rfl) rfl rfl (by (try simp only [List.map_toArray, List.map_cons, List.map_nil]); first | done | rfl) ?_
       refine (impl_PutEntry.calls k n o Ax3 cx3 t Ax4 cx4 s a1_0 a1_1 q1 q2 q3 q4 q5 q6 _ (Kd.C_below (Kd.R_reads' R_x3.out).2.2 (by repeat (first | exact Below.refl _ _ | refine below_drew ?_ | refine below_alloc ?_ _ | exact B0.out | exact B1.out | exact (B0.out).alloc B0.out.size _ | exact below_drew ((B0.out).alloc B0.out.size _) | exact below_alloc B0.out _))) (Kd.R_reads' R_x3.out).2.1 (Kd.C_below (Kd.R_reads' R_x4.out).2.2 (by repeat (first | exact Below.refl _ _ | refine below_drew ?_ | refine below_alloc ?_ _ | exact B0.out | exact B1.out | exact (B0.out).alloc B0.out.size _ | exact below_drew ((B0.out).alloc B0.out.size _) | exact below_alloc B0.out _))) (Kd.R_reads' R_x4.out).2.1 FA.out.im).mono ?_
       rintro e W1 ⟨v3, v4, v5, rfl, h3, h4, h5, hb⟩
       have B1 : Aside0 (Below W_x.heap.size W_x W1) := ⟨below_then (by first | exact (B0.out).alloc (B0.out.size) _ | exact below_drew ((B0.out).alloc (B0.out.size) _)) (by (try simp only [World.size_drew, World.size_alloc]); have := B0.out.size; omega) hb⟩
       have ZB1 := Aside0.mk (blk_below (by first | exact blk_drew (blk_new W0 _) | exact blk_new W0 _) hb)
       obtain ⟨A3, c3, e3⟩ := Kd.R_slice h3
       subst e3
       obtain ⟨A4, c4, e4⟩ := Kd.R_slice h4
       subst e4
       obtain ⟨A5, c5, e5⟩ := Kd.R_slice h5
       subst e5
       have Q3 := Aside0.mk (Kd.R_lower h3 (show W_x.heap.size ≤ _ from (by (try simp only [World.size_drew, World.size_alloc]); have := B0.out.size; omega)))
       have Q4 := Aside0.mk (Kd.R_lower h4 (show W_x.heap.size ≤ _ from (by (try simp only [World.size_drew, World.size_alloc]); have := B0.out.size; omega)))
       have Q5 := Aside0.mk (Kd.R_lower h5 (show W_x.heap.size ≤ _ from (by (try simp only [World.size_drew, World.size_alloc]); have := B0.out.size; omega)))
       clear h3 h4 h5
       clear hb
       refine ⟨_, rfl, ?_⟩
       refine hK.out _ _ (hS _ B1.out) (fun hHeld => ?_)
       clear hK K
       refine norm_ (a' := ?_) ?_ ?_
       rotate_left
       · show Act.put _ (some 44) _ = _
         simp only [Act.put, List.setIfInBounds_toArray, List.set_cons_zero, List.set_cons_succ, i64_w, i32_w]
         rfl
       refine pure_ (i := 4) (N := some 40) (v := ?_) (a' := ?_) #[true, true, true, true, true, false, false, false, true, false, false, false] rfl rfl (by kernel_rfl) (fun _ _ _ h => h) (Or.inl ⟨by rfl, ?_⟩) ?_ ?_
       rotate_left
       · intro w'
         go_simp
         with_reducible rfl
       rotate_left
       · simp only [Act.put, List.setIfInBounds_toArray, List.set_cons_zero, List.set_cons_succ, i64_w, i32_w]
         rfl
       refine pure_ (i := 5) (N := some 45) (v := ?_) (a' := ?_) #[true, true, true, true, true, true, false, false, true, false, false, false] rfl rfl (by kernel_rfl) (fun _ _ _ h => h) (Or.inl ⟨by rfl, ?_⟩) ?_ ?_
       rotate_left
       · intro w'
         go_simp
         with_reducible rfl
       rotate_left
       · simp only [Act.put, List.setIfInBounds_toArray, List.set_cons_zero, List.set_cons_succ, i64_w, i32_w]
         rfl
       refine pure_ (i := 6) (N := some 46) (v := ?_) (a' := ?_) #[true, true, true, true, true, true, true, false, true, false, false, false] rfl rfl (by kernel_rfl) (fun _ _ _ h => h) (Or.inl ⟨by rfl, ?_⟩) ?_ ?_
       rotate_left
       · intro w'
         go_simp
         with_reducible rfl
       rotate_left
       · simp only [Act.put, List.setIfInBounds_toArray, List.set_cons_zero, List.set_cons_succ, i64_w, i32_w]
         rfl
       refine pure_ (i := 7) (N := some 47) (v := ?_) (a' := ?_) #[true, true, true, true, true, true, true, true, true, false, false, false] rfl rfl (by kernel_rfl) (fun _ _ _ h => h) (Or.inl ⟨by rfl, ?_⟩) ?_ ?_
       rotate_left
       · intro w'
         go_simp
         with_reducible rfl
       rotate_left
       · simp only [Act.put, List.setIfInBounds_toArray, List.set_cons_zero, List.set_cons_succ, i64_w, i32_w]
         rfl
       exact norm_ (by first | (simp only [putAll, Act.put, List.setIfInBounds_toArray, List.set_cons_zero, List.set_cons_succ]; done) | (simp only [putAll, Act.put, List.setIfInBounds_toArray, List.set_cons_zero, List.set_cons_succ]; rfl)) (hCont ⟨none, 0, none, 0, A3, c3, A4, c4, A5, c5, W0.heap.size⟩ _ ⟨B1.out, B0.out.size, ZB1.out, kr Q3.out, kr Q4.out, kr Q5.out⟩)
   · skip
     go_simp
     refine hK.out _ _ (hS _ (by first | exact below_drew (below_alloc (Below.refl _ _) _) | exact below_alloc (below_drew (Below.refl _ _)) _)) (fun hHeld => ?_)
     clear hK K
     refine norm_ (a' := ?_) ?_ ?_
     rotate_left
     · rfl
     refine one_ (i := 2) (N := some 43) #[true, true, true, false, false, false, false, false, true, false, false, false] rfl rfl (by kernel_rfl) (by decide) (fun K hK => ?_)
     refine goes_ Try.func26 (by kernel_rfl) rfl #[.agg #[.string a1_0, .string a1_1]] (by rfl) rfl rfl (by (try simp only [List.map_toArray, List.map_cons, List.map_nil]); first | done | rfl) ?_
     refine (laws_toEntry.calls a1_0 a1_1 a1_0 a1_1 _ rfl).mono ?_
     rintro e W0 ⟨rfl, hb⟩
     have B0 : Aside0 (Below W_x.heap.size W_x W0) := ⟨below_then (by first | exact below_drew (below_alloc (Below.refl _ _) _) | exact below_alloc (below_drew (Below.refl _ _)) _) (by (try simp only [World.size_drew, World.size_alloc]); have := Nat.le_refl W_x.heap.size; omega) hb⟩
     have ZB0 := Aside0.mk (blk_below (by first | exact blk_drew (blk_new W_x _) | exact blk_new W_x _) hb)
     clear hb
     refine ⟨_, rfl, ?_⟩
     refine hK.out _ _ (hS _ B0.out) (fun hHeld => ?_)
     clear hK K
     refine norm_ (a' := ?_) ?_ ?_
     rotate_left
     · show Act.put _ (some 43) _ = _
       simp only [Act.put, List.setIfInBounds_toArray, List.set_cons_zero, List.set_cons_succ, i64_w, i32_w]
       rfl
     refine one_ (i := 3) (N := some 44) #[true, true, true, true, false, false, false, false, true, false, false, false] rfl rfl (by kernel_rfl) (by decide) (fun K hK => ?_)
     refine goes_ Try.func21 (by kernel_rfl) rfl #[.agg #[.int .i64 n, .int .i64 o, .slice Ax3 t.length cx3, .slice Ax4 s.length cx4], .agg #[.string a1_0, .string a1_1]] (by rfl) rfl rfl (by (try simp only [List.map_toArray, List.map_cons, List.map_nil]); first | done | rfl) ?_
     refine (impl_PutEntry.calls k n o Ax3 cx3 t Ax4 cx4 s a1_0 a1_1 q1 q2 q3 q4 q5 q6 _ (Kd.C_below (Kd.R_reads' R_x3.out).2.2 (by repeat (first | exact Below.refl _ _ | refine below_drew ?_ | refine below_alloc ?_ _ | exact B0.out | exact B1.out | exact (B0.out).alloc B0.out.size _ | exact below_drew ((B0.out).alloc B0.out.size _) | exact below_alloc B0.out _))) (Kd.R_reads' R_x3.out).2.1 (Kd.C_below (Kd.R_reads' R_x4.out).2.2 (by repeat (first | exact Below.refl _ _ | refine below_drew ?_ | refine below_alloc ?_ _ | exact B0.out | exact B1.out | exact (B0.out).alloc B0.out.size _ | exact below_drew ((B0.out).alloc B0.out.size _) | exact below_alloc B0.out _))) (Kd.R_reads' R_x4.out).2.1 FA.out.im).mono ?_
     rintro e W1 ⟨v3, v4, v5, rfl, h3, h4, h5, hb⟩
     have B1 : Aside0 (Below W_x.heap.size W_x W1) := ⟨below_then B0.out (by (try simp only [World.size_drew, World.size_alloc]); have := B0.out.size; omega) hb⟩
     have ZB1 := Aside0.mk (blk_below ZB0.out hb)
     obtain ⟨A3, c3, e3⟩ := Kd.R_slice h3
     subst e3
     obtain ⟨A4, c4, e4⟩ := Kd.R_slice h4
     subst e4
     obtain ⟨A5, c5, e5⟩ := Kd.R_slice h5
     subst e5
     have Q3 := Aside0.mk (Kd.R_lower h3 (show W_x.heap.size ≤ _ from (by (try simp only [World.size_drew, World.size_alloc]); have := B0.out.size; omega)))
     have Q4 := Aside0.mk (Kd.R_lower h4 (show W_x.heap.size ≤ _ from (by (try simp only [World.size_drew, World.size_alloc]); have := B0.out.size; omega)))
     have Q5 := Aside0.mk (Kd.R_lower h5 (show W_x.heap.size ≤ _ from (by (try simp only [World.size_drew, World.size_alloc]); have := B0.out.size; omega)))
     clear h3 h4 h5
     clear hb
     refine ⟨_, rfl, ?_⟩
     refine hK.out _ _ (hS _ B1.out) (fun hHeld => ?_)
     clear hK K
     refine norm_ (a' := ?_) ?_ ?_
     rotate_left
     · show Act.put _ (some 44) _ = _
       simp only [Act.put, List.setIfInBounds_toArray, List.set_cons_zero, List.set_cons_succ, i64_w, i32_w]
       rfl
     refine pure_ (i := 4) (N := some 40) (v := ?_) (a' := ?_) #[true, true, true, true, true, false, false, false, true, false, false, false] rfl rfl (by kernel_rfl) (fun _ _ _ h => h) (Or.inl ⟨by rfl, ?_⟩) ?_ ?_
     rotate_left
     · intro w'
       go_simp
       with_reducible rfl
     rotate_left
     · simp only [Act.put, List.setIfInBounds_toArray, List.set_cons_zero, List.set_cons_succ, i64_w, i32_w]
       rfl
     refine pure_ (i := 5) (N := some 45) (v := ?_) (a' := ?_) #[true, true, true, true, true, true, false, false, true, false, false, false] rfl rfl (by kernel_rfl) (fun _ _ _ h => h) (Or.inl ⟨by rfl, ?_⟩) ?_ ?_
     rotate_left
     · intro w'
       go_simp
       with_reducible rfl
     rotate_left
     · simp only [Act.put, List.setIfInBounds_toArray, List.set_cons_zero, List.set_cons_succ, i64_w, i32_w]
       rfl
     refine pure_ (i := 6) (N := some 46) (v := ?_) (a' := ?_) #[true, true, true, true, true, true, true, false, true, false, false, false] rfl rfl (by kernel_rfl) (fun _ _ _ h => h) (Or.inl ⟨by rfl, ?_⟩) ?_ ?_
     rotate_left
     · intro w'
       go_simp
       with_reducible rfl
     rotate_left
     · simp only [Act.put, List.setIfInBounds_toArray, List.set_cons_zero, List.set_cons_succ, i64_w, i32_w]
       rfl
     refine pure_ (i := 7) (N := some 47) (v := ?_) (a' := ?_) #[true, true, true, true, true, true, true, true, true, false, false, false] rfl rfl (by kernel_rfl) (fun _ _ _ h => h) (Or.inl ⟨by rfl, ?_⟩) ?_ ?_
     rotate_left
     · intro w'
       go_simp
       with_reducible rfl
     rotate_left
     · simp only [Act.put, List.setIfInBounds_toArray, List.set_cons_zero, List.set_cons_succ, i64_w, i32_w]
       rfl
     exact norm_ (by first | (simp only [putAll, Act.put, List.setIfInBounds_toArray, List.set_cons_zero, List.set_cons_succ]; done) | (simp only [putAll, Act.put, List.setIfInBounds_toArray, List.set_cons_zero, List.set_cons_succ]; rfl)) (hCont ⟨none, 0, none, 0, A3, c3, A4, c4, A5, c5, W_x.heap.size⟩ _ ⟨B1.out, Nat.le_refl _, ZB1.out, kr Q3.out, kr Q4.out, kr Q5.out⟩)
 rintro ⟨Ax, cx, Ay, cy, Ag3, cg3, Ag4, cg4, Ag5, cg5, g_g⟩ V_ ⟨hb, hg, hz, hq3, hq4, hq5⟩
 dsimp only at hg hz hq3 hq4 hq5
 refine norm_ (a' := ?_) ?_ ?_
 rotate_left
 · simp only [putAll, Act.put, List.setIfInBounds_toArray, List.set_cons_zero, List.set_cons_succ]
   rfl
 have hlow := HB.out.size
 have G_g : Aside0 (w.heap.size ≤ g_g) := ⟨Nat.le_trans hlow hg⟩
 have N_wg3_w3 := Aside0.mk (far_ R_w3.out hq3 (Nat.le_refl _))
 have N_wg4_w3 := Aside0.mk (far_ R_w3.out hq4 (Nat.le_refl _))
 have N_wg5_w3 := Aside0.mk (far_ R_w3.out hq5 (Nat.le_refl _))
 have N_wg3_w4 := Aside0.mk (far_ R_w4.out hq3 (Nat.le_refl _))
 have N_wg4_w4 := Aside0.mk (far_ R_w4.out hq4 (Nat.le_refl _))
 have N_wg5_w4 := Aside0.mk (far_ R_w4.out hq5 (Nat.le_refl _))
 have N_wg3_w5 := Aside0.mk (far_ R_w5.out hq3 (Nat.le_refl _))
 have N_wg4_w5 := Aside0.mk (far_ R_w5.out hq4 (Nat.le_refl _))
 have N_wg5_w5 := Aside0.mk (far_ R_w5.out hq5 (Nat.le_refl _))
 have N_xg3_x3 := Aside0.mk (far_ R_x3.out hq3 (Nat.le_refl _))
 have N_xg4_x3 := Aside0.mk (far_ R_x3.out hq4 (Nat.le_refl _))
 have N_xg5_x3 := Aside0.mk (far_ R_x3.out hq5 (Nat.le_refl _))
 have N_xg3_x4 := Aside0.mk (far_ R_x4.out hq3 (Nat.le_refl _))
 have N_xg4_x4 := Aside0.mk (far_ R_x4.out hq4 (Nat.le_refl _))
 have N_xg5_x4 := Aside0.mk (far_ R_x4.out hq5 (Nat.le_refl _))
 replace R_w3 := Aside0.mk (Kd.R_below R_w3.out hb)
 replace R_w4 := Aside0.mk (Kd.R_below R_w4.out hb)
 replace R_w5 := Aside0.mk (Kd.R_below R_w5.out hb)
 replace R_x3 := Aside0.mk (Kd.R_below R_x3.out hb)
 replace R_x4 := Aside0.mk (Kd.R_below R_x4.out hb)
 replace K_s := Aside0.mk (blk_below K_s.out hb)
 replace K_e := Aside0.mk (blk_below K_e.out hb)
 replace K_w := Aside0.mk (blk_below K_w.out hb)
 replace K_x := Aside0.mk (blk_below K_x.out hb)
 replace HB := Aside0.mk (below_step HB.out hb)
 have D_g3 := Aside0.mk hq3.1
 have R_g3 := Aside0.mk (tr_ (Kd.R_lower hq3 hlow))
 have D_g4 := Aside0.mk hq4.1
 have R_g4 := Aside0.mk (tr_ (Kd.R_lower hq4 hlow))
 have D_g5 := Aside0.mk hq5.1
 have R_g5 := Aside0.mk (tr_ (Kd.R_lower hq5 hlow))
 have hs0 := (blk_cell hz 0).trans rfl
 have hs1 := (blk_cell hz 1).trans rfl
 have hs2 := (blk_cell hz 2).trans rfl
 have hs3 := (blk_cell hz 3).trans rfl
 have hf0 := blk_frozen hz 0
 have hf1 := blk_frozen hz 1
 have hf2 := blk_frozen hz 2
 have hf3 := blk_frozen hz 3
 have hbV := Aside0.mk hb
 have HZ := Aside0.mk hz
 have HG := Aside0.mk hg
 clear hb hg hz hq3 hq4 hq5
 refine one_ (i := 9) (N := none) #[true, true, true, true, true, true, true, true, true, true, false, false] rfl rfl (by kernel_rfl) (by decide) (fun K hK => ?_)
 go_simp
 refine hK.out _ _ (hS _ ((((hbV.out.setCell HG.out _).setCell HG.out _).setCell HG.out _).setCell HG.out _)) (fun hHeld => ?_)
 clear hK K
 refine norm_ (a' := ?_) ?_ ?_
 rotate_left
 · rfl
 refine pure_ (i := 10) (N := some 11) (v := ?_) (a' := ?_) #[true, true, true, true, true, true, true, true, true, true, true, false] rfl rfl (by kernel_rfl) (fun _ _ _ h => h) (Or.inl ⟨by rfl, ?_⟩) ?_ ?_
 rotate_left
 · intro w'
   go_simp
   with_reducible rfl
 rotate_left
 · simp only [Act.put, List.setIfInBounds_toArray, List.set_cons_zero, List.set_cons_succ, i64_w, i32_w]
   rfl
 refine pure_ (i := 11) (N := some 12) (v := ?_) (a' := ?_) #[true, true, true, true, true, true, true, true, true, true, true, true] rfl rfl (by kernel_rfl) (fun _ _ _ h => h) (Or.inl ⟨by rfl, ?_⟩) ?_ ?_
 rotate_left
 · intro w'
   go_simp
   with_reducible rfl
 rotate_left
 · simp only [Act.put, List.setIfInBounds_toArray, List.set_cons_zero, List.set_cons_succ, i64_w, i32_w]
   rfl
 refine done_ (by kernel_rfl) ?_
 obtain ⟨W_g, hW⟩ : ∃ W_, ((((V_.setCell ⟨g_g, 0, none⟩ (.int .i64 q1)).setCell ⟨g_g, 1, none⟩ (.int .i64 q2)).setCell ⟨g_g, 2, none⟩ (.slice Ag3 q3.length cg3)).setCell ⟨g_g, 3, none⟩ (.slice Ag4 q4.length cg4)) = W_ := ⟨_, rfl⟩
 rw [hW]
 replace R_w3 : Aside0 (Kd.R k45 45 W_g w.heap.size (fun k_ => some k_ = (.slice Aw3 q3.length cw3 : Value).ownBlock) (.slice Aw3 q3.length cw3) q3) := ⟨by rw [← hW]; exact Kd.R_set (Kd.R_set (Kd.R_set (Kd.R_set R_w3.out HZ.out (by decide) 0 _) (blk_set HZ.out 0 _) (by decide) 1 _) (blk_set (blk_set HZ.out 0 _) 1 _) (by decide) 2 _) (blk_set (blk_set (blk_set HZ.out 0 _) 1 _) 2 _) (by decide) 3 _⟩
 replace R_w4 : Aside0 (Kd.R k45 45 W_g w.heap.size (fun k_ => some k_ = (.slice Aw4 q4.length cw4 : Value).ownBlock) (.slice Aw4 q4.length cw4) q4) := ⟨by rw [← hW]; exact Kd.R_set (Kd.R_set (Kd.R_set (Kd.R_set R_w4.out HZ.out (by decide) 0 _) (blk_set HZ.out 0 _) (by decide) 1 _) (blk_set (blk_set HZ.out 0 _) 1 _) (by decide) 2 _) (blk_set (blk_set (blk_set HZ.out 0 _) 1 _) 2 _) (by decide) 3 _⟩
 replace R_w5 : Aside0 (Kd.R k45 45 W_g w.heap.size (fun k_ => some k_ = (.slice Aw5 q5.length cw5 : Value).ownBlock) (.slice Aw5 q5.length cw5) q5) := ⟨by rw [← hW]; exact Kd.R_set (Kd.R_set (Kd.R_set (Kd.R_set R_w5.out HZ.out (by decide) 0 _) (blk_set HZ.out 0 _) (by decide) 1 _) (blk_set (blk_set HZ.out 0 _) 1 _) (by decide) 2 _) (blk_set (blk_set (blk_set HZ.out 0 _) 1 _) 2 _) (by decide) 3 _⟩
 replace R_x3 : Aside0 (Kd.R k45 45 W_g w.heap.size (fun k_ => some k_ = (.slice Ax3 t.length cx3 : Value).ownBlock) (.slice Ax3 t.length cx3) t) := ⟨by rw [← hW]; exact Kd.R_set (Kd.R_set (Kd.R_set (Kd.R_set R_x3.out HZ.out (by decide) 0 _) (blk_set HZ.out 0 _) (by decide) 1 _) (blk_set (blk_set HZ.out 0 _) 1 _) (by decide) 2 _) (blk_set (blk_set (blk_set HZ.out 0 _) 1 _) 2 _) (by decide) 3 _⟩
 replace R_x4 : Aside0 (Kd.R k45 45 W_g w.heap.size (fun k_ => some k_ = (.slice Ax4 s.length cx4 : Value).ownBlock) (.slice Ax4 s.length cx4) s) := ⟨by rw [← hW]; exact Kd.R_set (Kd.R_set (Kd.R_set (Kd.R_set R_x4.out HZ.out (by decide) 0 _) (blk_set HZ.out 0 _) (by decide) 1 _) (blk_set (blk_set HZ.out 0 _) 1 _) (by decide) 2 _) (blk_set (blk_set (blk_set HZ.out 0 _) 1 _) 2 _) (by decide) 3 _⟩
 replace R_g3 : Aside0 (Kd.R k45 45 W_g w.heap.size (fun k_ => some k_ = (.slice Ag3 q3.length cg3 : Value).ownBlock) (.slice Ag3 q3.length cg3) q3) := ⟨by rw [← hW]; exact Kd.R_set (Kd.R_set (Kd.R_set (Kd.R_set R_g3.out HZ.out (by decide) 0 _) (blk_set HZ.out 0 _) (by decide) 1 _) (blk_set (blk_set HZ.out 0 _) 1 _) (by decide) 2 _) (blk_set (blk_set (blk_set HZ.out 0 _) 1 _) 2 _) (by decide) 3 _⟩
 replace R_g4 : Aside0 (Kd.R k45 45 W_g w.heap.size (fun k_ => some k_ = (.slice Ag4 q4.length cg4 : Value).ownBlock) (.slice Ag4 q4.length cg4) q4) := ⟨by rw [← hW]; exact Kd.R_set (Kd.R_set (Kd.R_set (Kd.R_set R_g4.out HZ.out (by decide) 0 _) (blk_set HZ.out 0 _) (by decide) 1 _) (blk_set (blk_set HZ.out 0 _) 1 _) (by decide) 2 _) (blk_set (blk_set (blk_set HZ.out 0 _) 1 _) 2 _) (by decide) 3 _⟩
 replace R_g5 : Aside0 (Kd.R k45 45 W_g w.heap.size (fun k_ => some k_ = (.slice Ag5 q5.length cg5 : Value).ownBlock) (.slice Ag5 q5.length cg5) q5) := ⟨by rw [← hW]; exact Kd.R_set (Kd.R_set (Kd.R_set (Kd.R_set R_g5.out HZ.out (by decide) 0 _) (blk_set HZ.out 0 _) (by decide) 1 _) (blk_set (blk_set HZ.out 0 _) 1 _) (by decide) 2 _) (blk_set (blk_set (blk_set HZ.out 0 _) 1 _) 2 _) (by decide) 3 _⟩
 have NB_s : Aside0 (g_s ≠ g_g) := ⟨by have := L_s.out; have := HG.out; omega⟩
 replace K_s : Aside0 (W_g.heap[g_s]? = some (.cells #[.int .i64 a0_0, .int .i64 a0_1, .slice A0_2 l0_2.length c0_2, .slice A0_3 l0_3.length c0_3] 24 (0, 0))) := ⟨by rw [← hW]; exact blk_far (blk_far (blk_far (blk_far K_s.out NB_s.out _) NB_s.out _) NB_s.out _) NB_s.out _⟩
 clear NB_s
 have NB_e : Aside0 (g_e ≠ g_g) := ⟨by have := L_e.out; have := HG.out; omega⟩
 replace K_e : Aside0 (W_g.heap[g_e]? = some (.cells #[.string a1_0, .string a1_1] 49 (0, 0))) := ⟨by rw [← hW]; exact blk_far (blk_far (blk_far (blk_far K_e.out NB_e.out _) NB_e.out _) NB_e.out _) NB_e.out _⟩
 clear NB_e
 have NB_w : Aside0 (g_w ≠ g_g) := ⟨by have := L_w.out; have := HG.out; omega⟩
 replace K_w : Aside0 (W_g.heap[g_w]? = some (.cells #[.int .i64 q1, .int .i64 q2, .slice Aw3 q3.length cw3, .slice Aw4 q4.length cw4] 28 (0, 0))) := ⟨by rw [← hW]; exact blk_far (blk_far (blk_far (blk_far K_w.out NB_w.out _) NB_w.out _) NB_w.out _) NB_w.out _⟩
 clear NB_w
 have NB_x : Aside0 (g_x ≠ g_g) := ⟨by have := L_x.out; have := HG.out; omega⟩
 replace K_x : Aside0 (W_g.heap[g_x]? = some (.cells #[.int .i64 n, .int .i64 o, .slice Ax3 t.length cx3, .slice Ax4 s.length cx4] 28 (0, 0))) := ⟨by rw [← hW]; exact blk_far (blk_far (blk_far (blk_far K_x.out NB_x.out _) NB_x.out _) NB_x.out _) NB_x.out _⟩
 clear NB_x
 have K_g : Aside0 (W_g.heap[g_g]? = some (.cells #[.int .i64 q1, .int .i64 q2, .slice Ag3 q3.length cg3, .slice Ag4 q4.length cg4] 28 (0, 0))) := ⟨by rw [← hW]; refine blk_put (cs := #[.int .i64 q1, .int .i64 q2, .slice Ag3 q3.length cg3, .slice none 0 0]) ?_ 3 _ rfl; refine blk_put (cs := #[.int .i64 q1, .int .i64 q2, .slice none 0 0, .slice none 0 0]) ?_ 2 _ rfl; refine blk_put (cs := #[.int .i64 q1, .int .i64 0, .slice none 0 0, .slice none 0 0]) ?_ 1 _ rfl; refine blk_put (cs := #[.int .i64 0, .int .i64 0, .slice none 0 0, .slice none 0 0]) ?_ 0 _ rfl; exact HZ.out⟩
 replace HB : Aside0 (Below w.heap.size w W_g) := ⟨by rw [← hW]; exact ((((HB.out.setCell G_g.out _).setCell G_g.out _).setCell G_g.out _).setCell G_g.out _)⟩
 clear hW hs0 hs1 hs2 hs3 hf0 hf1 hf2 hf3 hbV HZ HG hS hHeld
 have L_s : Aside0 (g_s < W_g.heap.size) := ⟨blk_lt K_s.out⟩
 have L_e : Aside0 (g_e < W_g.heap.size) := ⟨blk_lt K_e.out⟩
 have L_w : Aside0 (g_w < W_g.heap.size) := ⟨blk_lt K_w.out⟩
 have L_x : Aside0 (g_x < W_g.heap.size) := ⟨blk_lt K_x.out⟩
 have L_g : Aside0 (g_g < W_g.heap.size) := ⟨blk_lt K_g.out⟩
 have z_g_0 := (blk_cell K_g.out 0).trans rfl
 have z_g_1 := (blk_cell K_g.out 1).trans rfl
 have z_g_2 := (blk_cell K_g.out 2).trans rfl
 have z_g_3 := (blk_cell K_g.out 3).trans rfl
 have z_w_0 := (blk_cell K_w.out 0).trans rfl
 have z_w_1 := (blk_cell K_w.out 1).trans rfl
 have z_w_2 := (blk_cell K_w.out 2).trans rfl
 have z_w_3 := (blk_cell K_w.out 3).trans rfl
 go_wp2_with (first
   | (go_at_call 13; (with_reducible refine (laws_eqSegmented.calls k q1 q2 Ag3 cg3 q3 Ag4 cg4 q4 q1 q2 Aw3 cw3 q3 Aw4 cw4 q4 true _ (Kd.R_reads' R_g3.out).2.2 (Kd.R_reads' R_g3.out).2.1 (Kd.R_reads' R_g4.out).2.2 (Kd.R_reads' R_g4.out).2.1 (Kd.R_reads' R_w3.out).2.2 (Kd.R_reads' R_w3.out).2.1 (Kd.R_reads' R_w4.out).2.2 (Kd.R_reads' R_w4.out).2.1 FA.out.e1).mono ?_); rintro e W ⟨rfl, hb⟩; clear z_g_0 z_g_1 z_g_2 z_g_3 z_w_0 z_w_1 z_w_2 z_w_3; replace R_w3 := Aside0.mk (Kd.R_below R_w3.out hb); replace R_w4 := Aside0.mk (Kd.R_below R_w4.out hb); replace R_w5 := Aside0.mk (Kd.R_below R_w5.out hb); replace R_x3 := Aside0.mk (Kd.R_below R_x3.out hb); replace R_x4 := Aside0.mk (Kd.R_below R_x4.out hb); replace R_g3 := Aside0.mk (Kd.R_below R_g3.out hb); replace R_g4 := Aside0.mk (Kd.R_below R_g4.out hb); replace R_g5 := Aside0.mk (Kd.R_below R_g5.out hb); replace K_s := Aside0.mk (blk_below K_s.out hb); replace K_e := Aside0.mk (blk_below K_e.out hb); replace K_w := Aside0.mk (blk_below K_w.out hb); replace K_x := Aside0.mk (blk_below K_x.out hb); replace K_g := Aside0.mk (blk_below K_g.out hb); replace HB := Aside0.mk (below_step HB.out hb); clear hb)
   | (go_at_call 27; (with_reducible refine (laws_eqEntryS.calls k Ag5 cg5 q5 Aw5 cw5 q5 true _ (Kd.R_reads' R_g5.out).2.2 (Kd.R_reads' R_g5.out).2.1 (Kd.R_reads' R_w5.out).2.2 (Kd.R_reads' R_w5.out).2.1 FA.out.e2).mono ?_); rintro e W ⟨rfl, hb⟩; replace R_w3 := Aside0.mk (Kd.R_below R_w3.out hb); replace R_w4 := Aside0.mk (Kd.R_below R_w4.out hb); replace R_w5 := Aside0.mk (Kd.R_below R_w5.out hb); replace R_x3 := Aside0.mk (Kd.R_below R_x3.out hb); replace R_x4 := Aside0.mk (Kd.R_below R_x4.out hb); replace R_g3 := Aside0.mk (Kd.R_below R_g3.out hb); replace R_g4 := Aside0.mk (Kd.R_below R_g4.out hb); replace R_g5 := Aside0.mk (Kd.R_below R_g5.out hb); replace K_s := Aside0.mk (blk_below K_s.out hb); replace K_e := Aside0.mk (blk_below K_e.out hb); replace K_w := Aside0.mk (blk_below K_w.out hb); replace K_x := Aside0.mk (blk_below K_x.out hb); replace K_g := Aside0.mk (blk_below K_g.out hb); replace HB := Aside0.mk (below_step HB.out hb); clear hb))
 obtain ⟨W_1, hW⟩ : ∃ W_, W = W_ := ⟨_, rfl⟩
 subst hW
 have hS : ∀ V_, Below W.heap.size W V_ → V_.cell? ⟨g_x, 0, none⟩ = some (.int .i64 n) ∧ V_.cell? ⟨g_x, 1, none⟩ = some (.int .i64 o) ∧ V_.cell? ⟨g_x, 2, none⟩ = some (.slice Ax3 t.length cx3) ∧ V_.cell? ⟨g_x, 3, none⟩ = some (.slice Ax4 s.length cx4) ∧ V_.cell? ⟨g_s, 0, none⟩ = some (.int .i64 a0_0) ∧ V_.cell? ⟨g_s, 1, none⟩ = some (.int .i64 a0_1) ∧ V_.cell? ⟨g_s, 2, none⟩ = some (.slice A0_2 l0_2.length c0_2) ∧ V_.cell? ⟨g_s, 3, none⟩ = some (.slice A0_3 l0_3.length c0_3) := fun V_ hb => ⟨(blk_cell (blk_below K_x.out hb) 0).trans rfl, (blk_cell (blk_below K_x.out hb) 1).trans rfl, (blk_cell (blk_below K_x.out hb) 2).trans rfl, (blk_cell (blk_below K_x.out hb) 3).trans rfl, (blk_cell (blk_below K_s.out hb) 0).trans rfl, (blk_cell (blk_below K_s.out hb) 1).trans rfl, (blk_cell (blk_below K_s.out hb) 2).trans rfl, (blk_cell (blk_below K_s.out hb) 3).trans rfl⟩
 refine start_ (n := 5) (S := fun w' => w'.cell? ⟨g_x, 0, none⟩ = some (.int .i64 n) ∧ w'.cell? ⟨g_x, 1, none⟩ = some (.int .i64 o) ∧ w'.cell? ⟨g_x, 2, none⟩ = some (.slice Ax3 t.length cx3) ∧ w'.cell? ⟨g_x, 3, none⟩ = some (.slice Ax4 s.length cx4) ∧ w'.cell? ⟨g_s, 0, none⟩ = some (.int .i64 a0_0) ∧ w'.cell? ⟨g_s, 1, none⟩ = some (.int .i64 a0_1) ∧ w'.cell? ⟨g_s, 2, none⟩ = some (.slice A0_2 l0_2.length c0_2) ∧ w'.cell? ⟨g_s, 3, none⟩ = some (.slice A0_3 l0_3.length c0_3)) (ds := []) #[false, false, false, false, false] (by kernel_rfl) rfl rfl (hS _ (below_drew (Below.refl _ _))) (fun hHeld => ?_)
 refine take_ (i := 0) (N := some 63) (v := ?_) (a' := ?_) #[true, false, false, false, false] rfl rfl (by kernel_rfl) (fun _ _ _ h => h) (Or.inl ⟨by rfl, ?_⟩) hHeld ?_ ?_
 rotate_left
 · rintro w' ⟨s0, s1, s2, s3, s4, s5, s6, s7⟩
   go_simp
   with_reducible rfl
 rotate_left
 · simp only [Act.put, List.setIfInBounds_toArray, List.set_cons_zero, List.set_cons_succ, i64_w, i32_w]
   rfl
 refine take_ (i := 1) (N := some 64) (v := ?_) (a' := ?_) #[true, true, false, false, false] rfl rfl (by kernel_rfl) (fun _ _ _ h => h) (Or.inl ⟨by rfl, ?_⟩) hHeld ?_ ?_
 rotate_left
 · rintro w' ⟨s0, s1, s2, s3, s4, s5, s6, s7⟩
   go_simp
   with_reducible rfl
 rotate_left
 · simp only [Act.put, List.setIfInBounds_toArray, List.set_cons_zero, List.set_cons_succ, i64_w, i32_w]
   rfl
 refine one_ (i := 2) (N := some 65) #[true, true, true, false, false] rfl rfl (by kernel_rfl) (by decide) (fun K hK => ?_)
 refine goes_ Try.func11 (by kernel_rfl) rfl #[.agg #[.int .i64 a0_0, .int .i64 a0_1, .slice A0_2 l0_2.length c0_2, .slice A0_3 l0_3.length c0_3]] (by rfl) rfl rfl (by (try simp only [List.map_toArray, List.map_cons, List.map_nil]); first | done | rfl) ?_
 refine (laws_toSegmented.calls k a0_0 a0_1 A0_2 c0_2 l0_2 A0_3 c0_3 l0_3 n o t s _ (Kd.C_below HR2.out (below_then HB.out HB.out.size (below_drew (Below.refl _ _)))) HC2.out (Kd.C_below HR3.out (below_then HB.out HB.out.size (below_drew (Below.refl _ _)))) HC3.out FA.out.tS).mono ?_
 rintro e W0 ⟨vx, vy, rfl, hx, hy, hb⟩
 have B0 : Aside0 (Below W.heap.size W W0) := ⟨below_then (below_drew (Below.refl _ _)) (Nat.le_refl _) hb⟩
 obtain ⟨Ax, cx, ex⟩ := Kd.R_slice hx
 subst ex
 obtain ⟨Ay, cy, ey⟩ := Kd.R_slice hy
 subst ey
 have X := Aside0.mk hx
 have Y := Aside0.mk hy
 clear hx hy hb
 refine ⟨_, rfl, ?_⟩
 refine hK.out _ _ (hS _ B0.out) (fun hHeld => ?_)
 clear hK K
 refine norm_ (a' := ?_) ?_ ?_
 rotate_left
 · show Act.put _ (some 65) _ = _
   simp only [Act.put, List.setIfInBounds_toArray, List.set_cons_zero, List.set_cons_succ, i64_w, i32_w]
   rfl
 refine one_ (i := 3) (N := some 66) #[true, true, true, true, false] rfl rfl (by kernel_rfl) (by decide) (fun K hK => ?_)
 refine goes_ Try.func13 (by kernel_rfl) rfl #[.agg #[.int .i64 n, .int .i64 o, .slice Ax3 t.length cx3, .slice Ax4 s.length cx4], .agg #[.int .i64 n, .int .i64 o, .slice Ax t.length cx, .slice Ay s.length cy]] (by rfl) rfl rfl (by (try simp only [List.map_toArray, List.map_cons, List.map_nil]); first | done | rfl) ?_
 refine (laws_eqSegmented.calls k n o Ax3 cx3 t Ax4 cx4 s n o Ax cx t Ay cy s true _ (Kd.C_below (Kd.R_reads' R_x3.out).2.2 B0.out) (Kd.R_reads' R_x3.out).2.1 (Kd.C_below (Kd.R_reads' R_x4.out).2.2 B0.out) (Kd.R_reads' R_x4.out).2.1 (Kd.R_reads' X.out).2.2 (Kd.R_reads' X.out).2.1 (Kd.R_reads' Y.out).2.2 (Kd.R_reads' Y.out).2.1 FA.out.e3).mono ?_
 rintro e W1 ⟨rfl, hb1⟩
 have hb : Below W.heap.size W W1 := below_then B0.out B0.out.size hb1
 refine ⟨_, rfl, ?_⟩
 refine hK.out _ _ (hS _ hb) (fun hHeld => ?_)
 clear hK K
 refine norm_ (a' := ?_) ?_ ?_
 rotate_left
 · show Act.put _ (some 66) _ = _
   simp only [Act.put, List.setIfInBounds_toArray, List.set_cons_zero, List.set_cons_succ, i64_w, i32_w]
   rfl
 refine pure_ (i := 4) (N := some 67) (v := ?_) (a' := ?_) #[true, true, true, true, true] rfl rfl (by kernel_rfl) (fun _ _ _ h => h) (Or.inl ⟨by rfl, ?_⟩) ?_ ?_
 rotate_left
 · intro w'
   go_simp
   with_reducible rfl
 rotate_left
 · simp only [Act.put, List.setIfInBounds_toArray, List.set_cons_zero, List.set_cons_succ, i64_w, i32_w]
   rfl
 refine done_ (by kernel_rfl) ?_
 replace R_w3 := Aside0.mk (Kd.R_below R_w3.out hb)
 replace R_w4 := Aside0.mk (Kd.R_below R_w4.out hb)
 replace R_w5 := Aside0.mk (Kd.R_below R_w5.out hb)
 replace R_x3 := Aside0.mk (Kd.R_below R_x3.out hb)
 replace R_x4 := Aside0.mk (Kd.R_below R_x4.out hb)
 replace R_g3 := Aside0.mk (Kd.R_below R_g3.out hb)
 replace R_g4 := Aside0.mk (Kd.R_below R_g4.out hb)
 replace R_g5 := Aside0.mk (Kd.R_below R_g5.out hb)
 replace K_s := Aside0.mk (blk_below K_s.out hb)
 replace K_e := Aside0.mk (blk_below K_e.out hb)
 replace K_w := Aside0.mk (blk_below K_w.out hb)
 replace K_x := Aside0.mk (blk_below K_x.out hb)
 replace K_g := Aside0.mk (blk_below K_g.out hb)
 replace HB := Aside0.mk (below_step HB.out hb)
 clear hb hb1 B0 X Y hS hHeld
 have z_x_0 := (blk_cell K_x.out 0).trans rfl
 have z_x_1 := (blk_cell K_x.out 1).trans rfl
 have z_x_2 := (blk_cell K_x.out 2).trans rfl
 have z_x_3 := (blk_cell K_x.out 3).trans rfl
 go_wp2_with (first
   | (go_at_call 14; (with_reducible refine (laws_markSegmented.calls k n o (fun k_ => some k_ = (.slice Ax3 t.length cx3 : Value).ownBlock) (.slice Ax3 t.length cx3) t (fun k_ => some k_ = (.slice Ax4 s.length cx4 : Value).ownBlock) (.slice Ax4 s.length cx4) s 1 k1 tm sm w _ HB.out R_x3.out (fun k_ hk_ => D_x3.out k_ hk_.symm) R_x4.out (fun k_ hk_ => D_x4.out k_ hk_.symm) FA.out.m1).mono ?_); rintro e W ⟨rfl, h3, h4, hB, hk⟩; clear z_x_0 z_x_1 z_x_2 z_x_3; have S_w3 := Aside0.mk (Kd.R_kept R_w3.out hk (fun k_ hk_ hs_ => hs_.elim ((N_x3_w3.out k_ hk_.symm)) ((N_x4_w3.out k_ hk_.symm)))); have S_w4 := Aside0.mk (Kd.R_kept R_w4.out hk (fun k_ hk_ hs_ => hs_.elim ((N_x3_w4.out k_ hk_.symm)) ((N_x4_w4.out k_ hk_.symm)))); have S_w5 := Aside0.mk (Kd.R_kept R_w5.out hk (fun k_ hk_ hs_ => hs_.elim ((N_x3_w5.out k_ hk_.symm)) ((N_x4_w5.out k_ hk_.symm)))); have S_g3 := Aside0.mk (Kd.R_kept R_g3.out hk (fun k_ hk_ hs_ => hs_.elim ((fun he_ => N_xg3_x3.out k_ he_.symm hk_)) ((fun he_ => N_xg3_x4.out k_ he_.symm hk_)))); have S_g4 := Aside0.mk (Kd.R_kept R_g4.out hk (fun k_ hk_ hs_ => hs_.elim ((fun he_ => N_xg4_x3.out k_ he_.symm hk_)) ((fun he_ => N_xg4_x4.out k_ he_.symm hk_)))); have S_g5 := Aside0.mk (Kd.R_kept R_g5.out hk (fun k_ hk_ hs_ => hs_.elim ((fun he_ => N_xg5_x3.out k_ he_.symm hk_)) ((fun he_ => N_xg5_x4.out k_ he_.symm hk_)))); replace K_s := Aside0.mk (blk_kept K_s.out hk (fun hs_ => hs_.elim (fun h_ => Kd.R_ne R_x3.out K_s.out (by decide) h_) (fun h_ => Kd.R_ne R_x4.out K_s.out (by decide) h_))); replace K_e := Aside0.mk (blk_kept K_e.out hk (fun hs_ => hs_.elim (fun h_ => Kd.R_ne R_x3.out K_e.out (by decide) h_) (fun h_ => Kd.R_ne R_x4.out K_e.out (by decide) h_))); replace K_w := Aside0.mk (blk_kept K_w.out hk (fun hs_ => hs_.elim (fun h_ => Kd.R_ne R_x3.out K_w.out (by decide) h_) (fun h_ => Kd.R_ne R_x4.out K_w.out (by decide) h_))); replace K_x := Aside0.mk (blk_kept K_x.out hk (fun hs_ => hs_.elim (fun h_ => Kd.R_ne R_x3.out K_x.out (by decide) h_) (fun h_ => Kd.R_ne R_x4.out K_x.out (by decide) h_))); replace K_g := Aside0.mk (blk_kept K_g.out hk (fun hs_ => hs_.elim (fun h_ => Kd.R_ne R_x3.out K_g.out (by decide) h_) (fun h_ => Kd.R_ne R_x4.out K_g.out (by decide) h_))); clear hk; clear R_w3 R_w4 R_w5 R_x3 R_x4 R_g3 R_g4 R_g5; have R_w3 := S_w3; have R_w4 := S_w4; have R_w5 := S_w5; have R_g3 := S_g3; have R_g4 := S_g4; have R_g5 := S_g5; replace HB := Aside0.mk hB; clear hB h3 h4 S_w3 S_w4 S_w5 S_g3 S_g4 S_g5; have z_g_0 := (blk_cell K_g.out 0).trans rfl; have z_g_1 := (blk_cell K_g.out 1).trans rfl; have z_g_2 := (blk_cell K_g.out 2).trans rfl; have z_g_3 := (blk_cell K_g.out 3).trans rfl; have z_w_0 := (blk_cell K_w.out 0).trans rfl; have z_w_1 := (blk_cell K_w.out 1).trans rfl; have z_w_2 := (blk_cell K_w.out 2).trans rfl; have z_w_3 := (blk_cell K_w.out 3).trans rfl)
   | (go_at_call 13; (with_reducible refine (laws_eqSegmented.calls k q1 q2 Ag3 cg3 q3 Ag4 cg4 q4 q1 q2 Aw3 cw3 q3 Aw4 cw4 q4 true _ (Kd.R_reads' R_g3.out).2.2 (Kd.R_reads' R_g3.out).2.1 (Kd.R_reads' R_g4.out).2.2 (Kd.R_reads' R_g4.out).2.1 (Kd.R_reads' R_w3.out).2.2 (Kd.R_reads' R_w3.out).2.1 (Kd.R_reads' R_w4.out).2.2 (Kd.R_reads' R_w4.out).2.1 FA.out.e1).mono ?_); rintro e W ⟨rfl, hb⟩; clear z_g_0 z_g_1 z_g_2 z_g_3 z_w_0 z_w_1 z_w_2 z_w_3; replace R_w3 := Aside0.mk (Kd.R_below R_w3.out hb); replace R_w4 := Aside0.mk (Kd.R_below R_w4.out hb); replace R_w5 := Aside0.mk (Kd.R_below R_w5.out hb); replace R_g3 := Aside0.mk (Kd.R_below R_g3.out hb); replace R_g4 := Aside0.mk (Kd.R_below R_g4.out hb); replace R_g5 := Aside0.mk (Kd.R_below R_g5.out hb); replace K_s := Aside0.mk (blk_below K_s.out hb); replace K_e := Aside0.mk (blk_below K_e.out hb); replace K_w := Aside0.mk (blk_below K_w.out hb); replace K_x := Aside0.mk (blk_below K_x.out hb); replace K_g := Aside0.mk (blk_below K_g.out hb); replace HB := Aside0.mk (below_step HB.out hb); clear hb)
   | (go_at_call 27; (with_reducible refine (laws_eqEntryS.calls k Ag5 cg5 q5 Aw5 cw5 q5 true _ (Kd.R_reads' R_g5.out).2.2 (Kd.R_reads' R_g5.out).2.1 (Kd.R_reads' R_w5.out).2.2 (Kd.R_reads' R_w5.out).2.1 FA.out.e2).mono ?_); rintro e W ⟨rfl, hb⟩; replace R_w3 := Aside0.mk (Kd.R_below R_w3.out hb); replace R_w4 := Aside0.mk (Kd.R_below R_w4.out hb); replace R_w5 := Aside0.mk (Kd.R_below R_w5.out hb); replace R_g3 := Aside0.mk (Kd.R_below R_g3.out hb); replace R_g4 := Aside0.mk (Kd.R_below R_g4.out hb); replace R_g5 := Aside0.mk (Kd.R_below R_g5.out hb); replace K_s := Aside0.mk (blk_below K_s.out hb); replace K_e := Aside0.mk (blk_below K_e.out hb); replace K_w := Aside0.mk (blk_below K_w.out hb); replace K_x := Aside0.mk (blk_below K_x.out hb); replace K_g := Aside0.mk (blk_below K_g.out hb); replace HB := Aside0.mk (below_step HB.out hb); clear hb; have z_g_0 := (blk_cell K_g.out 0).trans rfl; have z_g_1 := (blk_cell K_g.out 1).trans rfl; have z_g_2 := (blk_cell K_g.out 2).trans rfl; have z_g_3 := (blk_cell K_g.out 3).trans rfl)
   | (go_at_call 14; (with_reducible refine (laws_markSegmented.calls k q1 q2 (fun k_ => some k_ = (.slice Ag3 q3.length cg3 : Value).ownBlock) (.slice Ag3 q3.length cg3) q3 (fun k_ => some k_ = (.slice Ag4 q4.length cg4 : Value).ownBlock) (.slice Ag4 q4.length cg4) q4 1 k2 q3m q4m w _ HB.out R_g3.out (fun k_ hk_ => (D_g3.out k_ hk_.symm).1) R_g4.out (fun k_ hk_ => (D_g4.out k_ hk_.symm).1) FA.out.m2).mono ?_); rintro e W ⟨rfl, h3, h4, hB, hk⟩; clear z_g_0 z_g_1 z_g_2 z_g_3; have S_w3 := Aside0.mk (Kd.R_kept R_w3.out hk (fun k_ hk_ hs_ => hs_.elim ((N_wg3_w3.out k_ hk_.symm)) ((N_wg4_w3.out k_ hk_.symm)))); have S_w4 := Aside0.mk (Kd.R_kept R_w4.out hk (fun k_ hk_ hs_ => hs_.elim ((N_wg3_w4.out k_ hk_.symm)) ((N_wg4_w4.out k_ hk_.symm)))); have S_w5 := Aside0.mk (Kd.R_kept R_w5.out hk (fun k_ hk_ hs_ => hs_.elim ((N_wg3_w5.out k_ hk_.symm)) ((N_wg4_w5.out k_ hk_.symm)))); have S_g5 := Aside0.mk (Kd.R_kept R_g5.out hk (fun k_ hk_ hs_ => hs_.elim ((D_g5.out k_ hk_.symm).1) ((D_g5.out k_ hk_.symm).2))); replace K_s := Aside0.mk (blk_kept K_s.out hk (fun hs_ => hs_.elim (fun h_ => Kd.R_ne R_g3.out K_s.out (by decide) h_) (fun h_ => Kd.R_ne R_g4.out K_s.out (by decide) h_))); replace K_e := Aside0.mk (blk_kept K_e.out hk (fun hs_ => hs_.elim (fun h_ => Kd.R_ne R_g3.out K_e.out (by decide) h_) (fun h_ => Kd.R_ne R_g4.out K_e.out (by decide) h_))); replace K_w := Aside0.mk (blk_kept K_w.out hk (fun hs_ => hs_.elim (fun h_ => Kd.R_ne R_g3.out K_w.out (by decide) h_) (fun h_ => Kd.R_ne R_g4.out K_w.out (by decide) h_))); replace K_x := Aside0.mk (blk_kept K_x.out hk (fun hs_ => hs_.elim (fun h_ => Kd.R_ne R_g3.out K_x.out (by decide) h_) (fun h_ => Kd.R_ne R_g4.out K_x.out (by decide) h_))); replace K_g := Aside0.mk (blk_kept K_g.out hk (fun hs_ => hs_.elim (fun h_ => Kd.R_ne R_g3.out K_g.out (by decide) h_) (fun h_ => Kd.R_ne R_g4.out K_g.out (by decide) h_))); clear hk; clear R_w3 R_w4 R_w5 R_g3 R_g4 R_g5; have R_w3 := S_w3; have R_w4 := S_w4; have R_w5 := S_w5; have R_g5 := S_g5; have R_g3 := Aside0.mk (tr_ h3); have R_g4 := Aside0.mk (tr_ h4); replace HB := Aside0.mk hB; clear hB h3 h4 S_w3 S_w4 S_w5 S_g5)
   | (go_at_call 28; (with_reducible refine (laws_markEntryS.calls k (fun k_ => some k_ = (.slice Ag5 q5.length cg5 : Value).ownBlock) (.slice Ag5 q5.length cg5) q5 k2 k3 q5m w _ HB.out R_g5.out FA.out.m3).mono ?_); rintro e W ⟨rfl, h5, hB, hk⟩; have S_w3 := Aside0.mk (Kd.R_kept R_w3.out hk (fun k_ hk_ hs_ => ((N_wg5_w3.out k_ hk_.symm)) hs_)); have S_w4 := Aside0.mk (Kd.R_kept R_w4.out hk (fun k_ hk_ hs_ => ((N_wg5_w4.out k_ hk_.symm)) hs_)); have S_w5 := Aside0.mk (Kd.R_kept R_w5.out hk (fun k_ hk_ hs_ => ((N_wg5_w5.out k_ hk_.symm)) hs_)); have S_g3 := Aside0.mk (Kd.R_kept R_g3.out hk (fun k_ hk_ hs_ => ((D_g3.out k_ hk_.symm).2) hs_)); have S_g4 := Aside0.mk (Kd.R_kept R_g4.out hk (fun k_ hk_ hs_ => ((D_g4.out k_ hk_.symm).2) hs_)); replace K_s := Aside0.mk (blk_kept K_s.out hk (fun hs_ => Kd.R_ne R_g5.out K_s.out (by decide) hs_)); replace K_e := Aside0.mk (blk_kept K_e.out hk (fun hs_ => Kd.R_ne R_g5.out K_e.out (by decide) hs_)); replace K_w := Aside0.mk (blk_kept K_w.out hk (fun hs_ => Kd.R_ne R_g5.out K_w.out (by decide) hs_)); replace K_x := Aside0.mk (blk_kept K_x.out hk (fun hs_ => Kd.R_ne R_g5.out K_x.out (by decide) hs_)); replace K_g := Aside0.mk (blk_kept K_g.out hk (fun hs_ => Kd.R_ne R_g5.out K_g.out (by decide) hs_)); clear hk; clear R_w3 R_w4 R_w5 R_g3 R_g4 R_g5; have R_w3 := S_w3; have R_w4 := S_w4; have R_w5 := S_w5; have R_g3 := S_g3; have R_g4 := S_g4; have R_g5 := Aside0.mk (tr_ h5); replace HB := Aside0.mk hB; clear hB h5 S_w3 S_w4 S_w5 S_g3 S_g4; have z_g_0 := (blk_cell K_g.out 0).trans rfl; have z_g_1 := (blk_cell K_g.out 1).trans rfl; have z_g_2 := (blk_cell K_g.out 2).trans rfl; have z_g_3 := (blk_cell K_g.out 3).trans rfl)
   | (go_at_call 15; (with_reducible refine (held15 k q1 q2 Ag3 q3.length cg3 q3m Ag4 q4.length cg4 q4m 1 k2 _ (Kd.R_reads' R_g3.out) (Kd.R_reads' R_g4.out) FA.out.h1).mono ?_); rintro e W ⟨rfl, hb⟩; clear z_g_0 z_g_1 z_g_2 z_g_3; replace R_w3 := Aside0.mk (Kd.R_below R_w3.out hb); replace R_w4 := Aside0.mk (Kd.R_below R_w4.out hb); replace R_w5 := Aside0.mk (Kd.R_below R_w5.out hb); replace R_g3 := Aside0.mk (Kd.R_below R_g3.out hb); replace R_g4 := Aside0.mk (Kd.R_below R_g4.out hb); replace R_g5 := Aside0.mk (Kd.R_below R_g5.out hb); replace K_s := Aside0.mk (blk_below K_s.out hb); replace K_e := Aside0.mk (blk_below K_e.out hb); replace K_w := Aside0.mk (blk_below K_w.out hb); replace K_x := Aside0.mk (blk_below K_x.out hb); replace K_g := Aside0.mk (blk_below K_g.out hb); replace HB := Aside0.mk (below_step HB.out hb); clear hb)
   | (go_at_call 29; (with_reducible refine (held29 k Ag5 q5.length cg5 q5m k2 k3 _ (Kd.R_reads' R_g5.out) FA.out.h2).mono ?_); rintro e W ⟨rfl, hb⟩; replace R_w3 := Aside0.mk (Kd.R_below R_w3.out hb); replace R_w4 := Aside0.mk (Kd.R_below R_w4.out hb); replace R_w5 := Aside0.mk (Kd.R_below R_w5.out hb); replace R_g3 := Aside0.mk (Kd.R_below R_g3.out hb); replace R_g4 := Aside0.mk (Kd.R_below R_g4.out hb); replace R_g5 := Aside0.mk (Kd.R_below R_g5.out hb); replace K_s := Aside0.mk (blk_below K_s.out hb); replace K_e := Aside0.mk (blk_below K_e.out hb); replace K_w := Aside0.mk (blk_below K_w.out hb); replace K_x := Aside0.mk (blk_below K_x.out hb); replace K_g := Aside0.mk (blk_below K_g.out hb); replace HB := Aside0.mk (below_step HB.out hb); clear hb))
 obtain ⟨W_2, hW⟩ : ∃ W_, W = W_ := ⟨_, rfl⟩
 subst hW
 replace L_s : Aside0 (g_s < W.heap.size) := ⟨blk_lt K_s.out⟩
 replace L_e : Aside0 (g_e < W.heap.size) := ⟨blk_lt K_e.out⟩
 replace L_w : Aside0 (g_w < W.heap.size) := ⟨blk_lt K_w.out⟩
 replace L_x : Aside0 (g_x < W.heap.size) := ⟨blk_lt K_x.out⟩
 replace L_g : Aside0 (g_g < W.heap.size) := ⟨blk_lt K_g.out⟩
 have hS : ∀ V_, Below W.heap.size W V_ → V_.cell? ⟨g_s, 0, none⟩ = some (.int .i64 a0_0) ∧ V_.cell? ⟨g_s, 1, none⟩ = some (.int .i64 a0_1) ∧ V_.cell? ⟨g_s, 2, none⟩ = some (.slice A0_2 l0_2.length c0_2) ∧ V_.cell? ⟨g_s, 3, none⟩ = some (.slice A0_3 l0_3.length c0_3) ∧ V_.cell? ⟨g_e, 0, none⟩ = some (.string a1_0) ∧ V_.cell? ⟨g_e, 1, none⟩ = some (.string a1_1) := fun V_ hb => ⟨(blk_cell (blk_below K_s.out hb) 0).trans rfl, (blk_cell (blk_below K_s.out hb) 1).trans rfl, (blk_cell (blk_below K_s.out hb) 2).trans rfl, (blk_cell (blk_below K_s.out hb) 3).trans rfl, (blk_cell (blk_below K_e.out hb) 0).trans rfl, (blk_cell (blk_below K_e.out hb) 1).trans rfl⟩
 refine start_ (n := 13) (S := fun w' => w'.cell? ⟨g_s, 0, none⟩ = some (.int .i64 a0_0) ∧ w'.cell? ⟨g_s, 1, none⟩ = some (.int .i64 a0_1) ∧ w'.cell? ⟨g_s, 2, none⟩ = some (.slice A0_2 l0_2.length c0_2) ∧ w'.cell? ⟨g_s, 3, none⟩ = some (.slice A0_3 l0_3.length c0_3) ∧ w'.cell? ⟨g_e, 0, none⟩ = some (.string a1_0) ∧ w'.cell? ⟨g_e, 1, none⟩ = some (.string a1_1)) (ds := []) #[false, false, false, false, false, false, false, false, false, false, false, false, false] (by kernel_rfl) rfl rfl (hS _ (below_drew (Below.refl _ _))) (fun hHeld => ?_)
 refine take_ (i := 0) (N := some 110) (v := ?_) (a' := ?_) #[true, false, false, false, false, false, false, false, false, false, false, false, false] rfl rfl (by kernel_rfl) (fun _ _ _ h => h) (Or.inl ⟨by rfl, ?_⟩) hHeld ?_ ?_
 rotate_left
 · rintro w' ⟨s0, s1, s2, s3, s4, s5⟩
   go_simp
   with_reducible rfl
 rotate_left
 · simp only [Act.put, List.setIfInBounds_toArray, List.set_cons_zero, List.set_cons_succ, i64_w, i32_w]
   rfl
 refine take_ (i := 2) (N := some 112) (v := ?_) (a' := ?_) #[true, false, true, false, false, false, false, false, false, false, false, false, false] rfl rfl (by kernel_rfl) (fun _ _ _ h => h) (Or.inl ⟨by rfl, ?_⟩) hHeld ?_ ?_
 rotate_left
 · rintro w' ⟨s0, s1, s2, s3, s4, s5⟩
   go_simp
   with_reducible rfl
 rotate_left
 · simp only [Act.put, List.setIfInBounds_toArray, List.set_cons_zero, List.set_cons_succ, i64_w, i32_w]
   rfl
 refine join_ (σ := Pj) 3 #[true, true, true, true, true, true, true, true, true, true, false, false, false] (fun p_ => [(111, .agg #[.int .i64 n, .int .i64 o, .slice p_.Ax t.length p_.cx, .slice p_.Ay s.length p_.cy]), (113, .agg #[.string a1_0, .string a1_1]), (114, .tuple #[.agg #[.int .i64 q1, .int .i64 q2, .slice p_.A3 q3.length p_.c3, .slice p_.A4 q4.length p_.c4], .slice p_.A5 q5.length p_.c5, .bool q6]), (109, .tuple #[.agg #[.int .i64 q1, .int .i64 q2, .slice p_.A3 q3.length p_.c3, .slice p_.A4 q4.length p_.c4], .slice p_.A5 q5.length p_.c5, .bool q6]), (115, .agg #[.int .i64 q1, .int .i64 q2, .slice p_.A3 q3.length p_.c3, .slice p_.A4 q4.length p_.c4]), (116, .slice p_.A5 q5.length p_.c5), (117, .bool q6), (16, .pointer (some ⟨p_.g, 0, none⟩))]) (fun p_ w' => Below W.heap.size W w' ∧ W.heap.size ≤ p_.g ∧ w'.heap[p_.g]? = some (.cells #[.int .i64 0, .int .i64 0, .slice none 0 0, .slice none 0 0] 28 (0, 0)) ∧ Kd.R k45 45 w' W.heap.size (fun k_ => some k_ ≠ (.slice p_.A4 q4.length p_.c4 : Value).ownBlock ∧ some k_ ≠ (.slice p_.A5 q5.length p_.c5 : Value).ownBlock) (.slice p_.A3 q3.length p_.c3) q3 ∧ Kd.R k45 45 w' W.heap.size (fun k_ => some k_ ≠ (.slice p_.A3 q3.length p_.c3 : Value).ownBlock ∧ some k_ ≠ (.slice p_.A5 q5.length p_.c5 : Value).ownBlock) (.slice p_.A4 q4.length p_.c4) q4 ∧ Kd.R k45 45 w' W.heap.size (fun k_ => some k_ ≠ (.slice p_.A3 q3.length p_.c3 : Value).ownBlock ∧ some k_ ≠ (.slice p_.A4 q4.length p_.c4 : Value).ownBlock) (.slice p_.A5 q5.length p_.c5) q5) ?_ ?_
 rotate_left
 · intro hCont
   refine two_ (i := 1) (j := 9) (Ni := some 111) (Nj := some 16) #[true, true, true, false, false, false, false, false, false, false, false, false, false] #[true, false, true, false, false, false, false, false, false, true, false, false, false] rfl rfl rfl rfl (by kernel_rfl) (by decide) (by decide) (fun K hK => ?_) (fun K hK => ?_)
   · skip
     refine goes_ Try.func11 (by kernel_rfl) rfl #[.agg #[.int .i64 a0_0, .int .i64 a0_1, .slice A0_2 l0_2.length c0_2, .slice A0_3 l0_3.length c0_3]] (by rfl) rfl rfl (by (try simp only [List.map_toArray, List.map_cons, List.map_nil]); first | done | rfl) ?_
     refine (laws_toSegmented.calls k a0_0 a0_1 A0_2 c0_2 l0_2 A0_3 c0_3 l0_3 n o t s _ ?s1 HC2.out ?s2 HC3.out FA.out.tS).mono ?_
     (case s1 => exact Kd.C_below HR2.out (below_then HB.out HB.out.size (by repeat (first | exact Below.refl _ _ | refine below_drew ?_ | refine below_alloc ?_ _ | exact B0.out | exact B1.out | exact (B0.out).alloc B0.out.size _ | exact below_drew ((B0.out).alloc B0.out.size _) | exact below_alloc B0.out _))))
     (case s2 => exact Kd.C_below HR3.out (below_then HB.out HB.out.size (by repeat (first | exact Below.refl _ _ | refine below_drew ?_ | refine below_alloc ?_ _ | exact B0.out | exact B1.out | exact (B0.out).alloc B0.out.size _ | exact below_drew ((B0.out).alloc B0.out.size _) | exact below_alloc B0.out _))))
     rintro e W0 ⟨vx, vy, rfl, hx, hy, hb⟩
     have B0 : Aside0 (Below W.heap.size W W0) := ⟨below_then (below_drew (Below.refl _ _)) (by (try simp only [World.size_drew, World.size_alloc]); have := Nat.le_refl W.heap.size; omega) hb⟩
     obtain ⟨Ax, cx, ex⟩ := Kd.R_slice hx
     subst ex
     obtain ⟨Ay, cy, ey⟩ := Kd.R_slice hy
     subst ey
     have X := Aside0.mk hx
     have Y := Aside0.mk hy
     clear hx hy
     clear hb
     refine ⟨_, rfl, ?_⟩
     refine hK.out _ _ (hS _ B0.out) (fun hHeld => ?_)
     clear hK K
     refine norm_ (a' := ?_) ?_ ?_
     rotate_left
     · show Act.put _ (some 111) _ = _
       simp only [Act.put, List.setIfInBounds_toArray, List.set_cons_zero, List.set_cons_succ, i64_w, i32_w]
       rfl
     refine two_ (i := 3) (j := 9) (Ni := some 113) (Nj := some 16) #[true, true, true, true, false, false, false, false, false, false, false, false, false] #[true, true, true, false, false, false, false, false, false, true, false, false, false] rfl rfl rfl rfl (by kernel_rfl) (by decide) (by decide) (fun K hK => ?_) (fun K hK => ?_)
     · skip
       refine goes_ Try.func26 (by kernel_rfl) rfl #[.agg #[.string a1_0, .string a1_1]] (by rfl) rfl rfl (by (try simp only [List.map_toArray, List.map_cons, List.map_nil]); first | done | rfl) ?_
       refine (laws_toEntry.calls a1_0 a1_1 a1_0 a1_1 _ rfl).mono ?_
       rintro e W1 ⟨rfl, hb⟩
       have B1 : Aside0 (Below W.heap.size W W1) := ⟨below_then B0.out (by (try simp only [World.size_drew, World.size_alloc]); have := B0.out.size; omega) hb⟩
       replace X := Aside0.mk (Kd.R_below (kr X.out) hb)
       replace Y := Aside0.mk (Kd.R_below (kr Y.out) hb)
       clear hb
       refine ⟨_, rfl, ?_⟩
       refine hK.out _ _ (hS _ B1.out) (fun hHeld => ?_)
       clear hK K
       refine norm_ (a' := ?_) ?_ ?_
       rotate_left
       · show Act.put _ (some 113) _ = _
         simp only [Act.put, List.setIfInBounds_toArray, List.set_cons_zero, List.set_cons_succ, i64_w, i32_w]
         rfl
       refine two_ (i := 4) (j := 9) (Ni := some 114) (Nj := some 16) #[true, true, true, true, true, false, false, false, false, false, false, false, false] #[true, true, true, true, false, false, false, false, false, true, false, false, false] rfl rfl rfl rfl (by kernel_rfl) (by decide) (by decide) (fun K hK => ?_) (fun K hK => ?_)
       · skip
         refine goes_ Try.func21 (by kernel_rfl) rfl #[.agg #[.int .i64 n, .int .i64 o, .slice Ax t.length cx, .slice Ay s.length cy], .agg #[.string a1_0, .string a1_1]] (by rfl) rfl rfl (by (try simp only [List.map_toArray, List.map_cons, List.map_nil]); first | done | rfl) ?_
         refine (impl_PutEntry.calls k n o Ax cx t Ay cy s a1_0 a1_1 q1 q2 q3 q4 q5 q6 _ (kc (Kd.R_reads' X.out).2.2) (Kd.R_reads' X.out).2.1 (kc (Kd.R_reads' Y.out).2.2) (Kd.R_reads' Y.out).2.1 FA.out.im).mono ?_
         rintro e W2 ⟨v3, v4, v5, rfl, h3, h4, h5, hb⟩
         have B2 : Aside0 (Below W.heap.size W W2) := ⟨below_then B1.out (by (try simp only [World.size_drew, World.size_alloc]); have := B1.out.size; omega) hb⟩
         obtain ⟨A3, c3, e3⟩ := Kd.R_slice h3
         subst e3
         obtain ⟨A4, c4, e4⟩ := Kd.R_slice h4
         subst e4
         obtain ⟨A5, c5, e5⟩ := Kd.R_slice h5
         subst e5
         have Q3 := Aside0.mk (Kd.R_lower h3 (show W.heap.size ≤ _ from (by (try simp only [World.size_drew, World.size_alloc]); have := B1.out.size; omega)))
         have Q4 := Aside0.mk (Kd.R_lower h4 (show W.heap.size ≤ _ from (by (try simp only [World.size_drew, World.size_alloc]); have := B1.out.size; omega)))
         have Q5 := Aside0.mk (Kd.R_lower h5 (show W.heap.size ≤ _ from (by (try simp only [World.size_drew, World.size_alloc]); have := B1.out.size; omega)))
         clear h3 h4 h5
         clear hb
         refine ⟨_, rfl, ?_⟩
         refine hK.out _ _ (hS _ B2.out) (fun hHeld => ?_)
         clear hK K
         refine norm_ (a' := ?_) ?_ ?_
         rotate_left
         · show Act.put _ (some 114) _ = _
           simp only [Act.put, List.setIfInBounds_toArray, List.set_cons_zero, List.set_cons_succ, i64_w, i32_w]
           rfl
         refine pure_ (i := 5) (N := some 109) (v := ?_) (a' := ?_) #[true, true, true, true, true, true, false, false, false, false, false, false, false] rfl rfl (by kernel_rfl) (fun _ _ _ h => h) (Or.inl ⟨by rfl, ?_⟩) ?_ ?_
         rotate_left
         · intro w'
           go_simp
           with_reducible rfl
         rotate_left
         · simp only [Act.put, List.setIfInBounds_toArray, List.set_cons_zero, List.set_cons_succ, i64_w, i32_w]
           rfl
         refine pure_ (i := 6) (N := some 115) (v := ?_) (a' := ?_) #[true, true, true, true, true, true, true, false, false, false, false, false, false] rfl rfl (by kernel_rfl) (fun _ _ _ h => h) (Or.inl ⟨by rfl, ?_⟩) ?_ ?_
         rotate_left
         · intro w'
           go_simp
           with_reducible rfl
         rotate_left
         · simp only [Act.put, List.setIfInBounds_toArray, List.set_cons_zero, List.set_cons_succ, i64_w, i32_w]
           rfl
         refine pure_ (i := 7) (N := some 116) (v := ?_) (a' := ?_) #[true, true, true, true, true, true, true, true, false, false, false, false, false] rfl rfl (by kernel_rfl) (fun _ _ _ h => h) (Or.inl ⟨by rfl, ?_⟩) ?_ ?_
         rotate_left
         · intro w'
           go_simp
           with_reducible rfl
         rotate_left
         · simp only [Act.put, List.setIfInBounds_toArray, List.set_cons_zero, List.set_cons_succ, i64_w, i32_w]
           rfl
         refine pure_ (i := 8) (N := some 117) (v := ?_) (a' := ?_) #[true, true, true, true, true, true, true, true, true, false, false, false, false] rfl rfl (by kernel_rfl) (fun _ _ _ h => h) (Or.inl ⟨by rfl, ?_⟩) ?_ ?_
         rotate_left
         · intro w'
           go_simp
           with_reducible rfl
         rotate_left
         · simp only [Act.put, List.setIfInBounds_toArray, List.set_cons_zero, List.set_cons_succ, i64_w, i32_w]
           rfl
         refine one_ (i := 9) (N := some 16) #[true, true, true, true, true, true, true, true, true, true, false, false, false] rfl rfl (by kernel_rfl) (by decide) (fun K hK => ?_)
         go_simp
         refine hK.out _ _ (hS _ (by first | exact below_drew (below_alloc (Below.refl _ _) _) | exact below_alloc (below_drew (Below.refl _ _)) _ | exact (B2.out).alloc (B2.out.size) _ | exact below_drew ((B2.out).alloc (B2.out.size) _))) (fun hHeld => ?_)
         clear hK K
         refine norm_ (a' := ?_) ?_ ?_
         rotate_left
         · rfl
         exact norm_ (by first | (simp only [putAll, Act.put, List.setIfInBounds_toArray, List.set_cons_zero, List.set_cons_succ]; done) | (simp only [putAll, Act.put, List.setIfInBounds_toArray, List.set_cons_zero, List.set_cons_succ]; rfl)) (hCont ⟨Ax, cx, Ay, cy, A3, c3, A4, c4, A5, c5, W2.heap.size⟩ _ ⟨(by first | exact (B2.out).alloc (B2.out.size) _ | exact below_drew ((B2.out).alloc (B2.out.size) _)), B2.out.size, (by first | exact blk_drew (blk_new W2 _) | exact blk_new W2 _), kr Q3.out, kr Q4.out, kr Q5.out⟩)
       · skip
         go_simp
         refine hK.out _ _ (hS _ (by first | exact below_drew (below_alloc (Below.refl _ _) _) | exact below_alloc (below_drew (Below.refl _ _)) _ | exact (B1.out).alloc (B1.out.size) _ | exact below_drew ((B1.out).alloc (B1.out.size) _))) (fun hHeld => ?_)
         clear hK K
         refine norm_ (a' := ?_) ?_ ?_
         rotate_left
         · rfl
         refine one_ (i := 4) (N := some 114) #[true, true, true, true, true, false, false, false, false, true, false, false, false] rfl rfl (by kernel_rfl) (by decide) (fun K hK => ?_)
         refine goes_ Try.func21 (by kernel_rfl) rfl #[.agg #[.int .i64 n, .int .i64 o, .slice Ax t.length cx, .slice Ay s.length cy], .agg #[.string a1_0, .string a1_1]] (by rfl) rfl rfl (by (try simp only [List.map_toArray, List.map_cons, List.map_nil]); first | done | rfl) ?_
         refine (impl_PutEntry.calls k n o Ax cx t Ay cy s a1_0 a1_1 q1 q2 q3 q4 q5 q6 _ (kc (Kd.R_reads' X.out).2.2) (Kd.R_reads' X.out).2.1 (kc (Kd.R_reads' Y.out).2.2) (Kd.R_reads' Y.out).2.1 FA.out.im).mono ?_
         rintro e W2 ⟨v3, v4, v5, rfl, h3, h4, h5, hb⟩
         have B2 : Aside0 (Below W.heap.size W W2) := ⟨below_then (by first | exact (B1.out).alloc (B1.out.size) _ | exact below_drew ((B1.out).alloc (B1.out.size) _)) (by (try simp only [World.size_drew, World.size_alloc]); have := B1.out.size; omega) hb⟩
         have ZB2 := Aside0.mk (blk_below (by first | exact blk_drew (blk_new W1 _) | exact blk_new W1 _) hb)
         obtain ⟨A3, c3, e3⟩ := Kd.R_slice h3
         subst e3
         obtain ⟨A4, c4, e4⟩ := Kd.R_slice h4
         subst e4
         obtain ⟨A5, c5, e5⟩ := Kd.R_slice h5
         subst e5
         have Q3 := Aside0.mk (Kd.R_lower h3 (show W.heap.size ≤ _ from (by (try simp only [World.size_drew, World.size_alloc]); have := B1.out.size; omega)))
         have Q4 := Aside0.mk (Kd.R_lower h4 (show W.heap.size ≤ _ from (by (try simp only [World.size_drew, World.size_alloc]); have := B1.out.size; omega)))
         have Q5 := Aside0.mk (Kd.R_lower h5 (show W.heap.size ≤ _ from (by (try simp only [World.size_drew, World.size_alloc]); have := B1.out.size; omega)))
         clear h3 h4 h5
         clear hb
         refine ⟨_, rfl, ?_⟩
         refine hK.out _ _ (hS _ B2.out) (fun hHeld => ?_)
         clear hK K
         refine norm_ (a' := ?_) ?_ ?_
         rotate_left
         · show Act.put _ (some 114) _ = _
           simp only [Act.put, List.setIfInBounds_toArray, List.set_cons_zero, List.set_cons_succ, i64_w, i32_w]
           rfl
         refine pure_ (i := 5) (N := some 109) (v := ?_) (a' := ?_) #[true, true, true, true, true, true, false, false, false, true, false, false, false] rfl rfl (by kernel_rfl) (fun _ _ _ h => h) (Or.inl ⟨by rfl, ?_⟩) ?_ ?_
         rotate_left
         · intro w'
           go_simp
           with_reducible rfl
         rotate_left
         · simp only [Act.put, List.setIfInBounds_toArray, List.set_cons_zero, List.set_cons_succ, i64_w, i32_w]
           rfl
         refine pure_ (i := 6) (N := some 115) (v := ?_) (a' := ?_) #[true, true, true, true, true, true, true, false, false, true, false, false, false] rfl rfl (by kernel_rfl) (fun _ _ _ h => h) (Or.inl ⟨by rfl, ?_⟩) ?_ ?_
         rotate_left
         · intro w'
           go_simp
           with_reducible rfl
         rotate_left
         · simp only [Act.put, List.setIfInBounds_toArray, List.set_cons_zero, List.set_cons_succ, i64_w, i32_w]
           rfl
         refine pure_ (i := 7) (N := some 116) (v := ?_) (a' := ?_) #[true, true, true, true, true, true, true, true, false, true, false, false, false] rfl rfl (by kernel_rfl) (fun _ _ _ h => h) (Or.inl ⟨by rfl, ?_⟩) ?_ ?_
         rotate_left
         · intro w'
           go_simp
           with_reducible rfl
         rotate_left
         · simp only [Act.put, List.setIfInBounds_toArray, List.set_cons_zero, List.set_cons_succ, i64_w, i32_w]
           rfl
         refine pure_ (i := 8) (N := some 117) (v := ?_) (a' := ?_) #[true, true, true, true, true, true, true, true, true, true, false, false, false] rfl rfl (by kernel_rfl) (fun _ _ _ h => h) (Or.inl ⟨by rfl, ?_⟩) ?_ ?_
         rotate_left
         · intro w'
           go_simp
           with_reducible rfl
         rotate_left
         · simp only [Act.put, List.setIfInBounds_toArray, List.set_cons_zero, List.set_cons_succ, i64_w, i32_w]
           rfl
         exact norm_ (by first | (simp only [putAll, Act.put, List.setIfInBounds_toArray, List.set_cons_zero, List.set_cons_succ]; done) | (simp only [putAll, Act.put, List.setIfInBounds_toArray, List.set_cons_zero, List.set_cons_succ]; rfl)) (hCont ⟨Ax, cx, Ay, cy, A3, c3, A4, c4, A5, c5, W1.heap.size⟩ _ ⟨B2.out, B1.out.size, ZB2.out, kr Q3.out, kr Q4.out, kr Q5.out⟩)
     · skip
       go_simp
       refine hK.out _ _ (hS _ (by first | exact below_drew (below_alloc (Below.refl _ _) _) | exact below_alloc (below_drew (Below.refl _ _)) _ | exact (B0.out).alloc (B0.out.size) _ | exact below_drew ((B0.out).alloc (B0.out.size) _))) (fun hHeld => ?_)
       clear hK K
       refine norm_ (a' := ?_) ?_ ?_
       rotate_left
       · rfl
       refine one_ (i := 3) (N := some 113) #[true, true, true, true, false, false, false, false, false, true, false, false, false] rfl rfl (by kernel_rfl) (by decide) (fun K hK => ?_)
       refine goes_ Try.func26 (by kernel_rfl) rfl #[.agg #[.string a1_0, .string a1_1]] (by rfl) rfl rfl (by (try simp only [List.map_toArray, List.map_cons, List.map_nil]); first | done | rfl) ?_
       refine (laws_toEntry.calls a1_0 a1_1 a1_0 a1_1 _ rfl).mono ?_
       rintro e W1 ⟨rfl, hb⟩
       have B1 : Aside0 (Below W.heap.size W W1) := ⟨below_then (by first | exact (B0.out).alloc (B0.out.size) _ | exact below_drew ((B0.out).alloc (B0.out.size) _)) (by (try simp only [World.size_drew, World.size_alloc]); have := B0.out.size; omega) hb⟩
       have ZB1 := Aside0.mk (blk_below (by first | exact blk_drew (blk_new W0 _) | exact blk_new W0 _) hb)
       replace X := Aside0.mk (Kd.R_below (kr X.out) hb)
       replace Y := Aside0.mk (Kd.R_below (kr Y.out) hb)
       clear hb
       refine ⟨_, rfl, ?_⟩
       refine hK.out _ _ (hS _ B1.out) (fun hHeld => ?_)
       clear hK K
       refine norm_ (a' := ?_) ?_ ?_
       rotate_left
       · show Act.put _ (some 113) _ = _
         simp only [Act.put, List.setIfInBounds_toArray, List.set_cons_zero, List.set_cons_succ, i64_w, i32_w]
         rfl
       refine one_ (i := 4) (N := some 114) #[true, true, true, true, true, false, false, false, false, true, false, false, false] rfl rfl (by kernel_rfl) (by decide) (fun K hK => ?_)
       refine goes_ Try.func21 (by kernel_rfl) rfl #[.agg #[.int .i64 n, .int .i64 o, .slice Ax t.length cx, .slice Ay s.length cy], .agg #[.string a1_0, .string a1_1]] (by rfl) rfl rfl (by (try simp only [List.map_toArray, List.map_cons, List.map_nil]); first | done | rfl) ?_
       refine (impl_PutEntry.calls k n o Ax cx t Ay cy s a1_0 a1_1 q1 q2 q3 q4 q5 q6 _ (kc (Kd.R_reads' X.out).2.2) (Kd.R_reads' X.out).2.1 (kc (Kd.R_reads' Y.out).2.2) (Kd.R_reads' Y.out).2.1 FA.out.im).mono ?_
       rintro e W2 ⟨v3, v4, v5, rfl, h3, h4, h5, hb⟩
       have B2 : Aside0 (Below W.heap.size W W2) := ⟨below_then B1.out (by (try simp only [World.size_drew, World.size_alloc]); have := B1.out.size; omega) hb⟩
       have ZB2 := Aside0.mk (blk_below ZB1.out hb)
       obtain ⟨A3, c3, e3⟩ := Kd.R_slice h3
       subst e3
       obtain ⟨A4, c4, e4⟩ := Kd.R_slice h4
       subst e4
       obtain ⟨A5, c5, e5⟩ := Kd.R_slice h5
       subst e5
       have Q3 := Aside0.mk (Kd.R_lower h3 (show W.heap.size ≤ _ from (by (try simp only [World.size_drew, World.size_alloc]); have := B1.out.size; omega)))
       have Q4 := Aside0.mk (Kd.R_lower h4 (show W.heap.size ≤ _ from (by (try simp only [World.size_drew, World.size_alloc]); have := B1.out.size; omega)))
       have Q5 := Aside0.mk (Kd.R_lower h5 (show W.heap.size ≤ _ from (by (try simp only [World.size_drew, World.size_alloc]); have := B1.out.size; omega)))
       clear h3 h4 h5
       clear hb
       refine ⟨_, rfl, ?_⟩
       refine hK.out _ _ (hS _ B2.out) (fun hHeld => ?_)
       clear hK K
       refine norm_ (a' := ?_) ?_ ?_
       rotate_left
       · show Act.put _ (some 114) _ = _
         simp only [Act.put, List.setIfInBounds_toArray, List.set_cons_zero, List.set_cons_succ, i64_w, i32_w]
         rfl
       refine pure_ (i := 5) (N := some 109) (v := ?_) (a' := ?_) #[true, true, true, true, true, true, false, false, false, true, false, false, false] rfl rfl (by kernel_rfl) (fun _ _ _ h => h) (Or.inl ⟨by rfl, ?_⟩) ?_ ?_
       rotate_left
       · intro w'
         go_simp
         with_reducible rfl
       rotate_left
       · simp only [Act.put, List.setIfInBounds_toArray, List.set_cons_zero, List.set_cons_succ, i64_w, i32_w]
         rfl
       refine pure_ (i := 6) (N := some 115) (v := ?_) (a' := ?_) #[true, true, true, true, true, true, true, false, false, true, false, false, false] rfl rfl (by kernel_rfl) (fun _ _ _ h => h) (Or.inl ⟨by rfl, ?_⟩) ?_ ?_
       rotate_left
       · intro w'
         go_simp
         with_reducible rfl
       rotate_left
       · simp only [Act.put, List.setIfInBounds_toArray, List.set_cons_zero, List.set_cons_succ, i64_w, i32_w]
         rfl
       refine pure_ (i := 7) (N := some 116) (v := ?_) (a' := ?_) #[true, true, true, true, true, true, true, true, false, true, false, false, false] rfl rfl (by kernel_rfl) (fun _ _ _ h => h) (Or.inl ⟨by rfl, ?_⟩) ?_ ?_
       rotate_left
       · intro w'
         go_simp
         with_reducible rfl
       rotate_left
       · simp only [Act.put, List.setIfInBounds_toArray, List.set_cons_zero, List.set_cons_succ, i64_w, i32_w]
         rfl
       refine pure_ (i := 8) (N := some 117) (v := ?_) (a' := ?_) #[true, true, true, true, true, true, true, true, true, true, false, false, false] rfl rfl (by kernel_rfl) (fun _ _ _ h => h) (Or.inl ⟨by rfl, ?_⟩) ?_ ?_
       rotate_left
       · intro w'
         go_simp
         with_reducible rfl
       rotate_left
       · simp only [Act.put, List.setIfInBounds_toArray, List.set_cons_zero, List.set_cons_succ, i64_w, i32_w]
         rfl
       exact norm_ (by first | (simp only [putAll, Act.put, List.setIfInBounds_toArray, List.set_cons_zero, List.set_cons_succ]; done) | (simp only [putAll, Act.put, List.setIfInBounds_toArray, List.set_cons_zero, List.set_cons_succ]; rfl)) (hCont ⟨Ax, cx, Ay, cy, A3, c3, A4, c4, A5, c5, W0.heap.size⟩ _ ⟨B2.out, B0.out.size, ZB2.out, kr Q3.out, kr Q4.out, kr Q5.out⟩)
   · skip
     go_simp
     refine hK.out _ _ (hS _ (by first | exact below_drew (below_alloc (Below.refl _ _) _) | exact below_alloc (below_drew (Below.refl _ _)) _)) (fun hHeld => ?_)
     clear hK K
     refine norm_ (a' := ?_) ?_ ?_
     rotate_left
     · rfl
     refine one_ (i := 1) (N := some 111) #[true, true, true, false, false, false, false, false, false, true, false, false, false] rfl rfl (by kernel_rfl) (by decide) (fun K hK => ?_)
     refine goes_ Try.func11 (by kernel_rfl) rfl #[.agg #[.int .i64 a0_0, .int .i64 a0_1, .slice A0_2 l0_2.length c0_2, .slice A0_3 l0_3.length c0_3]] (by rfl) rfl rfl (by (try simp only [List.map_toArray, List.map_cons, List.map_nil]); first | done | rfl) ?_
     refine (laws_toSegmented.calls k a0_0 a0_1 A0_2 c0_2 l0_2 A0_3 c0_3 l0_3 n o t s _ ?s1 HC2.out ?s2 HC3.out FA.out.tS).mono ?_
     (case s1 => exact Kd.C_below HR2.out (below_then HB.out HB.out.size (by repeat (first | exact Below.refl _ _ | refine below_drew ?_ | refine below_alloc ?_ _ | exact B0.out | exact B1.out | exact (B0.out).alloc B0.out.size _ | exact below_drew ((B0.out).alloc B0.out.size _) | exact below_alloc B0.out _))))
     (case s2 => exact Kd.C_below HR3.out (below_then HB.out HB.out.size (by repeat (first | exact Below.refl _ _ | refine below_drew ?_ | refine below_alloc ?_ _ | exact B0.out | exact B1.out | exact (B0.out).alloc B0.out.size _ | exact below_drew ((B0.out).alloc B0.out.size _) | exact below_alloc B0.out _))))
     rintro e W0 ⟨vx, vy, rfl, hx, hy, hb⟩
     have B0 : Aside0 (Below W.heap.size W W0) := ⟨below_then (by first | exact below_drew (below_alloc (Below.refl _ _) _) | exact below_alloc (below_drew (Below.refl _ _)) _) (by (try simp only [World.size_drew, World.size_alloc]); have := Nat.le_refl W.heap.size; omega) hb⟩
     have ZB0 := Aside0.mk (blk_below (by first | exact blk_drew (blk_new W _) | exact blk_new W _) hb)
     obtain ⟨Ax, cx, ex⟩ := Kd.R_slice hx
     subst ex
     obtain ⟨Ay, cy, ey⟩ := Kd.R_slice hy
     subst ey
     have X := Aside0.mk hx
     have Y := Aside0.mk hy
     clear hx hy
     clear hb
     refine ⟨_, rfl, ?_⟩
     refine hK.out _ _ (hS _ B0.out) (fun hHeld => ?_)
     clear hK K
     refine norm_ (a' := ?_) ?_ ?_
     rotate_left
     · show Act.put _ (some 111) _ = _
       simp only [Act.put, List.setIfInBounds_toArray, List.set_cons_zero, List.set_cons_succ, i64_w, i32_w]
       rfl
     refine one_ (i := 3) (N := some 113) #[true, true, true, true, false, false, false, false, false, true, false, false, false] rfl rfl (by kernel_rfl) (by decide) (fun K hK => ?_)
     refine goes_ Try.func26 (by kernel_rfl) rfl #[.agg #[.string a1_0, .string a1_1]] (by rfl) rfl rfl (by (try simp only [List.map_toArray, List.map_cons, List.map_nil]); first | done | rfl) ?_
     refine (laws_toEntry.calls a1_0 a1_1 a1_0 a1_1 _ rfl).mono ?_
     rintro e W1 ⟨rfl, hb⟩
     have B1 : Aside0 (Below W.heap.size W W1) := ⟨below_then B0.out (by (try simp only [World.size_drew, World.size_alloc]); have := B0.out.size; omega) hb⟩
     have ZB1 := Aside0.mk (blk_below ZB0.out hb)
     replace X := Aside0.mk (Kd.R_below (kr X.out) hb)
     replace Y := Aside0.mk (Kd.R_below (kr Y.out) hb)
     clear hb
     refine ⟨_, rfl, ?_⟩
     refine hK.out _ _ (hS _ B1.out) (fun hHeld => ?_)
     clear hK K
     refine norm_ (a' := ?_) ?_ ?_
     rotate_left
     · show Act.put _ (some 113) _ = _
       simp only [Act.put, List.setIfInBounds_toArray, List.set_cons_zero, List.set_cons_succ, i64_w, i32_w]
       rfl
     refine one_ (i := 4) (N := some 114) #[true, true, true, true, true, false, false, false, false, true, false, false, false] rfl rfl (by kernel_rfl) (by decide) (fun K hK => ?_)
     refine goes_ Try.func21 (by kernel_rfl) rfl #[.agg #[.int .i64 n, .int .i64 o, .slice Ax t.length cx, .slice Ay s.length cy], .agg #[.string a1_0, .string a1_1]] (by rfl) rfl rfl (by (try simp only [List.map_toArray, List.map_cons, List.map_nil]); first | done | rfl) ?_
     refine (impl_PutEntry.calls k n o Ax cx t Ay cy s a1_0 a1_1 q1 q2 q3 q4 q5 q6 _ (kc (Kd.R_reads' X.out).2.2) (Kd.R_reads' X.out).2.1 (kc (Kd.R_reads' Y.out).2.2) (Kd.R_reads' Y.out).2.1 FA.out.im).mono ?_
     rintro e W2 ⟨v3, v4, v5, rfl, h3, h4, h5, hb⟩
     have B2 : Aside0 (Below W.heap.size W W2) := ⟨below_then B1.out (by (try simp only [World.size_drew, World.size_alloc]); have := B1.out.size; omega) hb⟩
     have ZB2 := Aside0.mk (blk_below ZB1.out hb)
     obtain ⟨A3, c3, e3⟩ := Kd.R_slice h3
     subst e3
     obtain ⟨A4, c4, e4⟩ := Kd.R_slice h4
     subst e4
     obtain ⟨A5, c5, e5⟩ := Kd.R_slice h5
     subst e5
     have Q3 := Aside0.mk (Kd.R_lower h3 (show W.heap.size ≤ _ from (by (try simp only [World.size_drew, World.size_alloc]); have := B1.out.size; omega)))
     have Q4 := Aside0.mk (Kd.R_lower h4 (show W.heap.size ≤ _ from (by (try simp only [World.size_drew, World.size_alloc]); have := B1.out.size; omega)))
     have Q5 := Aside0.mk (Kd.R_lower h5 (show W.heap.size ≤ _ from (by (try simp only [World.size_drew, World.size_alloc]); have := B1.out.size; omega)))
     clear h3 h4 h5
     clear hb
     refine ⟨_, rfl, ?_⟩
     refine hK.out _ _ (hS _ B2.out) (fun hHeld => ?_)
     clear hK K
     refine norm_ (a' := ?_) ?_ ?_
     rotate_left
     · show Act.put _ (some 114) _ = _
       simp only [Act.put, List.setIfInBounds_toArray, List.set_cons_zero, List.set_cons_succ, i64_w, i32_w]
       rfl
     refine pure_ (i := 5) (N := some 109) (v := ?_) (a' := ?_) #[true, true, true, true, true, true, false, false, false, true, false, false, false] rfl rfl (by kernel_rfl) (fun _ _ _ h => h) (Or.inl ⟨by rfl, ?_⟩) ?_ ?_
     rotate_left
     · intro w'
       go_simp
       with_reducible rfl
     rotate_left
     · simp only [Act.put, List.setIfInBounds_toArray, List.set_cons_zero, List.set_cons_succ, i64_w, i32_w]
       rfl
     refine pure_ (i := 6) (N := some 115) (v := ?_) (a' := ?_) #[true, true, true, true, true, true, true, false, false, true, false, false, false] rfl rfl (by kernel_rfl) (fun _ _ _ h => h) (Or.inl ⟨by rfl, ?_⟩) ?_ ?_
     rotate_left
     · intro w'
       go_simp
       with_reducible rfl
     rotate_left
     · simp only [Act.put, List.setIfInBounds_toArray, List.set_cons_zero, List.set_cons_succ, i64_w, i32_w]
       rfl
     refine pure_ (i := 7) (N := some 116) (v := ?_) (a' := ?_) #[true, true, true, true, true, true, true, true, false, true, false, false, false] rfl rfl (by kernel_rfl) (fun _ _ _ h => h) (Or.inl ⟨by rfl, ?_⟩) ?_ ?_
     rotate_left
     · intro w'
       go_simp
       with_reducible rfl
     rotate_left
     · simp only [Act.put, List.setIfInBounds_toArray, List.set_cons_zero, List.set_cons_succ, i64_w, i32_w]
       rfl
     refine pure_ (i := 8) (N := some 117) (v := ?_) (a' := ?_) #[true, true, true, true, true, true, true, true, true, true, false, false, false] rfl rfl (by kernel_rfl) (fun _ _ _ h => h) (Or.inl ⟨by rfl, ?_⟩) ?_ ?_
     rotate_left
     · intro w'
       go_simp
       with_reducible rfl
     rotate_left
     · simp only [Act.put, List.setIfInBounds_toArray, List.set_cons_zero, List.set_cons_succ, i64_w, i32_w]
       rfl
     exact norm_ (by first | (simp only [putAll, Act.put, List.setIfInBounds_toArray, List.set_cons_zero, List.set_cons_succ]; done) | (simp only [putAll, Act.put, List.setIfInBounds_toArray, List.set_cons_zero, List.set_cons_succ]; rfl)) (hCont ⟨Ax, cx, Ay, cy, A3, c3, A4, c4, A5, c5, W.heap.size⟩ _ ⟨B2.out, Nat.le_refl _, ZB2.out, kr Q3.out, kr Q4.out, kr Q5.out⟩)
 rintro ⟨Ax, cx, Ay, cy, Ah3, ch3, Ah4, ch4, Ah5, ch5, g_h⟩ V_ ⟨hb, hg, hz, hq3, hq4, hq5⟩
 dsimp only at hg hz hq3 hq4 hq5
 refine norm_ (a' := ?_) ?_ ?_
 rotate_left
 · simp only [putAll, Act.put, List.setIfInBounds_toArray, List.set_cons_zero, List.set_cons_succ]
   rfl
 have hlow := HB.out.size
 have G_h : Aside0 (w.heap.size ≤ g_h) := ⟨Nat.le_trans hlow hg⟩
 have N_wh3_w3 := Aside0.mk (far_ R_w3.out hq3 (Nat.le_refl _))
 have N_wh4_w3 := Aside0.mk (far_ R_w3.out hq4 (Nat.le_refl _))
 have N_wh5_w3 := Aside0.mk (far_ R_w3.out hq5 (Nat.le_refl _))
 have N_wh3_w4 := Aside0.mk (far_ R_w4.out hq3 (Nat.le_refl _))
 have N_wh4_w4 := Aside0.mk (far_ R_w4.out hq4 (Nat.le_refl _))
 have N_wh5_w4 := Aside0.mk (far_ R_w4.out hq5 (Nat.le_refl _))
 have N_wh3_w5 := Aside0.mk (far_ R_w5.out hq3 (Nat.le_refl _))
 have N_wh4_w5 := Aside0.mk (far_ R_w5.out hq4 (Nat.le_refl _))
 have N_wh5_w5 := Aside0.mk (far_ R_w5.out hq5 (Nat.le_refl _))
 have N_gh3_g3 := Aside0.mk (far_ R_g3.out hq3 (Nat.le_refl _))
 have N_gh4_g3 := Aside0.mk (far_ R_g3.out hq4 (Nat.le_refl _))
 have N_gh5_g3 := Aside0.mk (far_ R_g3.out hq5 (Nat.le_refl _))
 have N_gh3_g4 := Aside0.mk (far_ R_g4.out hq3 (Nat.le_refl _))
 have N_gh4_g4 := Aside0.mk (far_ R_g4.out hq4 (Nat.le_refl _))
 have N_gh5_g4 := Aside0.mk (far_ R_g4.out hq5 (Nat.le_refl _))
 have N_gh3_g5 := Aside0.mk (far_ R_g5.out hq3 (Nat.le_refl _))
 have N_gh4_g5 := Aside0.mk (far_ R_g5.out hq4 (Nat.le_refl _))
 have N_gh5_g5 := Aside0.mk (far_ R_g5.out hq5 (Nat.le_refl _))
 replace R_w3 := Aside0.mk (Kd.R_below R_w3.out hb)
 replace R_w4 := Aside0.mk (Kd.R_below R_w4.out hb)
 replace R_w5 := Aside0.mk (Kd.R_below R_w5.out hb)
 replace R_g3 := Aside0.mk (Kd.R_below R_g3.out hb)
 replace R_g4 := Aside0.mk (Kd.R_below R_g4.out hb)
 replace R_g5 := Aside0.mk (Kd.R_below R_g5.out hb)
 replace K_s := Aside0.mk (blk_below K_s.out hb)
 replace K_e := Aside0.mk (blk_below K_e.out hb)
 replace K_w := Aside0.mk (blk_below K_w.out hb)
 replace K_x := Aside0.mk (blk_below K_x.out hb)
 replace K_g := Aside0.mk (blk_below K_g.out hb)
 replace HB := Aside0.mk (below_step HB.out hb)
 have D_h3 := Aside0.mk hq3.1
 have R_h3 := Aside0.mk (tr_ (Kd.R_lower hq3 hlow))
 have D_h4 := Aside0.mk hq4.1
 have R_h4 := Aside0.mk (tr_ (Kd.R_lower hq4 hlow))
 have D_h5 := Aside0.mk hq5.1
 have R_h5 := Aside0.mk (tr_ (Kd.R_lower hq5 hlow))
 have hs0 := (blk_cell hz 0).trans rfl
 have hs1 := (blk_cell hz 1).trans rfl
 have hs2 := (blk_cell hz 2).trans rfl
 have hs3 := (blk_cell hz 3).trans rfl
 have hf0 := blk_frozen hz 0
 have hf1 := blk_frozen hz 1
 have hf2 := blk_frozen hz 2
 have hf3 := blk_frozen hz 3
 have hbV := Aside0.mk hb
 have HZ := Aside0.mk hz
 have HG := Aside0.mk hg
 clear hb hg hz hq3 hq4 hq5
 refine one_ (i := 10) (N := none) #[true, true, true, true, true, true, true, true, true, true, true, false, false] rfl rfl (by kernel_rfl) (by decide) (fun K hK => ?_)
 go_simp
 refine hK.out _ _ (hS _ ((((hbV.out.setCell HG.out _).setCell HG.out _).setCell HG.out _).setCell HG.out _)) (fun hHeld => ?_)
 clear hK K
 refine norm_ (a' := ?_) ?_ ?_
 rotate_left
 · rfl
 refine pure_ (i := 11) (N := some 17) (v := ?_) (a' := ?_) #[true, true, true, true, true, true, true, true, true, true, true, true, false] rfl rfl (by kernel_rfl) (fun _ _ _ h => h) (Or.inl ⟨by rfl, ?_⟩) ?_ ?_
 rotate_left
 · intro w'
   go_simp
   with_reducible rfl
 rotate_left
 · simp only [Act.put, List.setIfInBounds_toArray, List.set_cons_zero, List.set_cons_succ, i64_w, i32_w]
   rfl
 refine pure_ (i := 12) (N := some 18) (v := ?_) (a' := ?_) #[true, true, true, true, true, true, true, true, true, true, true, true, true] rfl rfl (by kernel_rfl) (fun _ _ _ h => h) (Or.inl ⟨by rfl, ?_⟩) ?_ ?_
 rotate_left
 · intro w'
   go_simp
   with_reducible rfl
 rotate_left
 · simp only [Act.put, List.setIfInBounds_toArray, List.set_cons_zero, List.set_cons_succ, i64_w, i32_w]
   rfl
 refine done_ (by kernel_rfl) ?_
 obtain ⟨W_h, hW⟩ : ∃ W_, ((((V_.setCell ⟨g_h, 0, none⟩ (.int .i64 q1)).setCell ⟨g_h, 1, none⟩ (.int .i64 q2)).setCell ⟨g_h, 2, none⟩ (.slice Ah3 q3.length ch3)).setCell ⟨g_h, 3, none⟩ (.slice Ah4 q4.length ch4)) = W_ := ⟨_, rfl⟩
 rw [hW]
 replace R_w3 : Aside0 (Kd.R k45 45 W_h w.heap.size (fun k_ => some k_ = (.slice Aw3 q3.length cw3 : Value).ownBlock) (.slice Aw3 q3.length cw3) q3) := ⟨by rw [← hW]; exact Kd.R_set (Kd.R_set (Kd.R_set (Kd.R_set R_w3.out HZ.out (by decide) 0 _) (blk_set HZ.out 0 _) (by decide) 1 _) (blk_set (blk_set HZ.out 0 _) 1 _) (by decide) 2 _) (blk_set (blk_set (blk_set HZ.out 0 _) 1 _) 2 _) (by decide) 3 _⟩
 replace R_w4 : Aside0 (Kd.R k45 45 W_h w.heap.size (fun k_ => some k_ = (.slice Aw4 q4.length cw4 : Value).ownBlock) (.slice Aw4 q4.length cw4) q4) := ⟨by rw [← hW]; exact Kd.R_set (Kd.R_set (Kd.R_set (Kd.R_set R_w4.out HZ.out (by decide) 0 _) (blk_set HZ.out 0 _) (by decide) 1 _) (blk_set (blk_set HZ.out 0 _) 1 _) (by decide) 2 _) (blk_set (blk_set (blk_set HZ.out 0 _) 1 _) 2 _) (by decide) 3 _⟩
 replace R_w5 : Aside0 (Kd.R k45 45 W_h w.heap.size (fun k_ => some k_ = (.slice Aw5 q5.length cw5 : Value).ownBlock) (.slice Aw5 q5.length cw5) q5) := ⟨by rw [← hW]; exact Kd.R_set (Kd.R_set (Kd.R_set (Kd.R_set R_w5.out HZ.out (by decide) 0 _) (blk_set HZ.out 0 _) (by decide) 1 _) (blk_set (blk_set HZ.out 0 _) 1 _) (by decide) 2 _) (blk_set (blk_set (blk_set HZ.out 0 _) 1 _) 2 _) (by decide) 3 _⟩
 replace R_g3 : Aside0 (Kd.R k45 45 W_h w.heap.size (fun k_ => some k_ = (.slice Ag3 q3.length cg3 : Value).ownBlock) (.slice Ag3 q3.length cg3) q3m) := ⟨by rw [← hW]; exact Kd.R_set (Kd.R_set (Kd.R_set (Kd.R_set R_g3.out HZ.out (by decide) 0 _) (blk_set HZ.out 0 _) (by decide) 1 _) (blk_set (blk_set HZ.out 0 _) 1 _) (by decide) 2 _) (blk_set (blk_set (blk_set HZ.out 0 _) 1 _) 2 _) (by decide) 3 _⟩
 replace R_g4 : Aside0 (Kd.R k45 45 W_h w.heap.size (fun k_ => some k_ = (.slice Ag4 q4.length cg4 : Value).ownBlock) (.slice Ag4 q4.length cg4) q4m) := ⟨by rw [← hW]; exact Kd.R_set (Kd.R_set (Kd.R_set (Kd.R_set R_g4.out HZ.out (by decide) 0 _) (blk_set HZ.out 0 _) (by decide) 1 _) (blk_set (blk_set HZ.out 0 _) 1 _) (by decide) 2 _) (blk_set (blk_set (blk_set HZ.out 0 _) 1 _) 2 _) (by decide) 3 _⟩
 replace R_g5 : Aside0 (Kd.R k45 45 W_h w.heap.size (fun k_ => some k_ = (.slice Ag5 q5.length cg5 : Value).ownBlock) (.slice Ag5 q5.length cg5) q5m) := ⟨by rw [← hW]; exact Kd.R_set (Kd.R_set (Kd.R_set (Kd.R_set R_g5.out HZ.out (by decide) 0 _) (blk_set HZ.out 0 _) (by decide) 1 _) (blk_set (blk_set HZ.out 0 _) 1 _) (by decide) 2 _) (blk_set (blk_set (blk_set HZ.out 0 _) 1 _) 2 _) (by decide) 3 _⟩
 replace R_h3 : Aside0 (Kd.R k45 45 W_h w.heap.size (fun k_ => some k_ = (.slice Ah3 q3.length ch3 : Value).ownBlock) (.slice Ah3 q3.length ch3) q3) := ⟨by rw [← hW]; exact Kd.R_set (Kd.R_set (Kd.R_set (Kd.R_set R_h3.out HZ.out (by decide) 0 _) (blk_set HZ.out 0 _) (by decide) 1 _) (blk_set (blk_set HZ.out 0 _) 1 _) (by decide) 2 _) (blk_set (blk_set (blk_set HZ.out 0 _) 1 _) 2 _) (by decide) 3 _⟩
 replace R_h4 : Aside0 (Kd.R k45 45 W_h w.heap.size (fun k_ => some k_ = (.slice Ah4 q4.length ch4 : Value).ownBlock) (.slice Ah4 q4.length ch4) q4) := ⟨by rw [← hW]; exact Kd.R_set (Kd.R_set (Kd.R_set (Kd.R_set R_h4.out HZ.out (by decide) 0 _) (blk_set HZ.out 0 _) (by decide) 1 _) (blk_set (blk_set HZ.out 0 _) 1 _) (by decide) 2 _) (blk_set (blk_set (blk_set HZ.out 0 _) 1 _) 2 _) (by decide) 3 _⟩
 replace R_h5 : Aside0 (Kd.R k45 45 W_h w.heap.size (fun k_ => some k_ = (.slice Ah5 q5.length ch5 : Value).ownBlock) (.slice Ah5 q5.length ch5) q5) := ⟨by rw [← hW]; exact Kd.R_set (Kd.R_set (Kd.R_set (Kd.R_set R_h5.out HZ.out (by decide) 0 _) (blk_set HZ.out 0 _) (by decide) 1 _) (blk_set (blk_set HZ.out 0 _) 1 _) (by decide) 2 _) (blk_set (blk_set (blk_set HZ.out 0 _) 1 _) 2 _) (by decide) 3 _⟩
 have NB_s : Aside0 (g_s ≠ g_h) := ⟨by have := L_s.out; have := HG.out; omega⟩
 replace K_s : Aside0 (W_h.heap[g_s]? = some (.cells #[.int .i64 a0_0, .int .i64 a0_1, .slice A0_2 l0_2.length c0_2, .slice A0_3 l0_3.length c0_3] 24 (0, 0))) := ⟨by rw [← hW]; exact blk_far (blk_far (blk_far (blk_far K_s.out NB_s.out _) NB_s.out _) NB_s.out _) NB_s.out _⟩
 clear NB_s
 have NB_e : Aside0 (g_e ≠ g_h) := ⟨by have := L_e.out; have := HG.out; omega⟩
 replace K_e : Aside0 (W_h.heap[g_e]? = some (.cells #[.string a1_0, .string a1_1] 49 (0, 0))) := ⟨by rw [← hW]; exact blk_far (blk_far (blk_far (blk_far K_e.out NB_e.out _) NB_e.out _) NB_e.out _) NB_e.out _⟩
 clear NB_e
 have NB_w : Aside0 (g_w ≠ g_h) := ⟨by have := L_w.out; have := HG.out; omega⟩
 replace K_w : Aside0 (W_h.heap[g_w]? = some (.cells #[.int .i64 q1, .int .i64 q2, .slice Aw3 q3.length cw3, .slice Aw4 q4.length cw4] 28 (0, 0))) := ⟨by rw [← hW]; exact blk_far (blk_far (blk_far (blk_far K_w.out NB_w.out _) NB_w.out _) NB_w.out _) NB_w.out _⟩
 clear NB_w
 have NB_x : Aside0 (g_x ≠ g_h) := ⟨by have := L_x.out; have := HG.out; omega⟩
 replace K_x : Aside0 (W_h.heap[g_x]? = some (.cells #[.int .i64 n, .int .i64 o, .slice Ax3 t.length cx3, .slice Ax4 s.length cx4] 28 (0, 0))) := ⟨by rw [← hW]; exact blk_far (blk_far (blk_far (blk_far K_x.out NB_x.out _) NB_x.out _) NB_x.out _) NB_x.out _⟩
 clear NB_x
 have NB_g : Aside0 (g_g ≠ g_h) := ⟨by have := L_g.out; have := HG.out; omega⟩
 replace K_g : Aside0 (W_h.heap[g_g]? = some (.cells #[.int .i64 q1, .int .i64 q2, .slice Ag3 q3.length cg3, .slice Ag4 q4.length cg4] 28 (0, 0))) := ⟨by rw [← hW]; exact blk_far (blk_far (blk_far (blk_far K_g.out NB_g.out _) NB_g.out _) NB_g.out _) NB_g.out _⟩
 clear NB_g
 have K_h : Aside0 (W_h.heap[g_h]? = some (.cells #[.int .i64 q1, .int .i64 q2, .slice Ah3 q3.length ch3, .slice Ah4 q4.length ch4] 28 (0, 0))) := ⟨by rw [← hW]; refine blk_put (cs := #[.int .i64 q1, .int .i64 q2, .slice Ah3 q3.length ch3, .slice none 0 0]) ?_ 3 _ rfl; refine blk_put (cs := #[.int .i64 q1, .int .i64 q2, .slice none 0 0, .slice none 0 0]) ?_ 2 _ rfl; refine blk_put (cs := #[.int .i64 q1, .int .i64 0, .slice none 0 0, .slice none 0 0]) ?_ 1 _ rfl; refine blk_put (cs := #[.int .i64 0, .int .i64 0, .slice none 0 0, .slice none 0 0]) ?_ 0 _ rfl; exact HZ.out⟩
 replace HB : Aside0 (Below w.heap.size w W_h) := ⟨by rw [← hW]; exact ((((HB.out.setCell G_h.out _).setCell G_h.out _).setCell G_h.out _).setCell G_h.out _)⟩
 clear hW hs0 hs1 hs2 hs3 hf0 hf1 hf2 hf3 hbV HZ HG hS hHeld
 have L_s : Aside0 (g_s < W_h.heap.size) := ⟨blk_lt K_s.out⟩
 have L_e : Aside0 (g_e < W_h.heap.size) := ⟨blk_lt K_e.out⟩
 have L_w : Aside0 (g_w < W_h.heap.size) := ⟨blk_lt K_w.out⟩
 have L_x : Aside0 (g_x < W_h.heap.size) := ⟨blk_lt K_x.out⟩
 have L_g : Aside0 (g_g < W_h.heap.size) := ⟨blk_lt K_g.out⟩
 have L_h : Aside0 (g_h < W_h.heap.size) := ⟨blk_lt K_h.out⟩
 have z_h_0 := (blk_cell K_h.out 0).trans rfl
 have z_h_1 := (blk_cell K_h.out 1).trans rfl
 have z_h_2 := (blk_cell K_h.out 2).trans rfl
 have z_h_3 := (blk_cell K_h.out 3).trans rfl
 have z_w_0 := (blk_cell K_w.out 0).trans rfl
 have z_w_1 := (blk_cell K_w.out 1).trans rfl
 have z_w_2 := (blk_cell K_w.out 2).trans rfl
 have z_w_3 := (blk_cell K_w.out 3).trans rfl
 go_wp2_with (first
   | (go_at_call 13; (with_reducible refine (laws_eqSegmented.calls k q1 q2 Ah3 ch3 q3 Ah4 ch4 q4 q1 q2 Aw3 cw3 q3 Aw4 cw4 q4 true _ (Kd.R_reads' R_h3.out).2.2 (Kd.R_reads' R_h3.out).2.1 (Kd.R_reads' R_h4.out).2.2 (Kd.R_reads' R_h4.out).2.1 (Kd.R_reads' R_w3.out).2.2 (Kd.R_reads' R_w3.out).2.1 (Kd.R_reads' R_w4.out).2.2 (Kd.R_reads' R_w4.out).2.1 FA.out.e1).mono ?_); rintro e W ⟨rfl, hb⟩; clear z_h_0 z_h_1 z_h_2 z_h_3 z_w_0 z_w_1 z_w_2 z_w_3; replace R_w3 := Aside0.mk (Kd.R_below R_w3.out hb); replace R_w4 := Aside0.mk (Kd.R_below R_w4.out hb); replace R_w5 := Aside0.mk (Kd.R_below R_w5.out hb); replace R_g3 := Aside0.mk (Kd.R_below R_g3.out hb); replace R_g4 := Aside0.mk (Kd.R_below R_g4.out hb); replace R_g5 := Aside0.mk (Kd.R_below R_g5.out hb); replace R_h3 := Aside0.mk (Kd.R_below R_h3.out hb); replace R_h4 := Aside0.mk (Kd.R_below R_h4.out hb); replace R_h5 := Aside0.mk (Kd.R_below R_h5.out hb); replace K_s := Aside0.mk (blk_below K_s.out hb); replace K_e := Aside0.mk (blk_below K_e.out hb); replace K_w := Aside0.mk (blk_below K_w.out hb); replace K_x := Aside0.mk (blk_below K_x.out hb); replace K_g := Aside0.mk (blk_below K_g.out hb); replace K_h := Aside0.mk (blk_below K_h.out hb); replace HB := Aside0.mk (below_step HB.out hb); clear hb)
   | (go_at_call 27; (with_reducible refine (laws_eqEntryS.calls k Ah5 ch5 q5 Aw5 cw5 q5 true _ (Kd.R_reads' R_h5.out).2.2 (Kd.R_reads' R_h5.out).2.1 (Kd.R_reads' R_w5.out).2.2 (Kd.R_reads' R_w5.out).2.1 FA.out.e2).mono ?_); rintro e W ⟨rfl, hb⟩; replace R_w3 := Aside0.mk (Kd.R_below R_w3.out hb); replace R_w4 := Aside0.mk (Kd.R_below R_w4.out hb); replace R_w5 := Aside0.mk (Kd.R_below R_w5.out hb); replace R_g3 := Aside0.mk (Kd.R_below R_g3.out hb); replace R_g4 := Aside0.mk (Kd.R_below R_g4.out hb); replace R_g5 := Aside0.mk (Kd.R_below R_g5.out hb); replace R_h3 := Aside0.mk (Kd.R_below R_h3.out hb); replace R_h4 := Aside0.mk (Kd.R_below R_h4.out hb); replace R_h5 := Aside0.mk (Kd.R_below R_h5.out hb); replace K_s := Aside0.mk (blk_below K_s.out hb); replace K_e := Aside0.mk (blk_below K_e.out hb); replace K_w := Aside0.mk (blk_below K_w.out hb); replace K_x := Aside0.mk (blk_below K_x.out hb); replace K_g := Aside0.mk (blk_below K_g.out hb); replace K_h := Aside0.mk (blk_below K_h.out hb); replace HB := Aside0.mk (below_step HB.out hb); clear hb; have z_g_0 := (blk_cell K_g.out 0).trans rfl; have z_g_1 := (blk_cell K_g.out 1).trans rfl; have z_g_2 := (blk_cell K_g.out 2).trans rfl; have z_g_3 := (blk_cell K_g.out 3).trans rfl)
   | (go_at_call 15; (with_reducible refine (held15 k q1 q2 Ag3 q3.length cg3 q3m Ag4 q4.length cg4 q4m 1 k2 _ (Kd.R_reads' R_g3.out) (Kd.R_reads' R_g4.out) FA.out.h1).mono ?_); rintro e W ⟨rfl, hb⟩; clear z_g_0 z_g_1 z_g_2 z_g_3; replace R_w3 := Aside0.mk (Kd.R_below R_w3.out hb); replace R_w4 := Aside0.mk (Kd.R_below R_w4.out hb); replace R_w5 := Aside0.mk (Kd.R_below R_w5.out hb); replace R_g3 := Aside0.mk (Kd.R_below R_g3.out hb); replace R_g4 := Aside0.mk (Kd.R_below R_g4.out hb); replace R_g5 := Aside0.mk (Kd.R_below R_g5.out hb); replace R_h3 := Aside0.mk (Kd.R_below R_h3.out hb); replace R_h4 := Aside0.mk (Kd.R_below R_h4.out hb); replace R_h5 := Aside0.mk (Kd.R_below R_h5.out hb); replace K_s := Aside0.mk (blk_below K_s.out hb); replace K_e := Aside0.mk (blk_below K_e.out hb); replace K_w := Aside0.mk (blk_below K_w.out hb); replace K_x := Aside0.mk (blk_below K_x.out hb); replace K_g := Aside0.mk (blk_below K_g.out hb); replace K_h := Aside0.mk (blk_below K_h.out hb); replace HB := Aside0.mk (below_step HB.out hb); clear hb)
   | (go_at_call 29; (with_reducible refine (held29 k Ag5 q5.length cg5 q5m k2 k3 _ (Kd.R_reads' R_g5.out) FA.out.h2).mono ?_); rintro e W ⟨rfl, hb⟩; replace R_w3 := Aside0.mk (Kd.R_below R_w3.out hb); replace R_w4 := Aside0.mk (Kd.R_below R_w4.out hb); replace R_w5 := Aside0.mk (Kd.R_below R_w5.out hb); replace R_g3 := Aside0.mk (Kd.R_below R_g3.out hb); replace R_g4 := Aside0.mk (Kd.R_below R_g4.out hb); replace R_g5 := Aside0.mk (Kd.R_below R_g5.out hb); replace R_h3 := Aside0.mk (Kd.R_below R_h3.out hb); replace R_h4 := Aside0.mk (Kd.R_below R_h4.out hb); replace R_h5 := Aside0.mk (Kd.R_below R_h5.out hb); replace K_s := Aside0.mk (blk_below K_s.out hb); replace K_e := Aside0.mk (blk_below K_e.out hb); replace K_w := Aside0.mk (blk_below K_w.out hb); replace K_x := Aside0.mk (blk_below K_x.out hb); replace K_g := Aside0.mk (blk_below K_g.out hb); replace K_h := Aside0.mk (blk_below K_h.out hb); replace HB := Aside0.mk (below_step HB.out hb); clear hb))
 go_ret
 exact ⟨rfl, HB.out⟩
def wf49 (x : S49) : Prop := x.f0.size ≤ 140737488351232 ∧ x.f1.size ≤ 140737488351232
theorem op49 : Opens Try.prog 49 k49 wf49 := Opens.struct (d := (Kd.pair Kd.string Kd.string)) (fun x : S49 => (x.f0, x.f1)) (fun p => (⟨p.1, p.2⟩ : S49)) (fun _ => rfl) Try.underlying49 (by kernel_rfl) (OpensL.cons rfl (by kernel_rfl) (Opens.string Try.underlying9) (OpensL.last rfl (by kernel_rfl) (Opens.string Try.underlying9)))
def wf24 (x : S24) : Prop := (Lit.int .i64 x.f0).wf = true ∧ (Lit.int .i64 x.f1).wf = true ∧ (x.f2.length * 32 ≤ 140737488351232 ∧ ∀ y483 ∈ x.f2, wf49 y483) ∧ (x.f3.length * 32 ≤ 140737488351232 ∧ ∀ y484 ∈ x.f3, wf49 y484)
theorem op24 : Opens Try.prog 24 k24 wf24 := Opens.struct (d := (Kd.pair (Kd.int .i64) (Kd.pair (Kd.int .i64) (Kd.pair (Kd.slice 49 k49) (Kd.slice 49 k49))))) (fun x : S24 => (x.f0, x.f1, x.f2, x.f3)) (fun p => (⟨p.1, p.2.1, p.2.2.1, p.2.2.2⟩ : S24)) (fun _ => rfl) Try.underlying24 (by kernel_rfl) (OpensL.cons rfl (by kernel_rfl) (Opens.int Try.underlying3) (OpensL.cons rfl (by kernel_rfl) (Opens.int Try.underlying3) (OpensL.cons rfl (by kernel_rfl) (Opens.slice Try.underlying22 (by kernel_rfl) (by kernel_rfl) op49) (OpensL.last rfl (by kernel_rfl) (Opens.slice Try.underlying22 (by kernel_rfl) (by kernel_rfl) op49)))))

/-- THE PURE STATEMENT: what the functions tell. -/
def laws_FnExactPutEntry.Pure : Prop := ∀ (x0 : S24) (x1 : S49), wf24 x0 → wf49 x1 → (∃ k r1, laws_szSegmented.f k x0.f0 x0.f1 x0.f2 x0.f3 1048576 = some r1 ∧ r1 < 0) ∨ (∃ k r1 r2, laws_szSegmented.f k x0.f0 x0.f1 x0.f2 x0.f3 1048576 = some r1 ∧ (¬ r1 < 0) ∧ laws_szEntry.f x1.f0 x1.f1 r1 = some r2 ∧ r2 < 0) ∨
 ∃ (k : Nat) (r1 r2 n o : Int) (t s : List S45) (q1 q2 : Int) (q3 q4 q5 : List S45) (q6 : Bool) (k1 : Int) (tm sm : List S45) (k2 : Int) (q3m q4m : List S45) (k3 : Int) (q5m : List S45), PutFacts k x0.f0 x0.f1 x0.f2 x0.f3 x1.f0 x1.f1 r1 r2 n o t s q1 q2 q3 q4 q5 q6 k1 tm sm k2 q3m q4m k3 q5m
set_option maxRecDepth 100000 in
theorem laws_FnExactPutEntry.walk (P : laws_FnExactPutEntry.Pure) (x0 : S24) (cs0 : Array Value) (x1 : S49) (cs1 : Array Value) (w : World) (hk0 : k24.K w x0 cs0.toList) (w0 : wf24 x0) (hk1 : k49.K w x1 cs1.toList) (w1 : wf49 x1) :
  Calls Try.prog 5 #[.agg cs0, .agg cs1] w fun e w' => e = .returned (.bool true) ∧ Below w.heap.size w w' := by
 obtain ⟨A0_2, c0_2, A0_3, c0_3, e0, hl0_2, hr0_2, hl0_3, hr0_3⟩ := k24_open hk0
 obtain rfl : cs0 = #[.int .i64 x0.f0, .int .i64 x0.f1, .slice A0_2 x0.f2.length c0_2, .slice A0_3 x0.f3.length c0_3] := by rw [← Array.toArray_toList (xs := cs0), e0]
 have e1 := k49_open hk1
 obtain rfl : cs1 = #[.string x1.f0, .string x1.f1] := by rw [← Array.toArray_toList (xs := cs1), e1]
 rcases P x0 x1 w0 w1 with ⟨k, r1, z1, y1⟩ | ⟨k, r1, r2, z1, y1, z2, y2⟩ | ⟨k, r1, r2, n, o, t, s, q1, q2, q3, q4, q5, q6, k1, tm, sm, k2, q3m, q4m, k3, q5m, hf⟩
 · exact laws_FnExactPutEntry.end1 x0.f0 x0.f1 _ _ x0.f2 _ _ x0.f3 x1.f0 x1.f1 w hr0_2 hl0_2 hr0_3 hl0_3 k r1 z1 y1
 · exact laws_FnExactPutEntry.end2 x0.f0 x0.f1 _ _ x0.f2 _ _ x0.f3 x1.f0 x1.f1 w hr0_2 hl0_2 hr0_3 hl0_3 k r1 r2 z1 y1 z2 y2
 · exact laws_FnExactPutEntry.main x0.f0 x0.f1 _ _ x0.f2 _ _ x0.f3 x1.f0 x1.f1 w hr0_2 hl0_2 hr0_3 hl0_3 k r1 r2 n o t s q1 q2 q3 q4 q5 q6 k1 tm sm k2 q3m q4m k3 q5m hf

end Go.Proofs.Ytfopmaiednikhaa.PFnExactPutEntry
