-- written by a program of this session (wip/tool)
import Derived.Test.YthneflfbafieeaaGreatDoorPFnTornx0
import Derived.Test.YthneflfbafieeaaGreatDoorPFnTornx10
import Derived.Test.YthneflfbafieeaaGreatDoorPFnTornx12
import Derived.Test.YthneflfbafieeaaGreatDoorPFnTornx14
import Derived.Test.YthneflfbafieeaaGreatDoorPFnTornx18
import Derived.Test.YthneflfbafieeaaGreatDoorVOwn0
import Derived.Test.YthneflfbafieeaaGreatDoorVOwnOpen
import Derived.WalkKit
import Derived.BigCall
import Derived.Test.YthneflfbafieeaaGreatDoorOwnTr
import Derived.Test.YthneflfbafieeaaGreatDoorVOwnShort
import Derived.Test.YthneflfbafieeaaGreatDoorOwnSq
namespace Go.Proofs.YthneflfbafieeaaGreatDoor.PFnTorn
open Go.RowKit Go.Proofs.YthneflfbafieeaaGreatDoorW.PrintWords Go.Proofs.YthneflfbafieeaaGreatDoorW.PrintLast Go.Proofs.YthneflfbafieeaaGreatDoorW.PrintMore Go.Shelf Go.Proofs.YthneflfbafieeaaGreatDoorOwn
attribute [local go_sem] max2_int min2_int max_two min_two max_three min_three max_four min_four   -- for this text's walks alone
set_option linter.unusedVariables false
set_option linter.unusedSimpArgs false

/-! ### strings.Split: a row of its own -/
theorem split_R (s sep : ByteArray) (w : World) (hs : s.size < 4294967281) (h1 : 1 ≤ sep.size) (G : Glob w) :
  Calls Tryz.prog 32 #[.string s, .string sep] w fun e w' => ∃ A c, e = .returned (.slice A (splitL s sep).length c) ∧ Kd.R Kd.string 9 w' w.heap.size (fun _ => True) (.slice A (splitL s sep).length c) (splitL s sep) ∧ Below w.heap.size w w' := by
 refine (trSplit s sep w hs h1 G).mono ?_
 rintro e w' ⟨rfl, rfl⟩
 refine ⟨_, _, rfl, Kd.R_of_own ⟨?_, .inr ⟨w.heap.size, _, _, rfl, Nat.le_refl _, blk_new w _, Nat.le_refl _, ?_, ?_, ?_⟩⟩ (fun _ _ => trivial), below_alloc (Below.refl _ _) _⟩
 ·simp [encs]
 ·have hle := Lib.countB_le sep h1 s.size s (Nat.le_refl _)
  rw [splitL_length s sep h1]
  exact Nat.le_trans (show Lib.countB s sep + 1 ≤ 4294967281 by omega) (by decide)
 ·simp
 ·simp only [encs]
  exact List.take_of_length_le (by simp)

/-! ### impl_TakeResponse$1: function 41 -/
theorem below_less {g B : Nat} {w w' : World} (h : Below B w w') (hg : g ≤ B) : Below g w w' := ⟨h.os, h.tape, h.output, h.size, fun k hk => h.block k (by omega)⟩
def tr2.f (a0 : ByteArray) : Option (ByteArray × Bool × Int × ByteArray) :=
 (strings_CutPrefix.f a0 ⟨#[72, 84, 84, 80, 47, 49, 46, 49, 32]⟩).bind fun c => (strings_Cut.f c.1 ⟨#[32]⟩).bind fun d => (impl_number.f d.1).bind fun n =>
  if c.2 = true then (if d.2.2 = true then (if n.2 = true then ((impl_isResponseLine.f n.1 d.2.1 [] ⟨#[]⟩).bind fun b => some (a0, b, n.1, d.2.1)) else some (a0, false, n.1, d.2.1)) else some (a0, false, n.1, d.2.1)) else some (a0, false, n.1, d.2.1)
set_option maxHeartbeats 4000000 in
set_option maxRecDepth 100000 in
theorem tr2.calls (a0 : ByteArray) (g : Nat) (r1 : ByteArray) (r2 : Bool) (r3 : Int) (r4 : ByteArray) (w : World) (K : w.heap[g]? = some (.cells #[.int .i64 0, .string ⟨#[]⟩, .slice none 0 0, .string ⟨#[]⟩] 31 (0, 0))) (h : tr2.f a0 = some (r1, r2, r3, r4)) (ht : Glob w) :
  Calls Tryz.prog 41 #[.string a0, .pointer (some ⟨g, 0, none⟩)] w fun e w' => e = .returned (.tuple #[.string r1, .bool r2]) ∧ Below g w w' ∧ w'.heap[g]? = some (.cells #[.int .i64 r3, .string r4, .slice none 0 0, .string ⟨#[]⟩] 31 (0, 0)) ∧ KeepBut w w' g none := by
 have hg : g < w.heap.size := blk_lt K
 unfold tr2.f at h
 obtain ⟨⟨c1, c2⟩, hc, h⟩ := Option.bind_eq_some_iff.mp h
 obtain ⟨⟨d1, d2, d3⟩, hd, h⟩ := Option.bind_eq_some_iff.mp h
 obtain ⟨⟨n1, n2⟩, hn, h⟩ := Option.bind_eq_some_iff.mp h
 dsimp only at hd hn h
 have CP := ak hc
 have CU := ak hd
 have NU := ak hn
 have KK := ak K
 have HT := ak ht
 clear hc hd hn K ht
 cases c2 with
 | false =>
  simp only [Bool.false_eq_true, if_false, if_true, Option.some.injEq, Prod.mk.injEq] at h
  obtain ⟨rfl, rfl, rfl, rfl⟩ := h
  go_enter Tryz.func41, Tryz.ntmps41
  go_wp2_with (first
   | (go_at_call 42; refine (strings_CutPrefix.calls a0 ⟨#[72, 84, 84, 80, 47, 49, 46, 49, 32]⟩ c1 _ w CP.out).mono ?_; rintro e w1 ⟨rfl, hb⟩; have H1 := ak hb; clear hb)
   | (go_at_call 43; refine (strings_Cut.calls c1 ⟨#[32]⟩ d1 d2 _ w1 CU.out (globg HT.out H1.out)).mono ?_; rintro e w2 ⟨rfl, hb⟩; have H2 := ak (below_step H1.out hb); clear hb)
   | (go_at_call 44; refine (impl_number.calls d1 n1 _ w2 NU.out (globg HT.out H2.out)).mono ?_; rintro e w3 ⟨rfl, hb⟩; have H3 := ak (below_step H2.out hb); clear hb; have K3 := blk_below KK.out H3.out; have z0 := (blk_cell K3 0).trans (show _ = some (.int .i64 0) from rfl); have z1 := (blk_cell K3 1).trans (show _ = some (.string ⟨#[]⟩) from rfl); have z2 := (blk_cell K3 2).trans (show _ = some (.slice none 0 0) from rfl); have z3 := (blk_cell K3 3).trans (show _ = some (.string ⟨#[]⟩) from rfl); have f0 := blk_frozen K3 0; have f1 := blk_frozen K3 1; have K3' := ak K3; clear K3))
  have K4 : ((w3.setCell ⟨g, 0, none⟩ (.int .i64 n1)).setCell ⟨g, 1, none⟩ (.string d2)).heap[g]? = some (.cells #[.int .i64 n1, .string d2, .slice none 0 0, .string ⟨#[]⟩] 31 (0, 0)) := by
   refine blk_put (cs := #[.int .i64 n1, .string ⟨#[]⟩, .slice none 0 0, .string ⟨#[]⟩]) ?_ 1 _ rfl
   refine blk_put (cs := #[.int .i64 0, .string ⟨#[]⟩, .slice none 0 0, .string ⟨#[]⟩]) ?_ 0 _ rfl
   exact K3'.out
  have B4 : Below g w ((w3.setCell ⟨g, 0, none⟩ (.int .i64 n1)).setCell ⟨g, 1, none⟩ (.string d2)) := ((below_less H3.out (Nat.le_of_lt hg)).setCell (Nat.le_refl _) _).setCell (Nat.le_refl _) _
  have Q4 : KeepBut w ((w3.setCell ⟨g, 0, none⟩ (.int .i64 n1)).setCell ⟨g, 1, none⟩ (.string d2)) g none := KeepBut.set_ (KeepBut.set_ (KeepBut.of_below H3.out g none) 0 _) 1 _
  go_ret2
  exact ⟨rfl, B4, K4, Q4⟩
 | true =>
  cases d3 with
  | false =>
   simp only [Bool.false_eq_true, if_false, if_true, Option.some.injEq, Prod.mk.injEq] at h
   obtain ⟨rfl, rfl, rfl, rfl⟩ := h
   go_enter Tryz.func41, Tryz.ntmps41
   go_wp2_with (first
    | (go_at_call 42; refine (strings_CutPrefix.calls a0 ⟨#[72, 84, 84, 80, 47, 49, 46, 49, 32]⟩ c1 _ w CP.out).mono ?_; rintro e w1 ⟨rfl, hb⟩; have H1 := ak hb; clear hb)
    | (go_at_call 43; refine (strings_Cut.calls c1 ⟨#[32]⟩ d1 d2 _ w1 CU.out (globg HT.out H1.out)).mono ?_; rintro e w2 ⟨rfl, hb⟩; have H2 := ak (below_step H1.out hb); clear hb)
    | (go_at_call 44; refine (impl_number.calls d1 n1 _ w2 NU.out (globg HT.out H2.out)).mono ?_; rintro e w3 ⟨rfl, hb⟩; have H3 := ak (below_step H2.out hb); clear hb; have K3 := blk_below KK.out H3.out; have z0 := (blk_cell K3 0).trans (show _ = some (.int .i64 0) from rfl); have z1 := (blk_cell K3 1).trans (show _ = some (.string ⟨#[]⟩) from rfl); have z2 := (blk_cell K3 2).trans (show _ = some (.slice none 0 0) from rfl); have z3 := (blk_cell K3 3).trans (show _ = some (.string ⟨#[]⟩) from rfl); have f0 := blk_frozen K3 0; have f1 := blk_frozen K3 1; have K3' := ak K3; clear K3))
   have K4 : ((w3.setCell ⟨g, 0, none⟩ (.int .i64 n1)).setCell ⟨g, 1, none⟩ (.string d2)).heap[g]? = some (.cells #[.int .i64 n1, .string d2, .slice none 0 0, .string ⟨#[]⟩] 31 (0, 0)) := by
    refine blk_put (cs := #[.int .i64 n1, .string ⟨#[]⟩, .slice none 0 0, .string ⟨#[]⟩]) ?_ 1 _ rfl
    refine blk_put (cs := #[.int .i64 0, .string ⟨#[]⟩, .slice none 0 0, .string ⟨#[]⟩]) ?_ 0 _ rfl
    exact K3'.out
   have B4 : Below g w ((w3.setCell ⟨g, 0, none⟩ (.int .i64 n1)).setCell ⟨g, 1, none⟩ (.string d2)) := ((below_less H3.out (Nat.le_of_lt hg)).setCell (Nat.le_refl _) _).setCell (Nat.le_refl _) _
   have Q4 : KeepBut w ((w3.setCell ⟨g, 0, none⟩ (.int .i64 n1)).setCell ⟨g, 1, none⟩ (.string d2)) g none := KeepBut.set_ (KeepBut.set_ (KeepBut.of_below H3.out g none) 0 _) 1 _
   go_ret2
   exact ⟨rfl, B4, K4, Q4⟩
  | true =>
   cases n2 with
   | false =>
    simp only [Bool.false_eq_true, if_false, if_true, Option.some.injEq, Prod.mk.injEq] at h
    obtain ⟨rfl, rfl, rfl, rfl⟩ := h
    go_enter Tryz.func41, Tryz.ntmps41
    go_wp2_with (first
     | (go_at_call 42; refine (strings_CutPrefix.calls a0 ⟨#[72, 84, 84, 80, 47, 49, 46, 49, 32]⟩ c1 _ w CP.out).mono ?_; rintro e w1 ⟨rfl, hb⟩; have H1 := ak hb; clear hb)
     | (go_at_call 43; refine (strings_Cut.calls c1 ⟨#[32]⟩ d1 d2 _ w1 CU.out (globg HT.out H1.out)).mono ?_; rintro e w2 ⟨rfl, hb⟩; have H2 := ak (below_step H1.out hb); clear hb)
     | (go_at_call 44; refine (impl_number.calls d1 n1 _ w2 NU.out (globg HT.out H2.out)).mono ?_; rintro e w3 ⟨rfl, hb⟩; have H3 := ak (below_step H2.out hb); clear hb; have K3 := blk_below KK.out H3.out; have z0 := (blk_cell K3 0).trans (show _ = some (.int .i64 0) from rfl); have z1 := (blk_cell K3 1).trans (show _ = some (.string ⟨#[]⟩) from rfl); have z2 := (blk_cell K3 2).trans (show _ = some (.slice none 0 0) from rfl); have z3 := (blk_cell K3 3).trans (show _ = some (.string ⟨#[]⟩) from rfl); have f0 := blk_frozen K3 0; have f1 := blk_frozen K3 1; have K3' := ak K3; clear K3))
    have K4 : ((w3.setCell ⟨g, 0, none⟩ (.int .i64 n1)).setCell ⟨g, 1, none⟩ (.string d2)).heap[g]? = some (.cells #[.int .i64 n1, .string d2, .slice none 0 0, .string ⟨#[]⟩] 31 (0, 0)) := by
     refine blk_put (cs := #[.int .i64 n1, .string ⟨#[]⟩, .slice none 0 0, .string ⟨#[]⟩]) ?_ 1 _ rfl
     refine blk_put (cs := #[.int .i64 0, .string ⟨#[]⟩, .slice none 0 0, .string ⟨#[]⟩]) ?_ 0 _ rfl
     exact K3'.out
    have B4 : Below g w ((w3.setCell ⟨g, 0, none⟩ (.int .i64 n1)).setCell ⟨g, 1, none⟩ (.string d2)) := ((below_less H3.out (Nat.le_of_lt hg)).setCell (Nat.le_refl _) _).setCell (Nat.le_refl _) _
    have Q4 : KeepBut w ((w3.setCell ⟨g, 0, none⟩ (.int .i64 n1)).setCell ⟨g, 1, none⟩ (.string d2)) g none := KeepBut.set_ (KeepBut.set_ (KeepBut.of_below H3.out g none) 0 _) 1 _
    go_ret2
    exact ⟨rfl, B4, K4, Q4⟩
   | true =>
    simp only [if_true] at h
    obtain ⟨b, hq, h⟩ := Option.bind_eq_some_iff.mp h
    simp only [Option.some.injEq, Prod.mk.injEq] at h
    obtain ⟨rfl, rfl, rfl, rfl⟩ := h
    have RL := ak hq
    clear hq
    go_enter Tryz.func41, Tryz.ntmps41
    go_wp2_with (first
     | (go_at_call 42; refine (strings_CutPrefix.calls a0 ⟨#[72, 84, 84, 80, 47, 49, 46, 49, 32]⟩ c1 _ w CP.out).mono ?_; rintro e w1 ⟨rfl, hb⟩; have H1 := ak hb; clear hb)
     | (go_at_call 43; refine (strings_Cut.calls c1 ⟨#[32]⟩ d1 d2 _ w1 CU.out (globg HT.out H1.out)).mono ?_; rintro e w2 ⟨rfl, hb⟩; have H2 := ak (below_step H1.out hb); clear hb)
     | (go_at_call 44; refine (impl_number.calls d1 n1 _ w2 NU.out (globg HT.out H2.out)).mono ?_; rintro e w3 ⟨rfl, hb⟩; have H3 := ak (below_step H2.out hb); clear hb; have K3 := blk_below KK.out H3.out; have z0 := (blk_cell K3 0).trans (show _ = some (.int .i64 0) from rfl); have z1 := (blk_cell K3 1).trans (show _ = some (.string ⟨#[]⟩) from rfl); have z2 := (blk_cell K3 2).trans (show _ = some (.slice none 0 0) from rfl); have z3 := (blk_cell K3 3).trans (show _ = some (.string ⟨#[]⟩) from rfl); have f0 := blk_frozen K3 0; have f1 := blk_frozen K3 1; have K3' := ak K3; clear K3)
     | (go_at_call 45; have hcl := impl_isResponseLine.calls n1 d2 none 0 [] ⟨#[]⟩ b ((w3.setCell ⟨g, 0, none⟩ (.int .i64 n1)).setCell ⟨g, 1, none⟩ (.string d2)) (Kd.C_nil _ _) (Nat.le_refl _) RL.out; simp only [List.length_nil] at hcl; refine hcl.mono ?_; rintro e w5 ⟨rfl, hb⟩; have H5 := ak hb; clear hb hcl))
    have K4 : ((w3.setCell ⟨g, 0, none⟩ (.int .i64 n1)).setCell ⟨g, 1, none⟩ (.string d2)).heap[g]? = some (.cells #[.int .i64 n1, .string d2, .slice none 0 0, .string ⟨#[]⟩] 31 (0, 0)) := by
     refine blk_put (cs := #[.int .i64 n1, .string ⟨#[]⟩, .slice none 0 0, .string ⟨#[]⟩]) ?_ 1 _ rfl
     refine blk_put (cs := #[.int .i64 0, .string ⟨#[]⟩, .slice none 0 0, .string ⟨#[]⟩]) ?_ 0 _ rfl
     exact K3'.out
    have B4 : Below g w ((w3.setCell ⟨g, 0, none⟩ (.int .i64 n1)).setCell ⟨g, 1, none⟩ (.string d2)) := ((below_less H3.out (Nat.le_of_lt hg)).setCell (Nat.le_refl _) _).setCell (Nat.le_refl _) _
    have Q4 : KeepBut w ((w3.setCell ⟨g, 0, none⟩ (.int .i64 n1)).setCell ⟨g, 1, none⟩ (.string d2)) g none := KeepBut.set_ (KeepBut.set_ (KeepBut.of_below H3.out g none) 0 _) 1 _
    go_ret2
    exact ⟨rfl, B4.trans (below_less H5.out (Nat.le_trans (Nat.le_of_lt hg) B4.size)), blk_below K4 H5.out, Q4.trans (KeepBut.of_below H5.out g none) (.inl rfl)⟩

/-! ### impl_take: function 30, its reader at a variable of the caller's -/
theorem var_low {P : Program} {W W' : World} {B g : Nat} {n : String} {cs : Array Value} (hg : P.globalNamed n = some g) (h : W.var? P n = some cs) (hb : Below B W W') (hB : g < B) : W'.var? P n = some cs := by
 unfold World.var? at h ⊢
 rw [hg] at h ⊢
 simp only [Option.bind_some] at h ⊢
 rw [hb.block g hB]
 exact h
theorem glob_low {w w' : World} (h : Glob w) {B : Nat} (hb : Below B w w') (hB : 6 ≤ B) : Glob w' := by
 obtain ⟨⟨m, hm⟩, ⟨t1, p1, h1⟩, ⟨t2, p2, h2⟩, h3⟩ := h
 exact ⟨⟨m, (hb.cell (p := ⟨0, 0, none⟩) (show 0 < B by omega)).trans hm⟩, ⟨t1, p1, var_low (g := 1) (by kernel_rfl) h1 hb (by omega)⟩, ⟨t2, p2, var_low (g := 2) (by kernel_rfl) h2 hb (by omega)⟩, var_low (g := 5) (by kernel_rfl) h3 hb (by omega)⟩
theorem glob_size {w : World} (h : Glob w) : 6 ≤ w.heap.size := by
 have h2 : w.var? Tryz.prog "internal/strconv.uint64pow10" = some _ := h.tb
 rcases Nat.lt_or_ge 5 w.heap.size with h' | h'
 ·exact h'
 ·unfold World.var? at h2
  rw [show Tryz.prog.globalNamed "internal/strconv.uint64pow10" = some 5 by kernel_rfl] at h2
  simp [Array.getElem?_eq_none h'] at h2
def crlf : ByteArray := ⟨#[13, 10]⟩
def crlf2 : ByteArray := ⟨#[13, 10, 13, 10]⟩
def headEnd (s : ByteArray) : Int := Lib.index s.data.toList crlf2.data.toList
def headLines (s : ByteArray) : List ByteArray := splitL (s.extract 0 (headEnd s).toNat) crlf
def takeF {σ : Type} (rd : ByteArray → Option (ByteArray × Bool × σ)) (st0 : σ) (k : Nat) (s : ByteArray) : Option (List S75 × ByteArray × Int × Int × σ) :=
 if s.size < 4294967281 then
  (if headEnd s < 0 then (if (s.size : Int) > 2000 then some ([], ⟨#[]⟩, 0, 5, st0) else some ([], ⟨#[]⟩, 0, 1, st0))
  else if headEnd s + 4 > 2000 then some ([], ⟨#[]⟩, 0, 5, st0)
  else if headEnd s + 4 ≤ (s.size : Int) then
   ((rd (rdOf ByteArray.empty (headLines s) 0)).bind fun a =>
    if a.2.1 = true then
     ((impl_fieldsOf.f k ((headLines s).drop 1)).bind fun b =>
      if b.2 = true then
       ((impl_lengthOf.f k b.1).bind fun c =>
        if c.2.2 = true then
         (if c.1 > 300 then some ([], ⟨#[]⟩, 0, 4, a.2.2)
         else if ((s.size : Int) - (headEnd s + 4)) < c.1 then some ([], ⟨#[]⟩, 0, 1, a.2.2)
         else (impl_headText.f k a.1 b.1).bind fun t =>
          if (t.size : Int) > 2000 then some ([], ⟨#[]⟩, 0, 5, a.2.2)
          else if 0 ≤ c.1 then some (b.1, (s.extract ((headEnd s).toNat + 4) s.size).extract 0 c.1.toNat, headEnd s + 4 + c.1, 0, a.2.2) else none)
        else some ([], ⟨#[]⟩, 0, 4, a.2.2))
      else some ([], ⟨#[]⟩, 0, 3, a.2.2))
    else some ([], ⟨#[]⟩, 0, 2, a.2.2))
  else none)
 else none
theorem drop_one {w : World} {B g2 c : Nat} {ok : Nat → Prop} {l : List ByteArray} (h : Kd.R Kd.string 9 w B ok (.slice (some ⟨g2, 0, none⟩) l.length c) l) (h1 : 1 ≤ l.length) :
  (c = 1 → Kd.C Kd.string w (some ⟨g2, 0, none⟩) (l.length - 1) (l.drop 1)) ∧ (¬ c = 1 → Kd.C Kd.string w (some ⟨g2, 1, none⟩) (l.length - 1) (l.drop 1)) := by
 have hr := Kd.R_reads' h
 have h0 := Kd.C_drop (m := 1) (c := c) hr.2.2 h1 hr.2.1
 rw [List.length_drop] at h0
 constructor
 ·intro e; rw [if_pos e] at h0; exact h0
 ·intro e; rw [if_neg e] at h0; exact h0
structure Took (w : World) (g T : Nat) (cs : Array Value) (fs : List S75) (v : Value) (w' : World) : Prop where
 r : Kd.R k75 75 w' w.heap.size (fun _ => True) v fs
 b : Below g w w'
 k : w'.heap[g]? = some (.cells cs T (0, 0))
set_option maxHeartbeats 8000000 in
set_option maxRecDepth 100000 in
theorem takeG.calls {σ : Type} (h : Nat) (rd : ByteArray → Option (ByteArray × Bool × σ)) (cells : σ → Array Value) (T : Nat) (st0 : σ)
  (eh : ∀ args w, (callFunc h args).run Tryz.prog w = .ok (.enter h args) w)
  (hrd : ∀ (line : ByteArray) (g : Nat) (r1 : ByteArray) (r2 : Bool) (st : σ) (W : World), W.heap[g]? = some (.cells (cells st0) T (0, 0)) → rd line = some (r1, r2, st) → Glob W →
   Calls Tryz.prog h #[.string line, .pointer (some ⟨g, 0, none⟩)] W fun e W' => e = .returned (.tuple #[.string r1, .bool r2]) ∧ Below g W W' ∧ W'.heap[g]? = some (.cells (cells st) T (0, 0)) ∧ KeepBut W W' g none)
  (k : Nat) (s : ByteArray) (g : Nat) (fs : List S75) (body : ByteArray) (many code : Int) (st : σ) (w : World) (h3 : 6 ≤ g) (K : w.heap[g]? = some (.cells (cells st0) T (0, 0))) (hf : takeF rd st0 k s = some (fs, body, many, code, st)) (ht : Glob w) :
  Calls Tryz.prog 30 #[.string s, .func (.func h) #[] #[.pointer (some ⟨g, 0, none⟩)]] w fun e w' => ∃ v, e = .returned (.tuple #[v, .string body, .int .i64 many, .int .i64 code]) ∧ Took w g T (cells st) fs v w' := by
 have hg : g < w.heap.size := blk_lt K
 unfold takeF at hf
 by_cases hs : s.size < 4294967281
 rotate_left
 ·rw [if_neg hs] at hf; cases hf
 rw [if_pos hs] at hf
 have hix : Calls Tryz.prog 65 #[.string s, .string ⟨#[13, 10, 13, 10]⟩] w fun e w' => e = .returned (.int .i64 (headEnd s)) ∧ Below w.heap.size w w' := trIndex s crlf2 w hs ht
 have IX := ak hix
 clear hix
 have KK := ak K
 clear K
 have GG := ak ht
 clear ht
 have hge : -1 ≤ headEnd s := Lib.index_ge _ _
 have hile : headEnd s ≤ (s.size : Int) := by have h0 := Lib.index_le s.data.toList crlf2.data.toList; rw [data_length] at h0; exact h0
 have HL : headLines s = splitL (s.extract 0 (headEnd s).toNat) crlf := rfl
 generalize headLines s = hls at hf HL
 generalize headEnd s = e at hf IX HL hge hile
 by_cases hneg : e < 0
 ·rw [if_pos hneg] at hf
  have hn1 : decide (e < 0) = true := decide_eq_true hneg
  have hn4 : decide (2000 < wrap64 (e + 4)) = false := decide_eq_false (by unfold wrap64; omega)
  by_cases hbig : 2000 < (s.size : Int)
  ·rw [if_pos (show (s.size : Int) > 2000 from hbig)] at hf
   have hb1 : decide (2000 < (s.size : Int)) = true := decide_eq_true hbig
   simp only [Option.some.injEq, Prod.mk.injEq] at hf
   obtain ⟨rfl, rfl, rfl, rfl, rfl⟩ := hf
   clear hbig hneg HL hrd hs hge hile
   go_enter Tryz.func30, Tryz.ntmps30
   go_wp2_with (go_at_call 65; refine IX.out.mono ?_; rintro e w1 ⟨rfl, hb⟩; have HB := ak hb; clear hb)
   refine bodyPost_ret (results_list (rs := [.tmp 4, .tmp 5, .tmp 6, .tmp 7]) rfl (by simp) (.tmp (.tmp (.tmp (.tmp .nil))))) rfl ?_
   exact ⟨_, rfl, ⟨Kd.R_nil _ _ _ _ _, below_less HB.out (Nat.le_of_lt hg), blk_below KK.out HB.out⟩⟩
  ·rw [if_neg (show ¬ (s.size : Int) > 2000 from hbig)] at hf
   have hb1 : decide (2000 < (s.size : Int)) = false := decide_eq_false hbig
   simp only [Option.some.injEq, Prod.mk.injEq] at hf
   obtain ⟨rfl, rfl, rfl, rfl, rfl⟩ := hf
   clear hbig hneg HL hrd hs hge hile
   go_enter Tryz.func30, Tryz.ntmps30
   go_wp2_with (go_at_call 65; refine IX.out.mono ?_; rintro e w1 ⟨rfl, hb⟩; have HB := ak hb; clear hb)
   refine bodyPost_ret (results_list (rs := [.tmp 4, .tmp 5, .tmp 6, .tmp 7]) rfl (by simp) (.tmp (.tmp (.tmp (.tmp .nil))))) rfl ?_
   exact ⟨_, rfl, ⟨Kd.R_nil _ _ _ _ _, below_less HB.out (Nat.le_of_lt hg), blk_below KK.out HB.out⟩⟩
 rw [if_neg hneg] at hf
 obtain ⟨n, rfl⟩ : ∃ n : Nat, e = (n : Int) := ⟨e.toNat, by omega⟩
 rw [Int.toNat_natCast] at hf HL
 have hn1 : decide ((n : Int) < 0) = false := decide_eq_false hneg
 by_cases hbig : (n : Int) + 4 > 2000
 ·rw [if_pos hbig] at hf
  have hn4 : decide (2000 < wrap64 ((n : Int) + 4)) = true := decide_eq_true (by have h0 : (n : Int) ≤ (s.size : Int) := (by have := hile; omega); unfold wrap64; omega)
  simp only [Option.some.injEq, Prod.mk.injEq] at hf
  obtain ⟨rfl, rfl, rfl, rfl, rfl⟩ := hf
  clear hbig hneg HL hrd hs hge hile
  go_enter Tryz.func30, Tryz.ntmps30
  go_wp2_with (go_at_call 65; refine IX.out.mono ?_; rintro e w1 ⟨rfl, hb⟩; have HB := ak hb; clear hb)
  refine bodyPost_ret (results_list (rs := [.tmp 4, .tmp 5, .tmp 6, .tmp 7]) rfl (by simp) (.tmp (.tmp (.tmp (.tmp .nil))))) rfl ?_
  exact ⟨_, rfl, ⟨Kd.R_nil _ _ _ _ _, below_less HB.out (Nat.le_of_lt hg), blk_below KK.out HB.out⟩⟩
 rw [if_neg hbig] at hf
 by_cases hin : (n : Int) + 4 ≤ (s.size : Int)
 rotate_left
 ·rw [if_neg hin] at hf; cases hf
 rw [if_pos hin] at hf
 have hn4 : decide (2000 < wrap64 ((n : Int) + 4)) = false := decide_eq_false (by unfold wrap64; omega)
 have hw4 : wrap64 ((n : Int) + 4) = ((n + 4 : Nat) : Int) := by unfold wrap64; omega
 have hn5 : decide (2000 < (n : Int) + 4) = false := decide_eq_false (by omega)
 replace hf := Option.bind_eq_some_iff.mp hf
 obtain ⟨⟨line, ok, st1⟩, hr, hf⟩ := hf
 dsimp only at hf
 cases ok with
 | false =>
  rw [if_neg (by simp)] at hf
  simp only [Option.some.injEq, Prod.mk.injEq] at hf
  obtain ⟨rfl, rfl, rfl, rfl, rfl⟩ := hf
  have hsz : (s.extract 0 n).size < 4294967281 := by rw [ByteArray.size_extract]; omega
  have hnn : n ≤ s.size := by omega
  have HSZ := ak hsz
  have RD := ak hr
  have RDH := ak hrd
  have HLA := ak HL
  clear hsz hr hrd HL hbig hneg hge hile
  have hlen : 1 ≤ hls.length := by rw [HLA.out, splitL_length _ _ (by decide)]; omega
  have p1 : (n : Int) ≤ (s.size : Int) := by omega
  have p1b := eq_true p1
  have p2 : (0 : Int) < (hls.length : Int) := by omega
  have p2b := eq_true p2
  have hsp : ∀ W, Glob W → Calls Tryz.prog 32 #[.string (s.extract 0 n), .string ⟨#[13, 10]⟩] W fun e w' => ∃ g2 c, e = .returned (.slice (some ⟨g2, 0, none⟩) hls.length c) ∧ Kd.R Kd.string 9 w' W.heap.size (fun _ => True) (.slice (some ⟨g2, 0, none⟩) hls.length c) hls ∧ w'.cell? ⟨g2, 0, none⟩ = some (.string (rdOf ByteArray.empty hls 0)) ∧ Below W.heap.size W w' := by
   intro W hG
   have h0 := split_R (s.extract 0 n) ⟨#[13, 10]⟩ W HSZ.out (by decide) hG
   rw [show splitL (s.extract 0 n) ⟨#[13, 10]⟩ = hls from HLA.out.symm] at h0
   refine h0.mono ?_
   rintro e w' ⟨A, c, rfl, hR, hb⟩
   obtain ⟨ad, ea, hx0⟩ := Kd.at_string (Kd.R_reads' hR).2.2 0 (Int.le_refl 0) (by omega)
   subst ea
   obtain ⟨g2, rfl⟩ := Kd.R_head hR
   exact ⟨g2, c, rfl, hR, hx0, hb⟩
  have SPC := ak hsp
  clear hsp
  go_enter Tryz.func30, Tryz.ntmps30
  go_wp2_with (first
   | (go_at_call 65; refine IX.out.mono ?_; rintro e w1 ⟨rfl, hb⟩; have HB := ak (below_less hb (Nat.le_of_lt hg)); have S1 := hb.size; have K1 := ak (blk_below KK.out hb); have G1 := ak (globg GG.out hb); clear hb)
   | (go_at_call 32; refine (SPC.out _ G1.out).mono ?_; rintro e w2 ⟨g2, c, rfl, hR, hx0, hb⟩; have HB2 := ak (HB.out.trans (below_less hb (by omega))); have S2 := hb.size; have K2 := ak (blk_below K1.out hb); have G2 := ak (globg G1.out hb); have R2 := ak (Kd.R_lower hR S1); clear hb hR HB K1 G1)
   | (go_at_fn h; refine (RDH.out (rdOf ByteArray.empty hls 0) g line false st1 _ K2.out RD.out G2.out).mono ?_; rintro e w3 ⟨rfl, hb, hk, hkb⟩; have HB3 := ak (HB2.out.trans hb); have S3 := hb.size; have K3 := ak hk; have G3 := ak (glob_low G2.out hb h3); have R3 := ak (Kd.R_keep (Kd.R_bound R2.out) hkb (fun j hj => by have := hj.2.1; omega)); clear hb hk hkb hx0 HB2 K2 G2 R2))
  all_goals
   refine bodyPost_ret (results_list (rs := [.tmp 4, .tmp 5, .tmp 6, .tmp 7]) rfl (by simp) (.tmp (.tmp (.tmp (.tmp .nil))))) rfl ?_
   exact ⟨_, rfl, ⟨Kd.R_nil _ _ _ _ _, HB3.out, K3.out⟩⟩
 | true =>
  rw [if_pos rfl] at hf
  replace hf := Option.bind_eq_some_iff.mp hf
  obtain ⟨⟨fs2, ok2⟩, hfo, hf⟩ := hf
  dsimp only at hf
  have FO := ak hfo
  clear hfo
  cases ok2 with
  | false =>
   rw [if_neg (by simp)] at hf
   simp only [Option.some.injEq, Prod.mk.injEq] at hf
   obtain ⟨rfl, rfl, rfl, rfl, rfl⟩ := hf
   have hsz : (s.extract 0 n).size < 4294967281 := by rw [ByteArray.size_extract]; omega
   have hnn : n ≤ s.size := by omega
   have HSZ := ak hsz
   have RD := ak hr
   have RDH := ak hrd
   have HLA := ak HL
   clear hsz hr hrd HL hbig hneg hge hile
   have hlen : 1 ≤ hls.length := by rw [HLA.out, splitL_length _ _ (by decide)]; omega
   have p1 : (n : Int) ≤ (s.size : Int) := by omega
   have p1b := eq_true p1
   have p2 : (0 : Int) < (hls.length : Int) := by omega
   have p2b := eq_true p2
   have hsp : ∀ W, Glob W → Calls Tryz.prog 32 #[.string (s.extract 0 n), .string ⟨#[13, 10]⟩] W fun e w' => ∃ g2 c, e = .returned (.slice (some ⟨g2, 0, none⟩) hls.length c) ∧ Kd.R Kd.string 9 w' W.heap.size (fun _ => True) (.slice (some ⟨g2, 0, none⟩) hls.length c) hls ∧ w'.cell? ⟨g2, 0, none⟩ = some (.string (rdOf ByteArray.empty hls 0)) ∧ Below W.heap.size W w' := by
    intro W hG
    have h0 := split_R (s.extract 0 n) ⟨#[13, 10]⟩ W HSZ.out (by decide) hG
    rw [show splitL (s.extract 0 n) ⟨#[13, 10]⟩ = hls from HLA.out.symm] at h0
    refine h0.mono ?_
    rintro e w' ⟨A, c, rfl, hR, hb⟩
    obtain ⟨ad, ea, hx0⟩ := Kd.at_string (Kd.R_reads' hR).2.2 0 (Int.le_refl 0) (by omega)
    subst ea
    obtain ⟨g2, rfl⟩ := Kd.R_head hR
    exact ⟨g2, c, rfl, hR, hx0, hb⟩
   have SPC := ak hsp
   clear hsp
   have hfo : ∀ W A c', Kd.C Kd.string W A (hls.length - 1) (hls.drop 1) → hls.length - 1 ≤ c' → Glob W → Calls Tryz.prog 66 #[.slice A (hls.length - 1) c'] W fun e w' => ∃ v0_ : Value, e = .returned (.tuple #[v0_, .bool false]) ∧ Kd.R k75 75 w' W.heap.size (fun _ => True) v0_ fs2 ∧ Below W.heap.size W w' := by
    intro W A c' hC hc hG
    have h0 := impl_fieldsOf.calls k A c' (hls.drop 1) fs2 false W (by rw [List.length_drop]; exact hC) (by rw [List.length_drop]; exact hc) FO.out hG
    rw [List.length_drop] at h0
    exact h0
   have FOC := ak hfo
   clear hfo
   go_enter Tryz.func30, Tryz.ntmps30
   go_wp2_with (first
    | (go_at_call 65; refine IX.out.mono ?_; rintro e w1 ⟨rfl, hb⟩; have HB := ak (below_less hb (Nat.le_of_lt hg)); have S1 := hb.size; have K1 := ak (blk_below KK.out hb); have G1 := ak (globg GG.out hb); clear hb)
    | (go_at_call 32; refine (SPC.out _ G1.out).mono ?_; rintro e w2 ⟨g2, c, rfl, hR, hx0, hb⟩; have HB2 := ak (HB.out.trans (below_less hb (by omega))); have S2 := hb.size; have K2 := ak (blk_below K1.out hb); have G2 := ak (globg G1.out hb); have R2 := ak (Kd.R_lower hR S1); clear hb hR HB K1 G1)
    | (go_at_fn h; refine (RDH.out (rdOf ByteArray.empty hls 0) g line true st1 _ K2.out RD.out G2.out).mono ?_; rintro e w3 ⟨rfl, hb, hk, hkb⟩; have HB3 := ak (HB2.out.trans hb); have S3 := hb.size; have K3 := ak hk; have G3 := ak (glob_low G2.out hb h3); have R3 := ak (Kd.R_keep (Kd.R_bound R2.out) hkb (fun j hj => by have := hj.2.1; omega)); clear hb hk hkb hx0 HB2 K2 G2 R2)
    | (go_at_call 66; (first | with_reducible refine (FOC.out _ (some ⟨g2, 0, none⟩) 0 ((drop_one R3.out hlen).1 (by assumption)) (by have := (Kd.R_reads' R3.out).2.1; omega) G3.out).mono ?_ | with_reducible refine (FOC.out _ (some ⟨g2, 1, none⟩) (c - 1) ((drop_one R3.out hlen).2 (by assumption)) (by have := (Kd.R_reads' R3.out).2.1; omega) G3.out).mono ?_); rintro e w4 ⟨v4, rfl, hR, hb⟩; obtain ⟨A4, c4, e4⟩ := Kd.R_slice hR; subst e4; have HB4 := ak (HB3.out.trans (below_less hb (by omega))); have S4 := hb.size; have K4 := ak (blk_below K3.out hb); have G4 := ak (globg G3.out hb); have R4 := ak (Kd.R_lower (base' := w.heap.size) hR (by omega)); clear hb hR HB3 K3 G3 R3))
   all_goals
    refine bodyPost_ret (results_list (rs := [.tmp 4, .tmp 5, .tmp 6, .tmp 7]) rfl (by simp) (.tmp (.tmp (.tmp (.tmp .nil))))) rfl ?_
    exact ⟨_, rfl, ⟨Kd.R_nil _ _ _ _ _, HB4.out, K4.out⟩⟩
  | true =>
  rw [if_pos rfl] at hf
  replace hf := Option.bind_eq_some_iff.mp hf
  obtain ⟨⟨len, has, ok3⟩, hlo, hf⟩ := hf
  dsimp only at hf
  have LO := ak hlo
  clear hlo
  cases ok3 with
  | false =>
   rw [if_neg (by simp)] at hf
   simp only [Option.some.injEq, Prod.mk.injEq] at hf
   obtain ⟨rfl, rfl, rfl, rfl, rfl⟩ := hf
   have hsz : (s.extract 0 n).size < 4294967281 := by rw [ByteArray.size_extract]; omega
   have hnn : n ≤ s.size := by omega
   have HSZ := ak hsz
   have RD := ak hr
   have RDH := ak hrd
   have HLA := ak HL
   clear hsz hr hrd HL hbig hneg hge hile
   have hlen : 1 ≤ hls.length := by rw [HLA.out, splitL_length _ _ (by decide)]; omega
   have p1 : (n : Int) ≤ (s.size : Int) := by omega
   have p1b := eq_true p1
   have p2 : (0 : Int) < (hls.length : Int) := by omega
   have p2b := eq_true p2
   have hsp : ∀ W, Glob W → Calls Tryz.prog 32 #[.string (s.extract 0 n), .string ⟨#[13, 10]⟩] W fun e w' => ∃ g2 c, e = .returned (.slice (some ⟨g2, 0, none⟩) hls.length c) ∧ Kd.R Kd.string 9 w' W.heap.size (fun _ => True) (.slice (some ⟨g2, 0, none⟩) hls.length c) hls ∧ w'.cell? ⟨g2, 0, none⟩ = some (.string (rdOf ByteArray.empty hls 0)) ∧ Below W.heap.size W w' := by
    intro W hG
    have h0 := split_R (s.extract 0 n) ⟨#[13, 10]⟩ W HSZ.out (by decide) hG
    rw [show splitL (s.extract 0 n) ⟨#[13, 10]⟩ = hls from HLA.out.symm] at h0
    refine h0.mono ?_
    rintro e w' ⟨A, c, rfl, hR, hb⟩
    obtain ⟨ad, ea, hx0⟩ := Kd.at_string (Kd.R_reads' hR).2.2 0 (Int.le_refl 0) (by omega)
    subst ea
    obtain ⟨g2, rfl⟩ := Kd.R_head hR
    exact ⟨g2, c, rfl, hR, hx0, hb⟩
   have SPC := ak hsp
   clear hsp
   have hfo : ∀ W A c', Kd.C Kd.string W A (hls.length - 1) (hls.drop 1) → hls.length - 1 ≤ c' → Glob W → Calls Tryz.prog 66 #[.slice A (hls.length - 1) c'] W fun e w' => ∃ v0_ : Value, e = .returned (.tuple #[v0_, .bool true]) ∧ Kd.R k75 75 w' W.heap.size (fun _ => True) v0_ fs2 ∧ Below W.heap.size W w' := by
    intro W A c' hC hc hG
    have h0 := impl_fieldsOf.calls k A c' (hls.drop 1) fs2 true W (by rw [List.length_drop]; exact hC) (by rw [List.length_drop]; exact hc) FO.out hG
    rw [List.length_drop] at h0
    exact h0
   have FOC := ak hfo
   clear hfo
   go_enter Tryz.func30, Tryz.ntmps30
   go_wp2_with (first
    | (go_at_call 65; refine IX.out.mono ?_; rintro e w1 ⟨rfl, hb⟩; have HB := ak (below_less hb (Nat.le_of_lt hg)); have S1 := hb.size; have K1 := ak (blk_below KK.out hb); have G1 := ak (globg GG.out hb); clear hb)
    | (go_at_call 32; refine (SPC.out _ G1.out).mono ?_; rintro e w2 ⟨g2, c, rfl, hR, hx0, hb⟩; have HB2 := ak (HB.out.trans (below_less hb (by omega))); have S2 := hb.size; have K2 := ak (blk_below K1.out hb); have G2 := ak (globg G1.out hb); have R2 := ak (Kd.R_lower hR S1); clear hb hR HB K1 G1)
    | (go_at_fn h; refine (RDH.out (rdOf ByteArray.empty hls 0) g line true st1 _ K2.out RD.out G2.out).mono ?_; rintro e w3 ⟨rfl, hb, hk, hkb⟩; have HB3 := ak (HB2.out.trans hb); have S3 := hb.size; have K3 := ak hk; have G3 := ak (glob_low G2.out hb h3); have R3 := ak (Kd.R_keep (Kd.R_bound R2.out) hkb (fun j hj => by have := hj.2.1; omega)); clear hb hk hkb hx0 HB2 K2 G2 R2)
    | (go_at_call 66; (first | with_reducible refine (FOC.out _ (some ⟨g2, 0, none⟩) 0 ((drop_one R3.out hlen).1 (by assumption)) (by have := (Kd.R_reads' R3.out).2.1; omega) G3.out).mono ?_ | with_reducible refine (FOC.out _ (some ⟨g2, 1, none⟩) (c - 1) ((drop_one R3.out hlen).2 (by assumption)) (by have := (Kd.R_reads' R3.out).2.1; omega) G3.out).mono ?_); rintro e w4 ⟨v4, rfl, hR, hb⟩; obtain ⟨A4, c4, e4⟩ := Kd.R_slice hR; subst e4; have HB4 := ak (HB3.out.trans (below_less hb (by omega))); have S4 := hb.size; have K4 := ak (blk_below K3.out hb); have G4 := ak (globg G3.out hb); have R4 := ak (Kd.R_lower (base' := w.heap.size) hR (by omega)); clear hb hR HB3 K3 G3 R3)
    | (go_at_call 67; with_reducible refine (impl_lengthOf.calls k A4 c4 fs2 len has false _ (Kd.R_reads' R4.out).2.2 (Kd.R_reads' R4.out).2.1 LO.out G4.out).mono ?_; rintro e w5 ⟨rfl, hb⟩; have HB5 := ak (HB4.out.trans (below_less hb (by omega))); have S5 := hb.size; have K5 := ak (blk_below K4.out hb); have R5 := ak (Kd.R_below R4.out hb); clear hb HB4 K4 G4 R4))
   all_goals
    refine bodyPost_ret (results_list (rs := [.tmp 4, .tmp 5, .tmp 6, .tmp 7]) rfl (by simp) (.tmp (.tmp (.tmp (.tmp .nil))))) rfl ?_
    exact ⟨_, rfl, ⟨Kd.R_nil _ _ _ _ _, HB5.out, K5.out⟩⟩
  | true =>
  rw [if_pos rfl] at hf
  by_cases hl3 : len > 300
  ·rw [if_pos hl3] at hf
   simp only [Option.some.injEq, Prod.mk.injEq] at hf
   obtain ⟨rfl, rfl, rfl, rfl, rfl⟩ := hf
   have hsz : (s.extract 0 n).size < 4294967281 := by rw [ByteArray.size_extract]; omega
   have hnn : n ≤ s.size := by omega
   have HSZ := ak hsz
   have RD := ak hr
   have RDH := ak hrd
   have HLA := ak HL
   clear hsz hr hrd HL hbig hneg hge hile
   have hlen : 1 ≤ hls.length := by rw [HLA.out, splitL_length _ _ (by decide)]; omega
   have p1 : (n : Int) ≤ (s.size : Int) := by omega
   have p1b := eq_true p1
   have p2 : (0 : Int) < (hls.length : Int) := by omega
   have p2b := eq_true p2
   have hsp : ∀ W, Glob W → Calls Tryz.prog 32 #[.string (s.extract 0 n), .string ⟨#[13, 10]⟩] W fun e w' => ∃ g2 c, e = .returned (.slice (some ⟨g2, 0, none⟩) hls.length c) ∧ Kd.R Kd.string 9 w' W.heap.size (fun _ => True) (.slice (some ⟨g2, 0, none⟩) hls.length c) hls ∧ w'.cell? ⟨g2, 0, none⟩ = some (.string (rdOf ByteArray.empty hls 0)) ∧ Below W.heap.size W w' := by
    intro W hG
    have h0 := split_R (s.extract 0 n) ⟨#[13, 10]⟩ W HSZ.out (by decide) hG
    rw [show splitL (s.extract 0 n) ⟨#[13, 10]⟩ = hls from HLA.out.symm] at h0
    refine h0.mono ?_
    rintro e w' ⟨A, c, rfl, hR, hb⟩
    obtain ⟨ad, ea, hx0⟩ := Kd.at_string (Kd.R_reads' hR).2.2 0 (Int.le_refl 0) (by omega)
    subst ea
    obtain ⟨g2, rfl⟩ := Kd.R_head hR
    exact ⟨g2, c, rfl, hR, hx0, hb⟩
   have SPC := ak hsp
   clear hsp
   have hfo : ∀ W A c', Kd.C Kd.string W A (hls.length - 1) (hls.drop 1) → hls.length - 1 ≤ c' → Glob W → Calls Tryz.prog 66 #[.slice A (hls.length - 1) c'] W fun e w' => ∃ v0_ : Value, e = .returned (.tuple #[v0_, .bool true]) ∧ Kd.R k75 75 w' W.heap.size (fun _ => True) v0_ fs2 ∧ Below W.heap.size W w' := by
    intro W A c' hC hc hG
    have h0 := impl_fieldsOf.calls k A c' (hls.drop 1) fs2 true W (by rw [List.length_drop]; exact hC) (by rw [List.length_drop]; exact hc) FO.out hG
    rw [List.length_drop] at h0
    exact h0
   have FOC := ak hfo
   clear hfo
   go_enter Tryz.func30, Tryz.ntmps30
   go_wp2_with (first
    | (go_at_call 65; refine IX.out.mono ?_; rintro e w1 ⟨rfl, hb⟩; have HB := ak (below_less hb (Nat.le_of_lt hg)); have S1 := hb.size; have K1 := ak (blk_below KK.out hb); have G1 := ak (globg GG.out hb); clear hb)
    | (go_at_call 32; refine (SPC.out _ G1.out).mono ?_; rintro e w2 ⟨g2, c, rfl, hR, hx0, hb⟩; have HB2 := ak (HB.out.trans (below_less hb (by omega))); have S2 := hb.size; have K2 := ak (blk_below K1.out hb); have G2 := ak (globg G1.out hb); have R2 := ak (Kd.R_lower hR S1); clear hb hR HB K1 G1)
    | (go_at_fn h; refine (RDH.out (rdOf ByteArray.empty hls 0) g line true st1 _ K2.out RD.out G2.out).mono ?_; rintro e w3 ⟨rfl, hb, hk, hkb⟩; have HB3 := ak (HB2.out.trans hb); have S3 := hb.size; have K3 := ak hk; have G3 := ak (glob_low G2.out hb h3); have R3 := ak (Kd.R_keep (Kd.R_bound R2.out) hkb (fun j hj => by have := hj.2.1; omega)); clear hb hk hkb hx0 HB2 K2 G2 R2)
    | (go_at_call 66; (first | with_reducible refine (FOC.out _ (some ⟨g2, 0, none⟩) 0 ((drop_one R3.out hlen).1 (by assumption)) (by have := (Kd.R_reads' R3.out).2.1; omega) G3.out).mono ?_ | with_reducible refine (FOC.out _ (some ⟨g2, 1, none⟩) (c - 1) ((drop_one R3.out hlen).2 (by assumption)) (by have := (Kd.R_reads' R3.out).2.1; omega) G3.out).mono ?_); rintro e w4 ⟨v4, rfl, hR, hb⟩; obtain ⟨A4, c4, e4⟩ := Kd.R_slice hR; subst e4; have HB4 := ak (HB3.out.trans (below_less hb (by omega))); have S4 := hb.size; have K4 := ak (blk_below K3.out hb); have G4 := ak (globg G3.out hb); have R4 := ak (Kd.R_lower (base' := w.heap.size) hR (by omega)); clear hb hR HB3 K3 G3 R3)
    | (go_at_call 67; with_reducible refine (impl_lengthOf.calls k A4 c4 fs2 len has true _ (Kd.R_reads' R4.out).2.2 (Kd.R_reads' R4.out).2.1 LO.out G4.out).mono ?_; rintro e w5 ⟨rfl, hb⟩; have HB5 := ak (HB4.out.trans (below_less hb (by omega))); have S5 := hb.size; have K5 := ak (blk_below K4.out hb); have R5 := ak (Kd.R_below R4.out hb); clear hb HB4 K4 G4 R4))
   all_goals
    refine bodyPost_ret (results_list (rs := [.tmp 4, .tmp 5, .tmp 6, .tmp 7]) rfl (by simp) (.tmp (.tmp (.tmp (.tmp .nil))))) rfl ?_
    exact ⟨_, rfl, ⟨Kd.R_nil _ _ _ _ _, HB5.out, K5.out⟩⟩
  rw [if_neg hl3] at hf
  by_cases hrs : (s.size : Int) - ((n : Int) + 4) < len
  ·rw [if_pos hrs] at hf
   simp only [Option.some.injEq, Prod.mk.injEq] at hf
   obtain ⟨rfl, rfl, rfl, rfl, rfl⟩ := hf
   have hsz : (s.extract 0 n).size < 4294967281 := by rw [ByteArray.size_extract]; omega
   have hnn : n ≤ s.size := by omega
   have HSZ := ak hsz
   have RD := ak hr
   have RDH := ak hrd
   have HLA := ak HL
   clear hsz hr hrd HL hbig hneg hge hile
   have hlen : 1 ≤ hls.length := by rw [HLA.out, splitL_length _ _ (by decide)]; omega
   have p1 : (n : Int) ≤ (s.size : Int) := by omega
   have p1b := eq_true p1
   have p2 : (0 : Int) < (hls.length : Int) := by omega
   have p2b := eq_true p2
   have hsp : ∀ W, Glob W → Calls Tryz.prog 32 #[.string (s.extract 0 n), .string ⟨#[13, 10]⟩] W fun e w' => ∃ g2 c, e = .returned (.slice (some ⟨g2, 0, none⟩) hls.length c) ∧ Kd.R Kd.string 9 w' W.heap.size (fun _ => True) (.slice (some ⟨g2, 0, none⟩) hls.length c) hls ∧ w'.cell? ⟨g2, 0, none⟩ = some (.string (rdOf ByteArray.empty hls 0)) ∧ Below W.heap.size W w' := by
    intro W hG
    have h0 := split_R (s.extract 0 n) ⟨#[13, 10]⟩ W HSZ.out (by decide) hG
    rw [show splitL (s.extract 0 n) ⟨#[13, 10]⟩ = hls from HLA.out.symm] at h0
    refine h0.mono ?_
    rintro e w' ⟨A, c, rfl, hR, hb⟩
    obtain ⟨ad, ea, hx0⟩ := Kd.at_string (Kd.R_reads' hR).2.2 0 (Int.le_refl 0) (by omega)
    subst ea
    obtain ⟨g2, rfl⟩ := Kd.R_head hR
    exact ⟨g2, c, rfl, hR, hx0, hb⟩
   have SPC := ak hsp
   clear hsp
   have hfo : ∀ W A c', Kd.C Kd.string W A (hls.length - 1) (hls.drop 1) → hls.length - 1 ≤ c' → Glob W → Calls Tryz.prog 66 #[.slice A (hls.length - 1) c'] W fun e w' => ∃ v0_ : Value, e = .returned (.tuple #[v0_, .bool true]) ∧ Kd.R k75 75 w' W.heap.size (fun _ => True) v0_ fs2 ∧ Below W.heap.size W w' := by
    intro W A c' hC hc hG
    have h0 := impl_fieldsOf.calls k A c' (hls.drop 1) fs2 true W (by rw [List.length_drop]; exact hC) (by rw [List.length_drop]; exact hc) FO.out hG
    rw [List.length_drop] at h0
    exact h0
   have FOC := ak hfo
   clear hfo
   have hrz : (s.extract (n + 4) s.size).size = s.size - (n + 4) := by rw [ByteArray.size_extract]; omega
   have hr2 : ((s.extract (n + 4) s.size).size : Int) < len := by omega
   have hr2b := decide_eq_true hr2
   go_enter Tryz.func30, Tryz.ntmps30
   go_wp2_with (first
    | (go_at_call 65; refine IX.out.mono ?_; rintro e w1 ⟨rfl, hb⟩; have HB := ak (below_less hb (Nat.le_of_lt hg)); have S1 := hb.size; have K1 := ak (blk_below KK.out hb); have G1 := ak (globg GG.out hb); clear hb)
    | (go_at_call 32; refine (SPC.out _ G1.out).mono ?_; rintro e w2 ⟨g2, c, rfl, hR, hx0, hb⟩; have HB2 := ak (HB.out.trans (below_less hb (by omega))); have S2 := hb.size; have K2 := ak (blk_below K1.out hb); have G2 := ak (globg G1.out hb); have R2 := ak (Kd.R_lower hR S1); clear hb hR HB K1 G1)
    | (go_at_fn h; refine (RDH.out (rdOf ByteArray.empty hls 0) g line true st1 _ K2.out RD.out G2.out).mono ?_; rintro e w3 ⟨rfl, hb, hk, hkb⟩; have HB3 := ak (HB2.out.trans hb); have S3 := hb.size; have K3 := ak hk; have G3 := ak (glob_low G2.out hb h3); have R3 := ak (Kd.R_keep (Kd.R_bound R2.out) hkb (fun j hj => by have := hj.2.1; omega)); clear hb hk hkb hx0 HB2 K2 G2 R2)
    | (go_at_call 66; (first | with_reducible refine (FOC.out _ (some ⟨g2, 0, none⟩) 0 ((drop_one R3.out hlen).1 (by assumption)) (by have := (Kd.R_reads' R3.out).2.1; omega) G3.out).mono ?_ | with_reducible refine (FOC.out _ (some ⟨g2, 1, none⟩) (c - 1) ((drop_one R3.out hlen).2 (by assumption)) (by have := (Kd.R_reads' R3.out).2.1; omega) G3.out).mono ?_); rintro e w4 ⟨v4, rfl, hR, hb⟩; obtain ⟨A4, c4, e4⟩ := Kd.R_slice hR; subst e4; have HB4 := ak (HB3.out.trans (below_less hb (by omega))); have S4 := hb.size; have K4 := ak (blk_below K3.out hb); have G4 := ak (globg G3.out hb); have R4 := ak (Kd.R_lower (base' := w.heap.size) hR (by omega)); clear hb hR HB3 K3 G3 R3)
    | (go_at_call 67; with_reducible refine (impl_lengthOf.calls k A4 c4 fs2 len has true _ (Kd.R_reads' R4.out).2.2 (Kd.R_reads' R4.out).2.1 LO.out G4.out).mono ?_; rintro e w5 ⟨rfl, hb⟩; have HB5 := ak (HB4.out.trans (below_less hb (by omega))); have S5 := hb.size; have K5 := ak (blk_below K4.out hb); have R5 := ak (Kd.R_below R4.out hb); clear hb HB4 K4 G4 R4))
   all_goals
    refine bodyPost_ret (results_list (rs := [.tmp 4, .tmp 5, .tmp 6, .tmp 7]) rfl (by simp) (.tmp (.tmp (.tmp (.tmp .nil))))) rfl ?_
    exact ⟨_, rfl, ⟨Kd.R_nil _ _ _ _ _, HB5.out, K5.out⟩⟩
  rw [if_neg hrs] at hf
  replace hf := Option.bind_eq_some_iff.mp hf
  obtain ⟨t, hht, hf⟩ := hf
  have HT := ak hht
  clear hht
  by_cases ht2 : (t.size : Int) > 2000
  ·rw [if_pos ht2] at hf
   simp only [Option.some.injEq, Prod.mk.injEq] at hf
   obtain ⟨rfl, rfl, rfl, rfl, rfl⟩ := hf
   have hsz : (s.extract 0 n).size < 4294967281 := by rw [ByteArray.size_extract]; omega
   have hnn : n ≤ s.size := by omega
   have HSZ := ak hsz
   have RD := ak hr
   have RDH := ak hrd
   have HLA := ak HL
   clear hsz hr hrd HL hbig hneg hge hile
   have hlen : 1 ≤ hls.length := by rw [HLA.out, splitL_length _ _ (by decide)]; omega
   have p1 : (n : Int) ≤ (s.size : Int) := by omega
   have p1b := eq_true p1
   have p2 : (0 : Int) < (hls.length : Int) := by omega
   have p2b := eq_true p2
   have hsp : ∀ W, Glob W → Calls Tryz.prog 32 #[.string (s.extract 0 n), .string ⟨#[13, 10]⟩] W fun e w' => ∃ g2 c, e = .returned (.slice (some ⟨g2, 0, none⟩) hls.length c) ∧ Kd.R Kd.string 9 w' W.heap.size (fun _ => True) (.slice (some ⟨g2, 0, none⟩) hls.length c) hls ∧ w'.cell? ⟨g2, 0, none⟩ = some (.string (rdOf ByteArray.empty hls 0)) ∧ Below W.heap.size W w' := by
    intro W hG
    have h0 := split_R (s.extract 0 n) ⟨#[13, 10]⟩ W HSZ.out (by decide) hG
    rw [show splitL (s.extract 0 n) ⟨#[13, 10]⟩ = hls from HLA.out.symm] at h0
    refine h0.mono ?_
    rintro e w' ⟨A, c, rfl, hR, hb⟩
    obtain ⟨ad, ea, hx0⟩ := Kd.at_string (Kd.R_reads' hR).2.2 0 (Int.le_refl 0) (by omega)
    subst ea
    obtain ⟨g2, rfl⟩ := Kd.R_head hR
    exact ⟨g2, c, rfl, hR, hx0, hb⟩
   have SPC := ak hsp
   clear hsp
   have hfo : ∀ W A c', Kd.C Kd.string W A (hls.length - 1) (hls.drop 1) → hls.length - 1 ≤ c' → Glob W → Calls Tryz.prog 66 #[.slice A (hls.length - 1) c'] W fun e w' => ∃ v0_ : Value, e = .returned (.tuple #[v0_, .bool true]) ∧ Kd.R k75 75 w' W.heap.size (fun _ => True) v0_ fs2 ∧ Below W.heap.size W w' := by
    intro W A c' hC hc hG
    have h0 := impl_fieldsOf.calls k A c' (hls.drop 1) fs2 true W (by rw [List.length_drop]; exact hC) (by rw [List.length_drop]; exact hc) FO.out hG
    rw [List.length_drop] at h0
    exact h0
   have FOC := ak hfo
   clear hfo
   have hrz : (s.extract (n + 4) s.size).size = s.size - (n + 4) := by rw [ByteArray.size_extract]; omega
   have hr3 : decide (((s.extract (n + 4) s.size).size : Int) < len) = false := decide_eq_false (by omega)
   go_enter Tryz.func30, Tryz.ntmps30
   go_wp2_with (first
    | (go_at_call 65; refine IX.out.mono ?_; rintro e w1 ⟨rfl, hb⟩; have HB := ak (below_less hb (Nat.le_of_lt hg)); have S1 := hb.size; have K1 := ak (blk_below KK.out hb); have G1 := ak (globg GG.out hb); clear hb)
    | (go_at_call 32; refine (SPC.out _ G1.out).mono ?_; rintro e w2 ⟨g2, c, rfl, hR, hx0, hb⟩; have HB2 := ak (HB.out.trans (below_less hb (by omega))); have S2 := hb.size; have K2 := ak (blk_below K1.out hb); have G2 := ak (globg G1.out hb); have R2 := ak (Kd.R_lower hR S1); clear hb hR HB K1 G1)
    | (go_at_fn h; refine (RDH.out (rdOf ByteArray.empty hls 0) g line true st1 _ K2.out RD.out G2.out).mono ?_; rintro e w3 ⟨rfl, hb, hk, hkb⟩; have HB3 := ak (HB2.out.trans hb); have S3 := hb.size; have K3 := ak hk; have G3 := ak (glob_low G2.out hb h3); have R3 := ak (Kd.R_keep (Kd.R_bound R2.out) hkb (fun j hj => by have := hj.2.1; omega)); clear hb hk hkb hx0 HB2 K2 G2 R2)
    | (go_at_call 66; (first | with_reducible refine (FOC.out _ (some ⟨g2, 0, none⟩) 0 ((drop_one R3.out hlen).1 (by assumption)) (by have := (Kd.R_reads' R3.out).2.1; omega) G3.out).mono ?_ | with_reducible refine (FOC.out _ (some ⟨g2, 1, none⟩) (c - 1) ((drop_one R3.out hlen).2 (by assumption)) (by have := (Kd.R_reads' R3.out).2.1; omega) G3.out).mono ?_); rintro e w4 ⟨v4, rfl, hR, hb⟩; obtain ⟨A4, c4, e4⟩ := Kd.R_slice hR; subst e4; have HB4 := ak (HB3.out.trans (below_less hb (by omega))); have S4 := hb.size; have K4 := ak (blk_below K3.out hb); have G4 := ak (globg G3.out hb); have R4 := ak (Kd.R_lower (base' := w.heap.size) hR (by omega)); clear hb hR HB3 K3 G3 R3)
    | (go_at_call 67; with_reducible refine (impl_lengthOf.calls k A4 c4 fs2 len has true _ (Kd.R_reads' R4.out).2.2 (Kd.R_reads' R4.out).2.1 LO.out G4.out).mono ?_; rintro e w5 ⟨rfl, hb⟩; have HB5 := ak (HB4.out.trans (below_less hb (by omega))); have S5 := hb.size; have K5 := ak (blk_below K4.out hb); have R5 := ak (Kd.R_below R4.out hb); clear hb HB4 K4 G4 R4)
    | (go_at_call 48; with_reducible refine (impl_headText.calls k line A4 c4 fs2 t _ (Kd.R_reads' R5.out).2.2 (Kd.R_reads' R5.out).2.1 HT.out).mono ?_; rintro e w6 ⟨rfl, hb⟩; have HB6 := ak (HB5.out.trans (below_less hb (by omega))); have S6 := hb.size; have K6 := ak (blk_below K5.out hb); have R6 := ak (Kd.R_below R5.out hb); clear hb HB5 K5 R5))
   all_goals
    refine bodyPost_ret (results_list (rs := [.tmp 4, .tmp 5, .tmp 6, .tmp 7]) rfl (by simp) (.tmp (.tmp (.tmp (.tmp .nil))))) rfl ?_
    exact ⟨_, rfl, ⟨Kd.R_nil _ _ _ _ _, HB6.out, K6.out⟩⟩
  rw [if_neg ht2] at hf
  by_cases hl0 : 0 ≤ len
  rotate_left
  ·rw [if_neg hl0] at hf; cases hf
  rw [if_pos hl0] at hf
  simp only [Option.some.injEq, Prod.mk.injEq] at hf
  obtain ⟨rfl, rfl, rfl, rfl, rfl⟩ := hf
  have hsz : (s.extract 0 n).size < 4294967281 := by rw [ByteArray.size_extract]; omega
  have hnn : n ≤ s.size := by omega
  have HSZ := ak hsz
  have RD := ak hr
  have RDH := ak hrd
  have HLA := ak HL
  clear hsz hr hrd HL hbig hneg hge hile
  have hlen : 1 ≤ hls.length := by rw [HLA.out, splitL_length _ _ (by decide)]; omega
  have p1 : (n : Int) ≤ (s.size : Int) := by omega
  have p1b := eq_true p1
  have p2 : (0 : Int) < (hls.length : Int) := by omega
  have p2b := eq_true p2
  have hsp : ∀ W, Glob W → Calls Tryz.prog 32 #[.string (s.extract 0 n), .string ⟨#[13, 10]⟩] W fun e w' => ∃ g2 c, e = .returned (.slice (some ⟨g2, 0, none⟩) hls.length c) ∧ Kd.R Kd.string 9 w' W.heap.size (fun _ => True) (.slice (some ⟨g2, 0, none⟩) hls.length c) hls ∧ w'.cell? ⟨g2, 0, none⟩ = some (.string (rdOf ByteArray.empty hls 0)) ∧ Below W.heap.size W w' := by
   intro W hG
   have h0 := split_R (s.extract 0 n) ⟨#[13, 10]⟩ W HSZ.out (by decide) hG
   rw [show splitL (s.extract 0 n) ⟨#[13, 10]⟩ = hls from HLA.out.symm] at h0
   refine h0.mono ?_
   rintro e w' ⟨A, c, rfl, hR, hb⟩
   obtain ⟨ad, ea, hx0⟩ := Kd.at_string (Kd.R_reads' hR).2.2 0 (Int.le_refl 0) (by omega)
   subst ea
   obtain ⟨g2, rfl⟩ := Kd.R_head hR
   exact ⟨g2, c, rfl, hR, hx0, hb⟩
  have SPC := ak hsp
  clear hsp
  have hfo : ∀ W A c', Kd.C Kd.string W A (hls.length - 1) (hls.drop 1) → hls.length - 1 ≤ c' → Glob W → Calls Tryz.prog 66 #[.slice A (hls.length - 1) c'] W fun e w' => ∃ v0_ : Value, e = .returned (.tuple #[v0_, .bool true]) ∧ Kd.R k75 75 w' W.heap.size (fun _ => True) v0_ fs2 ∧ Below W.heap.size W w' := by
   intro W A c' hC hc hG
   have h0 := impl_fieldsOf.calls k A c' (hls.drop 1) fs2 true W (by rw [List.length_drop]; exact hC) (by rw [List.length_drop]; exact hc) FO.out hG
   rw [List.length_drop] at h0
   exact h0
  have hrz : (s.extract (n + 4) s.size).size = s.size - (n + 4) := by rw [ByteArray.size_extract]; omega
  have hr1 : len ≤ ((s.extract (n + 4) s.size).size : Int) := by omega
  have hr1b := eq_true hr1
  have hl0b := eq_true hl0
  have hwl : wrap64 ((n : Int) + 4 + len) = (n : Int) + 4 + len := by unfold wrap64; omega
  have FOC := ak hfo
  clear hfo
  go_enter Tryz.func30, Tryz.ntmps30
  go_wp2_with (first
   | (go_at_call 65; refine IX.out.mono ?_; rintro e w1 ⟨rfl, hb⟩; have HB := ak (below_less hb (Nat.le_of_lt hg)); have S1 := hb.size; have K1 := ak (blk_below KK.out hb); have G1 := ak (globg GG.out hb); clear hb)
   | (go_at_call 32; refine (SPC.out _ G1.out).mono ?_; rintro e w2 ⟨g2, c, rfl, hR, hx0, hb⟩; have HB2 := ak (HB.out.trans (below_less hb (by omega))); have S2 := hb.size; have K2 := ak (blk_below K1.out hb); have G2 := ak (globg G1.out hb); have R2 := ak (Kd.R_lower hR S1); clear hb hR HB K1 G1)
   | (go_at_fn h; refine (RDH.out (rdOf ByteArray.empty hls 0) g line true st1 _ K2.out RD.out G2.out).mono ?_; rintro e w3 ⟨rfl, hb, hk, hkb⟩; have HB3 := ak (HB2.out.trans hb); have S3 := hb.size; have K3 := ak hk; have G3 := ak (glob_low G2.out hb h3); have R3 := ak (Kd.R_keep (Kd.R_bound R2.out) hkb (fun j hj => by have := hj.2.1; omega)); clear hb hk hkb hx0 HB2 K2 G2 R2)
   | (go_at_call 66; (first | with_reducible refine (FOC.out _ (some ⟨g2, 0, none⟩) 0 ((drop_one R3.out hlen).1 (by assumption)) (by have := (Kd.R_reads' R3.out).2.1; omega) G3.out).mono ?_ | with_reducible refine (FOC.out _ (some ⟨g2, 1, none⟩) (c - 1) ((drop_one R3.out hlen).2 (by assumption)) (by have := (Kd.R_reads' R3.out).2.1; omega) G3.out).mono ?_); rintro e w4 ⟨v4, rfl, hR, hb⟩; obtain ⟨A4, c4, e4⟩ := Kd.R_slice hR; subst e4; have HB4 := ak (HB3.out.trans (below_less hb (by omega))); have S4 := hb.size; have K4 := ak (blk_below K3.out hb); have G4 := ak (globg G3.out hb); have R4 := ak (Kd.R_lower (base' := w.heap.size) hR (by omega)); clear hb hR HB3 K3 G3 R3)
   | (go_at_call 67; with_reducible refine (impl_lengthOf.calls k A4 c4 fs2 len has true _ (Kd.R_reads' R4.out).2.2 (Kd.R_reads' R4.out).2.1 LO.out G4.out).mono ?_; rintro e w5 ⟨rfl, hb⟩; have HB5 := ak (HB4.out.trans (below_less hb (by omega))); have S5 := hb.size; have K5 := ak (blk_below K4.out hb); have R5 := ak (Kd.R_below R4.out hb); clear hb HB4 K4 G4 R4)
   | (go_at_call 48; with_reducible refine (impl_headText.calls k line A4 c4 fs2 t _ (Kd.R_reads' R5.out).2.2 (Kd.R_reads' R5.out).2.1 HT.out).mono ?_; rintro e w6 ⟨rfl, hb⟩; have HB6 := ak (HB5.out.trans (below_less hb (by omega))); have S6 := hb.size; have K6 := ak (blk_below K5.out hb); have R6 := ak (Kd.R_below R5.out hb); clear hb HB5 K5 R5))
  all_goals
   go_region
   all_goals
    go_wp2
    refine bodyPost_ret (results_list (rs := [.tmp 4, .tmp 5, .tmp 6, .tmp 7]) rfl (by simp) (.tmp (.tmp (.tmp (.tmp .nil))))) rfl ?_
    exact ⟨_, rfl, ⟨by first | exact R6.out | exact Kd.R_drew R6.out, by first | exact HB6.out | exact below_drew HB6.out, by first | exact K6.out | exact blk_drew K6.out⟩⟩

/-! ### impl_TakeResponse: function 12 -/
def impl_TakeResponse.f (k : Nat) (a0 : ByteArray) : Option (Int × ByteArray × (List (S75)) × ByteArray × Int × Int) :=
 (takeF tr2.f ((0 : Int), (⟨#[]⟩ : ByteArray)) k a0).bind fun a => if a.2.2.2.1 = 0 then some (a.2.2.2.2.1, a.2.2.2.2.2, a.1, a.2.1, a.2.2.1, 0) else some ((0 : Int), (⟨#[]⟩ : ByteArray), ([] : List (S75)), (⟨#[]⟩ : ByteArray), 0, a.2.2.2.1)
def trCells (st : Int × ByteArray) : Array Value := #[.int .i64 st.1, .string st.2, .slice none 0 0, .string ⟨#[]⟩]
theorem takeF_mono {σ : Type} (rd : ByteArray → Option (ByteArray × Bool × σ)) (st0 : σ) (k : Nat) (s : ByteArray) : LeO (takeF rd st0 k s) (takeF rd st0 (k + 1) s) := by
 unfold takeF
 repeat' with_reducible first | exact impl_fieldsOf.mono _ _ | exact impl_lengthOf.mono _ _ | exact impl_headText.mono _ _ _ | exact LeO.refl _ | exact LeO.none _ | refine LeO.ite ?_ ?_ | refine LeO.bind ?_ (fun _ => ?_)
theorem impl_TakeResponse.mono : ∀ a0 k, LeO (impl_TakeResponse.f k a0) (impl_TakeResponse.f (k + 1) a0) := by
 intro a0 k
 unfold impl_TakeResponse.f
 exact LeO.bind (takeF_mono _ _ _ _) (fun _ => LeO.refl _)
set_option maxHeartbeats 4000000 in
set_option maxRecDepth 100000 in
theorem impl_TakeResponse.calls (k : Nat) (a0 : ByteArray) (r1 : Int) (r2 : ByteArray) (r3 : List (S75)) (r4 : ByteArray) (r5 : Int) (r6 : Int) (w : World) (h : impl_TakeResponse.f k a0 = some (r1, r2, r3, r4, r5, r6)) (ht : Glob w) :
  Calls Tryz.prog 12 #[.string a0] w fun e w' => ∃ v2_ : Value, e = .returned (.tuple #[.agg #[.int .i64 r1, .string r2, v2_, .string r4], .int .i64 r5, .int .i64 r6]) ∧ Kd.R k75 75 w' w.heap.size (fun _ => True) v2_ r3 ∧ Below w.heap.size w w' := by
 unfold impl_TakeResponse.f at h
 obtain ⟨⟨fs, body, many, code, m, t⟩, hq, h⟩ := Option.bind_eq_some_iff.mp h
 dsimp only at h
 have TK := ak hq
 have GG := ak ht
 have h3 := glob_size ht
 clear hq ht
 have eh : ∀ args w, (callFunc 41 args).run Tryz.prog w = .ok (.enter 41 args) w := enters_of Tryz.func41 (by kernel_rfl) rfl
 have hTK : ∀ (g : Nat) (W : World), 6 ≤ g → W.heap[g]? = some (.cells (trCells (0, ⟨#[]⟩)) 31 (0, 0)) → Glob W → Calls Tryz.prog 30 #[.string a0, .func (.func 41) #[] #[.pointer (some ⟨g, 0, none⟩)]] W fun e w' => ∃ v, e = .returned (.tuple #[v, .string body, .int .i64 many, .int .i64 code]) ∧ Took W g 31 (trCells (m, t)) fs v w' :=
  fun g W hg3 hK hG => takeG.calls 41 tr2.f trCells 31 (0, ⟨#[]⟩) eh (fun line g r1 r2 st W hK hr hG => tr2.calls line g r1 r2 st.1 st.2 W hK hr hG) k a0 g fs body many code (m, t) W hg3 hK TK.out hG
 have TC := ak hTK
 clear hTK eh TK
 have HB := ak (Below.refl w.heap.size w)
 by_cases hc : code = 0
 ·subst hc
  rw [if_pos rfl] at h
  simp only [Option.some.injEq, Prod.mk.injEq] at h
  obtain ⟨rfl, rfl, rfl, rfl, rfl, rfl⟩ := h
  go_enter Tryz.func12, Tryz.ntmps12
  go_wp2_with (first
   | ((with_reducible refine gd 2 ?_); refine bE 2 #[.int .i64 0, .string (⟨#[]⟩ : ByteArray), .slice none 0 0, .string (⟨#[]⟩ : ByteArray)] 31 ?_; intro g2 hg2 x1 hbox hb; have L2 := blk_lt hbox; have E2 : w.heap.size ≤ g2 := (by rw [hg2]; exact Nat.le_refl _); have HB1 := ak hb; have KA := ak hbox; clear hbox hb hg2)
   | ((with_reducible refine gd 5 ?_); refine bE 5 #[.int .i64 0, .string (⟨#[]⟩ : ByteArray), .slice none 0 0, .string (⟨#[]⟩ : ByteArray)] 31 ?_; intro g5 hg5 x2 hbox hb; have L5 : g2 < g5 := (by rw [hg5]; exact L2); have E5 : w.heap.size ≤ g5 := (by omega); have HB2 := ak (below_step HB1.out hb); have KA2 := ak (blk_below KA.out hb); have KB := ak hbox; clear hbox hb hg5 HB1 KA L2)
   | (go_at_call 30; refine (TC.out g5 x2 (by omega) KB.out (globg GG.out HB2.out)).mono ?_; rintro e x3 ⟨v, rfl, hT⟩; have hs2 := HB2.out.size; have HB3 := ak (HB2.out.trans (below_less hT.b E5)); have KA3 := ak ((hT.b.block g2 L5).trans KA2.out); have KB3 := ak (show x3.heap[g5]? = some (.cells #[.int .i64 m, .string t, .slice none 0 0, .string ⟨#[]⟩] 31 (0, 0)) from hT.k); have X5 := blk_lt KB.out; have R3 := ak (Kd.R_bound hT.r); clear hT HB2 KA2 KB; obtain ⟨A3, c3, e3⟩ := Kd.R_slice R3.out; subst e3; have hne : g2 ≠ g5 := (by omega); have hne2 : g5 ≠ g2 := (by omega); have z0 := (blk_cell KB3.out 0).trans (show _ = some (.int .i64 m) from rfl); have z1 := (blk_cell KB3.out 1).trans (show _ = some (.string t) from rfl); have z2 := (blk_cell KB3.out 2).trans (show _ = some (.slice none 0 0) from rfl); have z3 := (blk_cell KB3.out 3).trans (show _ = some (.string ⟨#[]⟩) from rfl); have f0 := blk_frozen KB3.out 0; have f1 := blk_frozen KB3.out 1; have f2 := blk_frozen KB3.out 2; have f3 := blk_frozen KB3.out 3; have y0 := (blk_cell KA3.out 0).trans (show _ = some (.int .i64 0) from rfl); have y1 := (blk_cell KA3.out 1).trans (show _ = some (.string ⟨#[]⟩) from rfl); have y2 := (blk_cell KA3.out 2).trans (show _ = some (.slice none 0 0) from rfl); have y3 := (blk_cell KA3.out 3).trans (show _ = some (.string ⟨#[]⟩) from rfl); have q0 := blk_frozen KA3.out 0; have q1 := blk_frozen KA3.out 1; have q2 := blk_frozen KA3.out 2; have q3 := blk_frozen KA3.out 3))
  refine bodyPost_ret (results_ctt rfl _ _ g2 31 #[.int .i64 m, .string t, .slice A3 fs.length c3, .string body] (0, 0) _ rfl (by
   refine blk_put (cs := #[.int .i64 m, .string t, .slice A3 fs.length c3, .string ⟨#[]⟩]) ?_ 3 _ rfl
   refine blk_put (cs := #[.int .i64 m, .string t, .slice none 0 0, .string ⟨#[]⟩]) ?_ 2 _ rfl
   refine blk_put (cs := #[.int .i64 m, .string ⟨#[]⟩, .slice none 0 0, .string ⟨#[]⟩]) ?_ 1 _ rfl
   refine blk_put (cs := #[.int .i64 0, .string ⟨#[]⟩, .slice none 0 0, .string ⟨#[]⟩]) ?_ 0 _ rfl
   refine blk_far ?_ hne _
   refine blk_far ?_ hne _
   exact KA3.out) Tryz.underlying31 rfl (by kernel_rfl)) rfl ?_
  refine ⟨.slice A3 fs.length c3, rfl, Kd.R_lower (base' := w.heap.size) (Kd.R_mono (Kd.R_far (Kd.R_far (Kd.R_far (Kd.R_far (Kd.R_far (Kd.R_far R3.out (p := ⟨g5, 2, none⟩) (fun k_ hk e_ => by have h1_ := hk.2.1; have h2_ : k_ = g5 := e_; omega) _) (p := ⟨g5, 3, none⟩) (fun k_ hk e_ => by have h1_ := hk.2.1; have h2_ : k_ = g5 := e_; omega) _) (p := ⟨g2, 0, none⟩) (fun k_ hk e_ => by have h1_ := hk.2.1; have h2_ : k_ = g2 := e_; omega) _) (p := ⟨g2, 1, none⟩) (fun k_ hk e_ => by have h1_ := hk.2.1; have h2_ : k_ = g2 := e_; omega) _) (p := ⟨g2, 2, none⟩) (fun k_ hk e_ => by have h1_ := hk.2.1; have h2_ : k_ = g2 := e_; omega) _) (p := ⟨g2, 3, none⟩) (fun k_ hk e_ => by have h1_ := hk.2.1; have h2_ : k_ = g2 := e_; omega) _) (fun _ _ => trivial)) hs2, ?_⟩
  exact (((((HB3.out.setCell E5 _).setCell E5 _).setCell E2 _).setCell E2 _).setCell E2 _).setCell E2 _
 ·rw [if_neg hc] at h
  simp only [Option.some.injEq, Prod.mk.injEq] at h
  obtain ⟨rfl, rfl, rfl, rfl, rfl, rfl⟩ := h
  have hc1 : (code != 0) = true := bne_iff_ne.mpr hc
  clear hc
  go_enter Tryz.func12, Tryz.ntmps12
  go_wp2_with (first
   | ((with_reducible refine gd 2 ?_); refine bE 2 #[.int .i64 0, .string (⟨#[]⟩ : ByteArray), .slice none 0 0, .string (⟨#[]⟩ : ByteArray)] 31 ?_; intro g2 hg2 x1 hbox hb; have L2 := blk_lt hbox; have E2 : w.heap.size ≤ g2 := (by rw [hg2]; exact Nat.le_refl _); have HB1 := ak hb; have KA := ak hbox; clear hbox hb hg2)
   | ((with_reducible refine gd 5 ?_); refine bE 5 #[.int .i64 0, .string (⟨#[]⟩ : ByteArray), .slice none 0 0, .string (⟨#[]⟩ : ByteArray)] 31 ?_; intro g5 hg5 x2 hbox hb; have L5 : g2 < g5 := (by rw [hg5]; exact L2); have E5 : w.heap.size ≤ g5 := (by omega); have HB2 := ak (below_step HB1.out hb); have KA2 := ak (blk_below KA.out hb); have KB := ak hbox; clear hbox hb hg5 HB1 KA L2)
   | (go_at_call 30; refine (TC.out g5 x2 (by omega) KB.out (globg GG.out HB2.out)).mono ?_; rintro e x3 ⟨v, rfl, hT⟩; have hs2 := HB2.out.size; have HB3 := ak (HB2.out.trans (below_less hT.b E5)); have KA3 := ak ((hT.b.block g2 L5).trans KA2.out); have KB3 := ak (show x3.heap[g5]? = some (.cells #[.int .i64 m, .string t, .slice none 0 0, .string ⟨#[]⟩] 31 (0, 0)) from hT.k); have X5 := blk_lt KB.out; have R3 := ak (Kd.R_bound hT.r); clear hT HB2 KA2 KB; obtain ⟨A3, c3, e3⟩ := Kd.R_slice R3.out; subst e3; have hne : g2 ≠ g5 := (by omega); have hne2 : g5 ≠ g2 := (by omega); have z0 := (blk_cell KB3.out 0).trans (show _ = some (.int .i64 m) from rfl); have z1 := (blk_cell KB3.out 1).trans (show _ = some (.string t) from rfl); have z2 := (blk_cell KB3.out 2).trans (show _ = some (.slice none 0 0) from rfl); have z3 := (blk_cell KB3.out 3).trans (show _ = some (.string ⟨#[]⟩) from rfl); have f0 := blk_frozen KB3.out 0; have f1 := blk_frozen KB3.out 1; have f2 := blk_frozen KB3.out 2; have f3 := blk_frozen KB3.out 3; have y0 := (blk_cell KA3.out 0).trans (show _ = some (.int .i64 0) from rfl); have y1 := (blk_cell KA3.out 1).trans (show _ = some (.string ⟨#[]⟩) from rfl); have y2 := (blk_cell KA3.out 2).trans (show _ = some (.slice none 0 0) from rfl); have y3 := (blk_cell KA3.out 3).trans (show _ = some (.string ⟨#[]⟩) from rfl); have q0 := blk_frozen KA3.out 0; have q1 := blk_frozen KA3.out 1; have q2 := blk_frozen KA3.out 2; have q3 := blk_frozen KA3.out 3))
  refine bodyPost_ret (results_ctt rfl _ _ g2 31 #[.int .i64 0, .string ⟨#[]⟩, .slice none 0 0, .string ⟨#[]⟩] (0, 0) _ rfl (by
   refine blk_put (cs := #[.int .i64 0, .string ⟨#[]⟩, .slice none 0 0, .string ⟨#[]⟩]) ?_ 3 _ rfl
   refine blk_put (cs := #[.int .i64 0, .string ⟨#[]⟩, .slice none 0 0, .string ⟨#[]⟩]) ?_ 2 _ rfl
   refine blk_put (cs := #[.int .i64 0, .string ⟨#[]⟩, .slice none 0 0, .string ⟨#[]⟩]) ?_ 1 _ rfl
   refine blk_put (cs := #[.int .i64 0, .string ⟨#[]⟩, .slice none 0 0, .string ⟨#[]⟩]) ?_ 0 _ rfl
   exact KA3.out) Tryz.underlying31 rfl (by kernel_rfl)) rfl ?_
  exact ⟨.slice none 0 0, rfl, Kd.R_nil _ _ _ _ _, (((HB3.out.setCell E2 _).setCell E2 _).setCell E2 _).setCell E2 _⟩

/-! ### impl_TakeRequest$1: function 31 -/
theorem add_zero_ (a : Addr) : a.add 0 = a := by cases a; rfl
theorem three_at {w1 : World} {B : Nat} {A : Option Addr} {c : Nat} {ws : List ByteArray} (h : Kd.R Kd.string 9 w1 B (fun _ => True) (.slice A 3 c) ws) (c3 : ws.length = 3) :
  ∃ g2, A = some ⟨g2, 0, none⟩ ∧ B ≤ g2 ∧ w1.cell? ⟨g2, 0, none⟩ = some (.string (rdOf ByteArray.empty ws 0)) ∧ w1.cell? ⟨g2, 1, none⟩ = some (.string (rdOf ByteArray.empty ws 1)) ∧ w1.cell? ⟨g2, 2, none⟩ = some (.string (rdOf ByteArray.empty ws 2)) := by
 have HC := (Kd.R_reads' h).2.2
 obtain ⟨ad, ea, hx2⟩ := Kd.at_string HC 2 (by decide) (by rw [c3]; decide)
 subst ea
 obtain ⟨ad0, ea0, hx0⟩ := Kd.at_string HC 0 (by decide) (by rw [c3]; decide)
 cases ea0
 obtain ⟨ad1, ea1, hx1⟩ := Kd.at_string HC 1 (by decide) (by rw [c3]; decide)
 cases ea1
 obtain ⟨g2, rfl⟩ := Kd.R_head h
 exact ⟨g2, rfl, Kd.R_base h g2 rfl, hx0, hx1, hx2⟩
def tr1.f (a0 : ByteArray) : Option (ByteArray × Bool × ByteArray × ByteArray) :=
 if a0.size < 4294967281 then
  (if (splitL a0 ⟨#[32]⟩).length = 3 then
   (if (rdOf ByteArray.empty (splitL a0 ⟨#[32]⟩) 2).toList = ([72, 84, 84, 80, 47, 49, 46, 49] : List UInt8) then
    ((impl_isRequestLine.f (rdOf ByteArray.empty (splitL a0 ⟨#[32]⟩) 0) (rdOf ByteArray.empty (splitL a0 ⟨#[32]⟩) 1) [] ⟨#[]⟩).bind fun b => some (a0, b, rdOf ByteArray.empty (splitL a0 ⟨#[32]⟩) 0, rdOf ByteArray.empty (splitL a0 ⟨#[32]⟩) 1))
   else some (⟨#[]⟩, false, ⟨#[]⟩, ⟨#[]⟩))
  else some (⟨#[]⟩, false, ⟨#[]⟩, ⟨#[]⟩))
 else none
set_option maxHeartbeats 4000000 in
set_option maxRecDepth 100000 in
theorem tr1.calls (a0 : ByteArray) (g : Nat) (r1 : ByteArray) (r2 : Bool) (r3 r4 : ByteArray) (w : World) (K : w.heap[g]? = some (.cells #[.string ⟨#[]⟩, .string ⟨#[]⟩, .slice none 0 0, .string ⟨#[]⟩] 24 (0, 0))) (h : tr1.f a0 = some (r1, r2, r3, r4)) (ht : Glob w) :
  Calls Tryz.prog 31 #[.string a0, .pointer (some ⟨g, 0, none⟩)] w fun e w' => e = .returned (.tuple #[.string r1, .bool r2]) ∧ Below g w w' ∧ w'.heap[g]? = some (.cells #[.string r3, .string r4, .slice none 0 0, .string ⟨#[]⟩] 24 (0, 0)) ∧ KeepBut w w' g none := by
 have hg : g < w.heap.size := blk_lt K
 unfold tr1.f at h
 split at h
 rotate_left
 ·cases h
 rename_i hs
 have hsplit := split_R a0 ⟨#[32]⟩ w hs (by decide) ht
 generalize splitL a0 ⟨#[32]⟩ = ws at h hsplit
 have KK := ak K
 clear K
 split at h
 rotate_left
 ·rename_i c3
  have SP := ak hsplit
  clear hsplit
  simp only [Option.some.injEq, Prod.mk.injEq] at h
  obtain ⟨rfl, rfl, rfl, rfl⟩ := h
  have hl : ((ws.length : Int) != 3) = true := bne_iff_ne.mpr (by omega)
  go_enter Tryz.func31, Tryz.ntmps31
  go_wp2_with (go_at_call 32; refine SP.out.mono ?_; rintro e w1 ⟨A, c, rfl, hR, hb⟩; have HB := ak hb; clear hb hR)
  go_ret2
  exact ⟨rfl, below_less HB.out (by omega), blk_below KK.out HB.out, KeepBut.of_below HB.out g none⟩
 rename_i c3
 rw [c3] at hsplit
 have SP := ak hsplit
 clear hsplit
 split at h
 rotate_left
 ·rename_i cv
  simp only [Option.some.injEq, Prod.mk.injEq] at h
  obtain ⟨rfl, rfl, rfl, rfl⟩ := h
  have hv : ((rdOf ByteArray.empty ws 2).toList == ([72, 84, 84, 80, 47, 49, 46, 49] : List UInt8)) = false := beq_eq_false_iff_ne.mpr cv
  have hv1 : ((rdOf ByteArray.empty ws 2).toList != ([72, 84, 84, 80, 47, 49, 46, 49] : List UInt8)) = true := bne_iff_ne.mpr cv
  clear cv
  go_enter Tryz.func31, Tryz.ntmps31
  go_wp2_with (go_at_call 32; refine SP.out.mono ?_; rintro e w1 ⟨A, c, rfl, hR, hb⟩; obtain ⟨g2, rfl, hB, hx0, hx1, hx2⟩ := three_at hR c3; have HB := ak hb; clear hb hR hB hx0 hx1; generalize rdOf ByteArray.empty ws 2 = x2 at hx2 hv hv1)
  go_ret2
  exact ⟨rfl, below_less HB.out (by omega), blk_below KK.out HB.out, KeepBut.of_below HB.out g none⟩
 rename_i cv
 obtain ⟨b, hq, h⟩ := Option.bind_eq_some_iff.mp h
 simp only [Option.some.injEq, Prod.mk.injEq] at h
 obtain ⟨rfl, rfl, rfl, rfl⟩ := h
 have hv : ((rdOf ByteArray.empty ws 2).toList == ([72, 84, 84, 80, 47, 49, 46, 49] : List UInt8)) = true := beq_iff_eq.mpr cv
 have hv1 : ((rdOf ByteArray.empty ws 2).toList != ([72, 84, 84, 80, 47, 49, 46, 49] : List UInt8)) = false := bne_eq_false_iff_eq.mpr cv
 clear cv
 have RL := ak hq
 clear hq
 go_enter Tryz.func31, Tryz.ntmps31
 go_wp2_with (go_at_call 32; refine SP.out.mono ?_; rintro e w1 ⟨A, c, rfl, hR, hb⟩; obtain ⟨g2, rfl, hB2, hx0, hx1, hx2⟩ := three_at hR c3; have HB := ak hb; clear hb hR; have hne : g2 ≠ g := (by omega); have hne2 : g ≠ g2 := (by omega); clear hB2; generalize rdOf ByteArray.empty ws 2 = x2 at hx2 hv hv1; have K1 := blk_below KK.out HB.out; have z0 := (blk_cell K1 0).trans (show _ = some (.string ⟨#[]⟩) from rfl); have z1 := (blk_cell K1 1).trans (show _ = some (.string ⟨#[]⟩) from rfl); have f0 := blk_frozen K1 0; have f1 := blk_frozen K1 1; have KA := ak K1; clear K1)
 go_region
 all_goals
  have K2 : (((w1.setCell ⟨g, 0, none⟩ (.string (rdOf ByteArray.empty ws 0))).setCell ⟨g, 1, none⟩ (.string (rdOf ByteArray.empty ws 1))).drew).heap[g]? = some (.cells #[.string (rdOf ByteArray.empty ws 0), .string (rdOf ByteArray.empty ws 1), .slice none 0 0, .string ⟨#[]⟩] 24 (0, 0)) := by
   refine blk_drew ?_
   refine blk_put (cs := #[.string (rdOf ByteArray.empty ws 0), .string ⟨#[]⟩, .slice none 0 0, .string ⟨#[]⟩]) ?_ 1 _ rfl
   refine blk_put (cs := #[.string ⟨#[]⟩, .string ⟨#[]⟩, .slice none 0 0, .string ⟨#[]⟩]) ?_ 0 _ rfl
   exact KA.out
  have B2 : Below g w (((w1.setCell ⟨g, 0, none⟩ (.string (rdOf ByteArray.empty ws 0))).setCell ⟨g, 1, none⟩ (.string (rdOf ByteArray.empty ws 1))).drew) := below_drew (((below_less HB.out (Nat.le_of_lt hg)).setCell (Nat.le_refl _) _).setCell (Nat.le_refl _) _)
  have Q2 : KeepBut w (((w1.setCell ⟨g, 0, none⟩ (.string (rdOf ByteArray.empty ws 0))).setCell ⟨g, 1, none⟩ (.string (rdOf ByteArray.empty ws 1))).drew) g none := keep_drew (KeepBut.set_ (KeepBut.set_ (KeepBut.of_below HB.out g none) 0 _) 1 _)
  have S2 : w.heap.size ≤ (((w1.setCell ⟨g, 0, none⟩ (.string (rdOf ByteArray.empty ws 0))).setCell ⟨g, 1, none⟩ (.string (rdOf ByteArray.empty ws 1))).drew).heap.size := B2.size
  generalize (((w1.setCell ⟨g, 0, none⟩ (.string (rdOf ByteArray.empty ws 0))).setCell ⟨g, 1, none⟩ (.string (rdOf ByteArray.empty ws 1))).drew) = w2 at K2 B2 Q2 S2 ⊢
  clear hx0 hx1 hx2 z0 z1 f0 f1 KA HB hne hne2
  have z0 := (blk_cell K2 0).trans (show _ = some (.string (rdOf ByteArray.empty ws 0)) from rfl)
  have z1 := (blk_cell K2 1).trans (show _ = some (.string (rdOf ByteArray.empty ws 1)) from rfl)
  have z2 := (blk_cell K2 2).trans (show _ = some (.slice none 0 0) from rfl)
  have z3 := (blk_cell K2 3).trans (show _ = some (.string ⟨#[]⟩) from rfl)
  have KB := ak K2
  have BB := ak B2
  have QQ := ak Q2
  clear K2 B2 Q2
  have hcl := impl_isRequestLine.calls (rdOf ByteArray.empty ws 0) (rdOf ByteArray.empty ws 1) none 0 [] ⟨#[]⟩ b w2 (Kd.C_nil _ _) (Nat.le_refl _) RL.out
  simp only [List.length_nil] at hcl
  have HCL := ak hcl
  clear hcl
  go_wp2_with (go_at_call 33; refine HCL.out.mono ?_; rintro e w3 ⟨rfl, hb⟩; have H3 := ak hb; clear hb)
  go_ret2
  exact ⟨rfl, BB.out.trans (below_less H3.out (by omega)), blk_below KB.out H3.out, QQ.out.trans (KeepBut.of_below H3.out g none) (.inl rfl)⟩

/-! ### impl_TakeRequest: function 7 -/
def impl_TakeRequest.f (k : Nat) (a0 : ByteArray) : Option (ByteArray × ByteArray × (List (S75)) × ByteArray × Int × Int) :=
 (takeF tr1.f ((⟨#[]⟩ : ByteArray), (⟨#[]⟩ : ByteArray)) k a0).bind fun a => if a.2.2.2.1 = 0 then some (a.2.2.2.2.1, a.2.2.2.2.2, a.1, a.2.1, a.2.2.1, 0) else some ((⟨#[]⟩ : ByteArray), (⟨#[]⟩ : ByteArray), ([] : List (S75)), (⟨#[]⟩ : ByteArray), 0, a.2.2.2.1)
def trCellsQ (st : ByteArray × ByteArray) : Array Value := #[.string st.1, .string st.2, .slice none 0 0, .string ⟨#[]⟩]
theorem impl_TakeRequest.mono : ∀ a0 k, LeO (impl_TakeRequest.f k a0) (impl_TakeRequest.f (k + 1) a0) := by
 intro a0 k
 unfold impl_TakeRequest.f
 exact LeO.bind (takeF_mono _ _ _ _) (fun _ => LeO.refl _)
set_option maxHeartbeats 4000000 in
set_option maxRecDepth 100000 in
theorem impl_TakeRequest.calls (k : Nat) (a0 : ByteArray) (r1 : ByteArray) (r2 : ByteArray) (r3 : List (S75)) (r4 : ByteArray) (r5 : Int) (r6 : Int) (w : World) (h : impl_TakeRequest.f k a0 = some (r1, r2, r3, r4, r5, r6)) (ht : Glob w) :
  Calls Tryz.prog 7 #[.string a0] w fun e w' => ∃ v2_ : Value, e = .returned (.tuple #[.agg #[.string r1, .string r2, v2_, .string r4], .int .i64 r5, .int .i64 r6]) ∧ Kd.R k75 75 w' w.heap.size (fun _ => True) v2_ r3 ∧ Below w.heap.size w w' := by
 unfold impl_TakeRequest.f at h
 obtain ⟨⟨fs, body, many, code, m, t⟩, hq, h⟩ := Option.bind_eq_some_iff.mp h
 dsimp only at h
 have TK := ak hq
 have GG := ak ht
 have h3 := glob_size ht
 clear hq ht
 have eh : ∀ args w, (callFunc 31 args).run Tryz.prog w = .ok (.enter 31 args) w := enters_of Tryz.func31 (by kernel_rfl) rfl
 have hTK : ∀ (g : Nat) (W : World), 6 ≤ g → W.heap[g]? = some (.cells (trCellsQ (⟨#[]⟩, ⟨#[]⟩)) 24 (0, 0)) → Glob W → Calls Tryz.prog 30 #[.string a0, .func (.func 31) #[] #[.pointer (some ⟨g, 0, none⟩)]] W fun e w' => ∃ v, e = .returned (.tuple #[v, .string body, .int .i64 many, .int .i64 code]) ∧ Took W g 24 (trCellsQ (m, t)) fs v w' :=
  fun g W hg3 hK hG => takeG.calls 31 tr1.f trCellsQ 24 (⟨#[]⟩, ⟨#[]⟩) eh (fun line g r1 r2 st W hK hr hG => tr1.calls line g r1 r2 st.1 st.2 W hK hr hG) k a0 g fs body many code (m, t) W hg3 hK TK.out hG
 have TC := ak hTK
 clear hTK eh TK
 have HB := ak (Below.refl w.heap.size w)
 by_cases hc : code = 0
 ·subst hc
  rw [if_pos rfl] at h
  simp only [Option.some.injEq, Prod.mk.injEq] at h
  obtain ⟨rfl, rfl, rfl, rfl, rfl, rfl⟩ := h
  go_enter Tryz.func7, Tryz.ntmps7
  go_wp2_with (first
   | ((with_reducible refine gd 2 ?_); refine bE 2 #[.string (⟨#[]⟩ : ByteArray), .string (⟨#[]⟩ : ByteArray), .slice none 0 0, .string (⟨#[]⟩ : ByteArray)] 24 ?_; intro g2 hg2 x1 hbox hb; have L2 := blk_lt hbox; have E2 : w.heap.size ≤ g2 := (by rw [hg2]; exact Nat.le_refl _); have HB1 := ak hb; have KA := ak hbox; clear hbox hb hg2)
   | ((with_reducible refine gd 5 ?_); refine bE 5 #[.string (⟨#[]⟩ : ByteArray), .string (⟨#[]⟩ : ByteArray), .slice none 0 0, .string (⟨#[]⟩ : ByteArray)] 24 ?_; intro g5 hg5 x2 hbox hb; have L5 : g2 < g5 := (by rw [hg5]; exact L2); have E5 : w.heap.size ≤ g5 := (by omega); have HB2 := ak (below_step HB1.out hb); have KA2 := ak (blk_below KA.out hb); have KB := ak hbox; clear hbox hb hg5 HB1 KA L2)
   | (go_at_call 30; refine (TC.out g5 x2 (by omega) KB.out (globg GG.out HB2.out)).mono ?_; rintro e x3 ⟨v, rfl, hT⟩; have hs2 := HB2.out.size; have HB3 := ak (HB2.out.trans (below_less hT.b E5)); have KA3 := ak ((hT.b.block g2 L5).trans KA2.out); have KB3 := ak (show x3.heap[g5]? = some (.cells #[.string m, .string t, .slice none 0 0, .string ⟨#[]⟩] 24 (0, 0)) from hT.k); have X5 := blk_lt KB.out; have R3 := ak (Kd.R_bound hT.r); clear hT HB2 KA2 KB; obtain ⟨A3, c3, e3⟩ := Kd.R_slice R3.out; subst e3; have hne : g2 ≠ g5 := (by omega); have hne2 : g5 ≠ g2 := (by omega); have z0 := (blk_cell KB3.out 0).trans (show _ = some (.string m) from rfl); have z1 := (blk_cell KB3.out 1).trans (show _ = some (.string t) from rfl); have z2 := (blk_cell KB3.out 2).trans (show _ = some (.slice none 0 0) from rfl); have z3 := (blk_cell KB3.out 3).trans (show _ = some (.string ⟨#[]⟩) from rfl); have f0 := blk_frozen KB3.out 0; have f1 := blk_frozen KB3.out 1; have f2 := blk_frozen KB3.out 2; have f3 := blk_frozen KB3.out 3; have y0 := (blk_cell KA3.out 0).trans (show _ = some (.string ⟨#[]⟩) from rfl); have y1 := (blk_cell KA3.out 1).trans (show _ = some (.string ⟨#[]⟩) from rfl); have y2 := (blk_cell KA3.out 2).trans (show _ = some (.slice none 0 0) from rfl); have y3 := (blk_cell KA3.out 3).trans (show _ = some (.string ⟨#[]⟩) from rfl); have q0 := blk_frozen KA3.out 0; have q1 := blk_frozen KA3.out 1; have q2 := blk_frozen KA3.out 2; have q3 := blk_frozen KA3.out 3))
  refine bodyPost_ret (results_ctt rfl _ _ g2 24 #[.string m, .string t, .slice A3 fs.length c3, .string body] (0, 0) _ rfl (by
   refine blk_put (cs := #[.string m, .string t, .slice A3 fs.length c3, .string ⟨#[]⟩]) ?_ 3 _ rfl
   refine blk_put (cs := #[.string m, .string t, .slice none 0 0, .string ⟨#[]⟩]) ?_ 2 _ rfl
   refine blk_put (cs := #[.string m, .string ⟨#[]⟩, .slice none 0 0, .string ⟨#[]⟩]) ?_ 1 _ rfl
   refine blk_put (cs := #[.string ⟨#[]⟩, .string ⟨#[]⟩, .slice none 0 0, .string ⟨#[]⟩]) ?_ 0 _ rfl
   refine blk_far ?_ hne _
   refine blk_far ?_ hne _
   exact KA3.out) Tryz.underlying24 rfl (by kernel_rfl)) rfl ?_
  refine ⟨.slice A3 fs.length c3, rfl, Kd.R_lower (base' := w.heap.size) (Kd.R_mono (Kd.R_far (Kd.R_far (Kd.R_far (Kd.R_far (Kd.R_far (Kd.R_far R3.out (p := ⟨g5, 2, none⟩) (fun k_ hk e_ => by have h1_ := hk.2.1; have h2_ : k_ = g5 := e_; omega) _) (p := ⟨g5, 3, none⟩) (fun k_ hk e_ => by have h1_ := hk.2.1; have h2_ : k_ = g5 := e_; omega) _) (p := ⟨g2, 0, none⟩) (fun k_ hk e_ => by have h1_ := hk.2.1; have h2_ : k_ = g2 := e_; omega) _) (p := ⟨g2, 1, none⟩) (fun k_ hk e_ => by have h1_ := hk.2.1; have h2_ : k_ = g2 := e_; omega) _) (p := ⟨g2, 2, none⟩) (fun k_ hk e_ => by have h1_ := hk.2.1; have h2_ : k_ = g2 := e_; omega) _) (p := ⟨g2, 3, none⟩) (fun k_ hk e_ => by have h1_ := hk.2.1; have h2_ : k_ = g2 := e_; omega) _) (fun _ _ => trivial)) hs2, ?_⟩
  exact (((((HB3.out.setCell E5 _).setCell E5 _).setCell E2 _).setCell E2 _).setCell E2 _).setCell E2 _
 ·rw [if_neg hc] at h
  simp only [Option.some.injEq, Prod.mk.injEq] at h
  obtain ⟨rfl, rfl, rfl, rfl, rfl, rfl⟩ := h
  have hc1 : (code != 0) = true := bne_iff_ne.mpr hc
  clear hc
  go_enter Tryz.func7, Tryz.ntmps7
  go_wp2_with (first
   | ((with_reducible refine gd 2 ?_); refine bE 2 #[.string (⟨#[]⟩ : ByteArray), .string (⟨#[]⟩ : ByteArray), .slice none 0 0, .string (⟨#[]⟩ : ByteArray)] 24 ?_; intro g2 hg2 x1 hbox hb; have L2 := blk_lt hbox; have E2 : w.heap.size ≤ g2 := (by rw [hg2]; exact Nat.le_refl _); have HB1 := ak hb; have KA := ak hbox; clear hbox hb hg2)
   | ((with_reducible refine gd 5 ?_); refine bE 5 #[.string (⟨#[]⟩ : ByteArray), .string (⟨#[]⟩ : ByteArray), .slice none 0 0, .string (⟨#[]⟩ : ByteArray)] 24 ?_; intro g5 hg5 x2 hbox hb; have L5 : g2 < g5 := (by rw [hg5]; exact L2); have E5 : w.heap.size ≤ g5 := (by omega); have HB2 := ak (below_step HB1.out hb); have KA2 := ak (blk_below KA.out hb); have KB := ak hbox; clear hbox hb hg5 HB1 KA L2)
   | (go_at_call 30; refine (TC.out g5 x2 (by omega) KB.out (globg GG.out HB2.out)).mono ?_; rintro e x3 ⟨v, rfl, hT⟩; have hs2 := HB2.out.size; have HB3 := ak (HB2.out.trans (below_less hT.b E5)); have KA3 := ak ((hT.b.block g2 L5).trans KA2.out); have KB3 := ak (show x3.heap[g5]? = some (.cells #[.string m, .string t, .slice none 0 0, .string ⟨#[]⟩] 24 (0, 0)) from hT.k); have X5 := blk_lt KB.out; have R3 := ak (Kd.R_bound hT.r); clear hT HB2 KA2 KB; obtain ⟨A3, c3, e3⟩ := Kd.R_slice R3.out; subst e3; have hne : g2 ≠ g5 := (by omega); have hne2 : g5 ≠ g2 := (by omega); have z0 := (blk_cell KB3.out 0).trans (show _ = some (.string m) from rfl); have z1 := (blk_cell KB3.out 1).trans (show _ = some (.string t) from rfl); have z2 := (blk_cell KB3.out 2).trans (show _ = some (.slice none 0 0) from rfl); have z3 := (blk_cell KB3.out 3).trans (show _ = some (.string ⟨#[]⟩) from rfl); have f0 := blk_frozen KB3.out 0; have f1 := blk_frozen KB3.out 1; have f2 := blk_frozen KB3.out 2; have f3 := blk_frozen KB3.out 3; have y0 := (blk_cell KA3.out 0).trans (show _ = some (.string ⟨#[]⟩) from rfl); have y1 := (blk_cell KA3.out 1).trans (show _ = some (.string ⟨#[]⟩) from rfl); have y2 := (blk_cell KA3.out 2).trans (show _ = some (.slice none 0 0) from rfl); have y3 := (blk_cell KA3.out 3).trans (show _ = some (.string ⟨#[]⟩) from rfl); have q0 := blk_frozen KA3.out 0; have q1 := blk_frozen KA3.out 1; have q2 := blk_frozen KA3.out 2; have q3 := blk_frozen KA3.out 3))
  refine bodyPost_ret (results_ctt rfl _ _ g2 24 #[.string ⟨#[]⟩, .string ⟨#[]⟩, .slice none 0 0, .string ⟨#[]⟩] (0, 0) _ rfl (by
   refine blk_put (cs := #[.string ⟨#[]⟩, .string ⟨#[]⟩, .slice none 0 0, .string ⟨#[]⟩]) ?_ 3 _ rfl
   refine blk_put (cs := #[.string ⟨#[]⟩, .string ⟨#[]⟩, .slice none 0 0, .string ⟨#[]⟩]) ?_ 2 _ rfl
   refine blk_put (cs := #[.string ⟨#[]⟩, .string ⟨#[]⟩, .slice none 0 0, .string ⟨#[]⟩]) ?_ 1 _ rfl
   refine blk_put (cs := #[.string ⟨#[]⟩, .string ⟨#[]⟩, .slice none 0 0, .string ⟨#[]⟩]) ?_ 0 _ rfl
   exact KA3.out) Tryz.underlying24 rfl (by kernel_rfl)) rfl ?_
  exact ⟨.slice none 0 0, rfl, Kd.R_nil _ _ _ _ _, (((HB3.out.setCell E2 _).setCell E2 _).setCell E2 _).setCell E2 _⟩

end Go.Proofs.YthneflfbafieeaaGreatDoor.PFnTorn
