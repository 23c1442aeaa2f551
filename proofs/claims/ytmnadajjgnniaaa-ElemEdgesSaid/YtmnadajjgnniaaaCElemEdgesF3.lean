/- Walks of the functions of the given program that the law reaches, what they compute, and laws on that. Conditions: as each theorem says. -/
import Derived.Test.YtmnadajjgnniaaaCElemEdgesF1
import Derived.Test.YtmnadajjgnniaaaCElemEdgesF2
import Derived.Test.YtmnadajjgnniaaaWInvWords
import Derived.Test.YtmnadajjgnniaaaWMore
set_option linter.unusedVariables false
set_option linter.unusedSimpArgs false
section
namespace Go.Proofs.Ytmnadajjgnniaaa.MA
open Go.RowKit Go.Proofs.YtmnadajjgnniaaaW.PrintWords Go.Proofs.YtmnadajjgnniaaaW.PrintLast Go.Proofs.YtmnadajjgnniaaaW.PrintMore
attribute [local go_sem] max2_int min2_int max_two min_two max_three min_three max_four min_four   -- for this text's walks alone
set_option linter.unusedVariables false
set_option linter.unusedSimpArgs false

def pleachlaw25_ElemEdges.j0 : Nat → Bool → ByteArray → ByteArray → ByteArray → List ByteArray → List (S98) → Option (Bool)
  | 0, _, _, _, _, _, _ => none
  | k + 1, x28, x102000, x102001, x102002, x102003, x102004 => if x28 = true then ((pleachlaw25_awake.f k).bind fun t103 => (some t103)) else ((elem_PutEdge.f k x102000 x102001 x102002 x102003 x102004).bind fun bt104 => ((pleachref25_PutEdge.f k x102000 x102001 x102002 x102003 x102004).bind fun t106 => (if bt104.1.toList = t106.toList then ((pleachref25_Edge.f k x102000 x102001 x102002 x102003 x102004).bind fun t107 => (if bt104.2 = t107 then ((elem_CheckEdge.f k x102000 x102001 x102002 x102003 x102004).bind fun t108 => (if t108 = bt104.2 then ((pleachlaw25_awake.f k).bind fun t109 => (some t109)) else (some false))) else (some false))) else (some false))))
def pleachlaw25_ElemEdges.f (k : Nat) (a0_0 : ByteArray) (a0_1 : ByteArray) (a0_2 : ByteArray) (l0_3 : List ByteArray) (l0_4 : List (S98)) : Option (Bool) := if (a0_0.size : Int) > 100 then (pleachlaw25_ElemEdges.j0 k true a0_0 a0_1 a0_2 l0_3 l0_4) else (if (a0_1.size : Int) > 100 then (pleachlaw25_ElemEdges.j0 k true a0_0 a0_1 a0_2 l0_3 l0_4) else (if (a0_2.size : Int) > 100 then (pleachlaw25_ElemEdges.j0 k true a0_0 a0_1 a0_2 l0_3 l0_4) else ((pleachlaw25_few.f k l0_3 l0_4).bind fun t102 => (pleachlaw25_ElemEdges.j0 k (!t102) a0_0 a0_1 a0_2 l0_3 l0_4))))
theorem pleachlaw25_ElemEdges.mono_l : ∀ k, (∀ y0 y1 y2 y3 y4 y5, LeO (pleachlaw25_ElemEdges.j0 k y0 y1 y2 y3 y4 y5) (pleachlaw25_ElemEdges.j0 (k + 1) y0 y1 y2 y3 y4 y5))
  | 0 => fun _ _ _ _ _ _ r h => by simp [pleachlaw25_ElemEdges.j0] at h
  | k + 1 => by
    have ih0 := pleachlaw25_ElemEdges.mono_l k
    · intro y0 y1 y2 y3 y4 y5
      unfold pleachlaw25_ElemEdges.j0
      repeat' first
      | (with_reducible exact ih0 _ _ _ _ _ _)
      | (with_reducible exact elem_CheckEdge.mono _ _ _ _ _ _)
      | (with_reducible exact elem_PutEdge.mono _ _ _ _ _ _)
      | (with_reducible exact pleachlaw25_awake.mono _)
      | (with_reducible exact pleachlaw25_few.mono _ _ _)
      | (with_reducible exact pleachref25_Edge.mono _ _ _ _ _ _)
      | (with_reducible exact pleachref25_PutEdge.mono _ _ _ _ _ _)
      | (with_reducible exact LeO.refl _)
      | (with_reducible exact LeO.none _)
      | (with_reducible refine LeO.ite ?_ ?_)
      | (with_reducible refine LeO.bind ?_ (fun _ => ?_))
      | exact ih0 _ _ _ _ _ _
      | exact elem_CheckEdge.mono _ _ _ _ _ _
      | exact elem_PutEdge.mono _ _ _ _ _ _
      | exact pleachlaw25_awake.mono _
      | exact pleachlaw25_few.mono _ _ _
      | exact pleachref25_Edge.mono _ _ _ _ _ _
      | exact pleachref25_PutEdge.mono _ _ _ _ _ _
      | exact LeO.none _
      | refine LeO.ite ?_ ?_
      | refine LeO.bind ?_ (fun _ => ?_)
theorem pleachlaw25_ElemEdges.mono : ∀ a0 a1 a2 a3 a4 k, LeO (pleachlaw25_ElemEdges.f k a0 a1 a2 a3 a4) (pleachlaw25_ElemEdges.f (k + 1) a0 a1 a2 a3 a4) := by
  intro a0 a1 a2 a3 a4 k
  have ih0 := pleachlaw25_ElemEdges.mono_l k
  unfold pleachlaw25_ElemEdges.f
  repeat' first
      | (with_reducible exact ih0 _ _ _ _ _ _)
      | (with_reducible exact elem_CheckEdge.mono _ _ _ _ _ _)
      | (with_reducible exact elem_PutEdge.mono _ _ _ _ _ _)
      | (with_reducible exact pleachlaw25_awake.mono _)
      | (with_reducible exact pleachlaw25_few.mono _ _ _)
      | (with_reducible exact pleachref25_Edge.mono _ _ _ _ _ _)
      | (with_reducible exact pleachref25_PutEdge.mono _ _ _ _ _ _)
      | (with_reducible exact LeO.refl _)
      | (with_reducible exact LeO.none _)
      | (with_reducible refine LeO.ite ?_ ?_)
      | (with_reducible refine LeO.bind ?_ (fun _ => ?_))
      | exact ih0 _ _ _ _ _ _
      | exact elem_CheckEdge.mono _ _ _ _ _ _
      | exact elem_PutEdge.mono _ _ _ _ _ _
      | exact pleachlaw25_awake.mono _
      | exact pleachlaw25_few.mono _ _ _
      | exact pleachref25_Edge.mono _ _ _ _ _ _
      | exact pleachref25_PutEdge.mono _ _ _ _ _ _
      | exact LeO.none _
      | refine LeO.ite ?_ ?_
      | refine LeO.bind ?_ (fun _ => ?_)
set_option maxHeartbeats 8000000 in
set_option maxRecDepth 100000 in
theorem pleachlaw25_ElemEdges.calls (k : Nat) (a0_0 : ByteArray) (a0_1 : ByteArray) (a0_2 : ByteArray) (A0_3 : Option Addr) (c0_3 : Nat) (l0_3 : List ByteArray) (A0_4 : Option Addr) (c0_4 : Nat) (l0_4 : List (S98)) (r : Bool) (w : World) (hr0_3 : Kd.C Kd.string w A0_3 l0_3.length l0_3) (hc0_3 : l0_3.length ≤ c0_3) (hr0_4 : Kd.C k98 w A0_4 l0_4.length l0_4) (hc0_4 : l0_4.length ≤ c0_4) (h : pleachlaw25_ElemEdges.f k a0_0 a0_1 a0_2 l0_3 l0_4 = some r) :
    Calls Try.prog 4 #[.agg #[.string a0_0, .string a0_1, .string a0_2, .slice A0_3 l0_3.length c0_3, .slice A0_4 l0_4.length c0_4]] w fun e w' => e = .returned (.bool r) ∧ Below w.heap.size w w' := by
  have hu38 := Try.underlying38
  have HR0_3 := Aside0.mk hr0_3
  have HC0_3 := Aside0.mk hc0_3
  clear hr0_3 hc0_3
  have HR0_4 := Aside0.mk hr0_4
  have HC0_4 := Aside0.mk hc0_4
  clear hr0_4 hc0_4
  have HB := Aside0.mk (Below.refl w.heap.size w)
  have H : (if (a0_0.size : Int) > 100 then (pleachlaw25_ElemEdges.j0 k true a0_0 a0_1 a0_2 l0_3 l0_4) else (if (a0_1.size : Int) > 100 then (pleachlaw25_ElemEdges.j0 k true a0_0 a0_1 a0_2 l0_3 l0_4) else (if (a0_2.size : Int) > 100 then (pleachlaw25_ElemEdges.j0 k true a0_0 a0_1 a0_2 l0_3 l0_4) else ((pleachlaw25_few.f k l0_3 l0_4).bind fun t102 => (pleachlaw25_ElemEdges.j0 k (!t102) a0_0 a0_1 a0_2 l0_3 l0_4))))) = some r := h
  clear h
  have HC2 := Aside0.mk H
  clear H
  go_enter Try.func4, Try.ntmps4
  go_upto_region 1 with (first | ((with_reducible refine gate_dst (N := 1) rfl ?_); (try (refine gate_guard (by rfl) ?_; dsimp only)); refine box_event ?hg (N := 1) ?hd (cs := #[.string a0_0, .string a0_1, .string a0_2, .slice A0_3 l0_3.length c0_3, .slice A0_4 l0_4.length c0_4]) (t := 38) ?hr ?_; (case hd => rfl); (case hg => rfl); (case hr => first | (go_simp; done) | (go_simp; rfl)); intro gb101 hg w3 hbox hb; have n0_ := Aside0.mk (below_step (by repeat (first | (with_reducible first | exact HB.out | apply below_alloc | apply pw_below_drewN | apply below_drew1) | exact HB.out)) hb); have n1_ := Aside0.mk (hbox); have n2_ := Aside0.mk ((by rw [hg]; exact (below_size (by repeat (first | (with_reducible first | exact HB.out | apply below_alloc | apply pw_below_drewN | apply below_drew1) | exact HB.out))) : w.heap.size ≤ gb101)); have n3_ := Aside0.mk ((by rw [hg]; exact (below_size (by repeat (first | (with_reducible first | exact HB.out | apply below_alloc | apply pw_below_drewN | apply below_drew1) | exact HB.out))) : w.heap.size ≤ gb101)); clear HB; have HB := n0_; have BK101 := n1_; have GW101 := n2_; have GE101 := n3_; clear n0_ n1_ n2_ n3_; clear hb hbox hg))
  (try simp only [Act.put, List.setIfInBounds_toArray, List.set_cons_zero, List.set_cons_succ])
  go_cut [28] (fun v28 wc => ∃ (kq : Nat) (x28_1 : Bool), v28 = .bool x28_1 ∧ Aside0 (pleachlaw25_ElemEdges.j0 kq x28_1 a0_0 a0_1 a0_2 l0_3 l0_4 = some r) ∧ Aside0 (kq ≤ k) ∧ Aside0 (wc.heap[gb101]? = some (.cells #[.string a0_0, .string a0_1, .string a0_2, (.slice A0_3 l0_3.length c0_3), (.slice A0_4 l0_4.length c0_4)] 38 (0, 0))) ∧ Aside0 (Below w.heap.size w wc))
  case first =>
    have H := HC2.out
    clear HC2
    by_cases c4 : (a0_0.size : Int) > 100
    · rw [if_pos c4] at H
      have c4b0 : decide (100 < (a0_0.size : Int)) = true := decide_eq_true c4
      have c4b1 : decide (100 < a0_0.size) = true := decide_eq_true (by omega)
      clear c4
      (first | rw [c4b0] | (simp only [i64_w, i32_w]; rw [c4b0]) | skip)
      have H' := Aside0.mk H
      clear H
      have hcz5_0 : w3.cell? ⟨gb101, 0, none⟩ = some (.string a0_0) := (blk_cell BK101.out 0).trans rfl
      have hcz5_1 : w3.cell? ⟨gb101, 1, none⟩ = some (.string a0_1) := (blk_cell BK101.out 1).trans rfl
      have hcz5_2 : w3.cell? ⟨gb101, 2, none⟩ = some (.string a0_2) := (blk_cell BK101.out 2).trans rfl
      have hcz5_3 : w3.cell? ⟨gb101, 3, none⟩ = some (.slice A0_3 l0_3.length c0_3) := (blk_cell BK101.out 3).trans rfl
      have hcz5_4 : w3.cell? ⟨gb101, 4, none⟩ = some (.slice A0_4 l0_4.length c0_4) := (blk_cell BK101.out 4).trans rfl
      have hfz5_0 := blk_frozen BK101.out 0
      have hfz5_1 := blk_frozen BK101.out 1
      have hfz5_2 := blk_frozen BK101.out 2
      have hfz5_3 := blk_frozen BK101.out 3
      have hfz5_4 := blk_frozen BK101.out 4
      go_wp2
      go_meet
      case rel => exact ⟨_, (true), (by first | rfl | (simp; done) | (simp [*]; done)), H', ⟨by first | omega | exact Nat.le_refl _⟩, ⟨by (with_reducible repeat (first | refine blk_drewN ?_ _ | refine blk_drew ?_ | refine blk_alloc ?_ _)); exact BK101.out⟩, ⟨by repeat (first | (with_reducible first | exact HB.out | apply below_alloc | apply pw_below_drewN | apply below_drew1 | refine below_set ?_ GE101.out) | exact HB.out)⟩⟩
    · rw [if_neg c4] at H
      have c4b0 : decide (100 < (a0_0.size : Int)) = false := decide_eq_false c4
      have c4b1 : decide (100 < a0_0.size) = false := decide_eq_false (by omega)
      clear c4
      (first | rw [c4b0] | (simp only [i64_w, i32_w]; rw [c4b0]) | skip)
      by_cases c6 : (a0_1.size : Int) > 100
      · rw [if_pos c6] at H
        have c6b0 : decide (100 < (a0_1.size : Int)) = true := decide_eq_true c6
        have c6b1 : decide (100 < a0_1.size) = true := decide_eq_true (by omega)
        clear c6
        have H' := Aside0.mk H
        clear H
        have hcz7_0 : w3.cell? ⟨gb101, 0, none⟩ = some (.string a0_0) := (blk_cell BK101.out 0).trans rfl
        have hcz7_1 : w3.cell? ⟨gb101, 1, none⟩ = some (.string a0_1) := (blk_cell BK101.out 1).trans rfl
        have hcz7_2 : w3.cell? ⟨gb101, 2, none⟩ = some (.string a0_2) := (blk_cell BK101.out 2).trans rfl
        have hcz7_3 : w3.cell? ⟨gb101, 3, none⟩ = some (.slice A0_3 l0_3.length c0_3) := (blk_cell BK101.out 3).trans rfl
        have hcz7_4 : w3.cell? ⟨gb101, 4, none⟩ = some (.slice A0_4 l0_4.length c0_4) := (blk_cell BK101.out 4).trans rfl
        have hfz7_0 := blk_frozen BK101.out 0
        have hfz7_1 := blk_frozen BK101.out 1
        have hfz7_2 := blk_frozen BK101.out 2
        have hfz7_3 := blk_frozen BK101.out 3
        have hfz7_4 := blk_frozen BK101.out 4
        go_wp2
        go_meet
        case rel => exact ⟨_, (true), (by first | rfl | (simp; done) | (simp [*]; done)), H', ⟨by first | omega | exact Nat.le_refl _⟩, ⟨by (with_reducible repeat (first | refine blk_drewN ?_ _ | refine blk_drew ?_ | refine blk_alloc ?_ _)); exact BK101.out⟩, ⟨by repeat (first | (with_reducible first | exact HB.out | apply below_alloc | apply pw_below_drewN | apply below_drew1 | refine below_set ?_ GE101.out) | exact HB.out)⟩⟩
      · rw [if_neg c6] at H
        have c6b0 : decide (100 < (a0_1.size : Int)) = false := decide_eq_false c6
        have c6b1 : decide (100 < a0_1.size) = false := decide_eq_false (by omega)
        clear c6
        by_cases c8 : (a0_2.size : Int) > 100
        · rw [if_pos c8] at H
          have c8b0 : decide (100 < (a0_2.size : Int)) = true := decide_eq_true c8
          have c8b1 : decide (100 < a0_2.size) = true := decide_eq_true (by omega)
          clear c8
          have H' := Aside0.mk H
          clear H
          have hcz9_0 : w3.cell? ⟨gb101, 0, none⟩ = some (.string a0_0) := (blk_cell BK101.out 0).trans rfl
          have hcz9_1 : w3.cell? ⟨gb101, 1, none⟩ = some (.string a0_1) := (blk_cell BK101.out 1).trans rfl
          have hcz9_2 : w3.cell? ⟨gb101, 2, none⟩ = some (.string a0_2) := (blk_cell BK101.out 2).trans rfl
          have hcz9_3 : w3.cell? ⟨gb101, 3, none⟩ = some (.slice A0_3 l0_3.length c0_3) := (blk_cell BK101.out 3).trans rfl
          have hcz9_4 : w3.cell? ⟨gb101, 4, none⟩ = some (.slice A0_4 l0_4.length c0_4) := (blk_cell BK101.out 4).trans rfl
          have hfz9_0 := blk_frozen BK101.out 0
          have hfz9_1 := blk_frozen BK101.out 1
          have hfz9_2 := blk_frozen BK101.out 2
          have hfz9_3 := blk_frozen BK101.out 3
          have hfz9_4 := blk_frozen BK101.out 4
          go_wp2
          go_meet
          case rel => exact ⟨_, (true), (by first | rfl | (simp; done) | (simp [*]; done)), H', ⟨by first | omega | exact Nat.le_refl _⟩, ⟨by (with_reducible repeat (first | refine blk_drewN ?_ _ | refine blk_drew ?_ | refine blk_alloc ?_ _)); exact BK101.out⟩, ⟨by repeat (first | (with_reducible first | exact HB.out | apply below_alloc | apply pw_below_drewN | apply below_drew1 | refine below_set ?_ GE101.out) | exact HB.out)⟩⟩
        · rw [if_neg c8] at H
          have c8b0 : decide (100 < (a0_2.size : Int)) = false := decide_eq_false c8
          have c8b1 : decide (100 < a0_2.size) = false := decide_eq_false (by omega)
          clear c8
          replace H := Option.bind_eq_some_iff.mp H
          obtain ⟨t102, A100, H⟩ := H
          replace H : (pleachlaw25_ElemEdges.j0 k (!t102) a0_0 a0_1 a0_2 l0_3 l0_4) = some r := H
          have A10 := Aside0.mk A100
          clear A100
          have H' := Aside0.mk H
          clear H
          have hcz11_0 : w3.cell? ⟨gb101, 0, none⟩ = some (.string a0_0) := (blk_cell BK101.out 0).trans rfl
          have hcz11_1 : w3.cell? ⟨gb101, 1, none⟩ = some (.string a0_1) := (blk_cell BK101.out 1).trans rfl
          have hcz11_2 : w3.cell? ⟨gb101, 2, none⟩ = some (.string a0_2) := (blk_cell BK101.out 2).trans rfl
          have hcz11_3 : w3.cell? ⟨gb101, 3, none⟩ = some (.slice A0_3 l0_3.length c0_3) := (blk_cell BK101.out 3).trans rfl
          have hcz11_4 : w3.cell? ⟨gb101, 4, none⟩ = some (.slice A0_4 l0_4.length c0_4) := (blk_cell BK101.out 4).trans rfl
          have hfz11_0 := blk_frozen BK101.out 0
          have hfz11_1 := blk_frozen BK101.out 1
          have hfz11_2 := blk_frozen BK101.out 2
          have hfz11_3 := blk_frozen BK101.out 3
          have hfz11_4 := blk_frozen BK101.out 4
          go_wp2_with (first | (go_at_call 10; (with_reducible refine (pleachlaw25_few.calls k _ _ l0_3 _ _ l0_4 t102 _ ?side1 ?side2 ?side3 ?side4 A10.out).mono ?_); (case side1 => repeat (first | exact (Kd.C_below HR0_3.out HB.out) | (with_reducible refine Kd.C_alloc ?_ _) | (with_reducible refine Kd.C_drewN ?_ _) | (with_reducible refine Kd.C_drew ?_))); (case side2 => exact HC0_3.out); (case side3 => repeat (first | exact (Kd.C_below HR0_4.out HB.out) | (with_reducible refine Kd.C_alloc ?_ _) | (with_reducible refine Kd.C_drewN ?_ _) | (with_reducible refine Kd.C_drew ?_))); (case side4 => exact HC0_4.out); rintro e w12 ⟨rfl, hb⟩; have n0_ := Aside0.mk (blk_below (g := gb101) (o := .cells #[.string a0_0, .string a0_1, .string a0_2, .slice A0_3 l0_3.length c0_3, .slice A0_4 l0_4.length c0_4] 38 (0, 0)) (by (with_reducible repeat (first | refine blk_drewN ?_ _ | refine blk_drew ?_ | refine blk_alloc ?_ _)); exact BK101.out) hb); have n1_ := Aside0.mk (below_step (by repeat (first | (with_reducible first | exact HB.out | apply below_alloc | apply pw_below_drewN | apply below_drew1 | refine below_set ?_ GE101.out) | exact HB.out)) hb); clear BK101; clear HB; have BK101 := n0_; have HB := n1_; clear n0_ n1_; (try clear hb); (try clear hb2); (try clear hk); (try clear hi)))
          go_meet
          case rel => exact ⟨_, (!t102), (by first | rfl | (simp; done) | (simp [*]; done)), H', ⟨by first | omega | exact Nat.le_refl _⟩, ⟨by (with_reducible repeat (first | refine blk_drewN ?_ _ | refine blk_drew ?_ | refine blk_alloc ?_ _)); exact BK101.out⟩, ⟨by repeat (first | (with_reducible first | exact HB.out | apply below_alloc | apply pw_below_drewN | apply below_drew1 | refine below_set ?_ GE101.out) | exact HB.out)⟩⟩
  case rest =>
    clear HC2
    try clear p2
    try clear c4
    try clear c4b0
    try clear c4b1
    try clear c6
    try clear c6b0
    try clear c6b1
    try clear c8
    try clear c8b0
    try clear c8b1
    try clear hcz11_0
    try clear hcz11_1
    try clear hcz11_2
    try clear hcz11_3
    try clear hcz11_4
    try clear hcz5_0
    try clear hcz5_1
    try clear hcz5_2
    try clear hcz5_3
    try clear hcz5_4
    try clear hcz7_0
    try clear hcz7_1
    try clear hcz7_2
    try clear hcz7_3
    try clear hcz7_4
    try clear hcz9_0
    try clear hcz9_1
    try clear hcz9_2
    try clear hcz9_3
    try clear hcz9_4
    try clear hfz11_0
    try clear hfz11_1
    try clear hfz11_2
    try clear hfz11_3
    try clear hfz11_4
    try clear hfz5_0
    try clear hfz5_1
    try clear hfz5_2
    try clear hfz5_3
    try clear hfz5_4
    try clear hfz7_0
    try clear hfz7_1
    try clear hfz7_2
    try clear hfz7_3
    try clear hfz7_4
    try clear hfz9_0
    try clear hfz9_1
    try clear hfz9_2
    try clear hfz9_3
    try clear hfz9_4
    obtain ⟨kq, x28_1, rfl, HA, HJ1, BK101, HB⟩ := hcut
    cases kq with
    | zero => exact absurd HA.out (by simp [pleachlaw25_ElemEdges.j0])
    | succ kj1 =>
      have H := HA.out
      clear HA
      simp only [pleachlaw25_ElemEdges.j0] at H
      by_cases c13 : x28_1 = true
      · subst c13
        have H1 : ((pleachlaw25_awake.f kj1).bind fun t103 => (some t103)) = some r := by rw [if_pos rfl] at H; exact H
        clear H
        have H := H1
        clear H1
        replace H := Option.bind_eq_some_iff.mp H
        obtain ⟨t103, A140, H⟩ := H
        replace H : (some t103) = some r := H
        have A14 := Aside0.mk A140
        clear A140
        obtain rfl := Option.some.inj H
        go_wp2_with (first | ((with_reducible refine gate_callee (f := 11) rfl ?_); refine goesL_ (some 29) rfl rfl Try.func11 (by kernel_rfl) rfl #[] rfl (by (try simp only [List.map_toArray, List.map_cons, List.map_nil]); first | done | rfl | (simp only [List.length_drop, List.length_take]; rfl)) ?_; (with_reducible refine (pleachlaw25_awake.calls kj1  t103 _ A14.out).mono ?_); rintro e w15 ⟨rfl, hb⟩; refine ⟨_, rfl, ?_⟩; have n0_ := Aside0.mk (blk_below (g := gb101) (o := .cells #[.string a0_0, .string a0_1, .string a0_2, .slice A0_3 l0_3.length c0_3, .slice A0_4 l0_4.length c0_4] 38 (0, 0)) (by (with_reducible repeat (first | refine blk_drewN ?_ _ | refine blk_drew ?_ | refine blk_alloc ?_ _)); exact BK101.out) hb); have n1_ := Aside0.mk (below_step (by repeat (first | (with_reducible first | exact HB.out | apply below_alloc | apply pw_below_drewN | apply below_drew1 | refine below_set ?_ GE101.out) | exact HB.out)) hb); clear BK101; clear HB; have BK101 := n0_; have HB := n1_; clear n0_ n1_; (try clear hb); (try clear hb2); (try clear hk); (try clear hi)))
        go_ret
        exact ⟨by first | rfl | (simp [errW_none, errW_some] <;> rfl) | (simp [*, errW_none, errW_some] <;> rfl), by repeat (first | (with_reducible first | exact HB.out | apply below_alloc | apply pw_below_drewN | apply below_drew1 | refine below_set ?_ GE101.out) | exact HB.out)⟩
      · replace c13 := Bool.eq_false_iff.mpr c13
        subst c13
        have H1 : ((elem_PutEdge.f kj1 a0_0 a0_1 a0_2 l0_3 l0_4).bind fun bt104 => ((pleachref25_PutEdge.f kj1 a0_0 a0_1 a0_2 l0_3 l0_4).bind fun t106 => (if bt104.1.toList = t106.toList then ((pleachref25_Edge.f kj1 a0_0 a0_1 a0_2 l0_3 l0_4).bind fun t107 => (if bt104.2 = t107 then ((elem_CheckEdge.f kj1 a0_0 a0_1 a0_2 l0_3 l0_4).bind fun t108 => (if t108 = bt104.2 then ((pleachlaw25_awake.f kj1).bind fun t109 => (some t109)) else (some false))) else (some false))) else (some false)))) = some r := by rw [if_neg (show ¬ (false = true) by decide)] at H; exact H
        clear H
        have H := H1
        clear H1
        replace H := Option.bind_eq_some_iff.mp H
        obtain ⟨⟨t104, t105⟩, A160, H⟩ := H
        replace H : ((pleachref25_PutEdge.f kj1 a0_0 a0_1 a0_2 l0_3 l0_4).bind fun t106 => (if t104.toList = t106.toList then ((pleachref25_Edge.f kj1 a0_0 a0_1 a0_2 l0_3 l0_4).bind fun t107 => (if t105 = t107 then ((elem_CheckEdge.f kj1 a0_0 a0_1 a0_2 l0_3 l0_4).bind fun t108 => (if t108 = t105 then ((pleachlaw25_awake.f kj1).bind fun t109 => (some t109)) else (some false))) else (some false))) else (some false))) = some r := H
        have A16 := Aside0.mk A160
        clear A160
        replace H := Option.bind_eq_some_iff.mp H
        obtain ⟨t106, A170, H⟩ := H
        replace H : (if t104.toList = t106.toList then ((pleachref25_Edge.f kj1 a0_0 a0_1 a0_2 l0_3 l0_4).bind fun t107 => (if t105 = t107 then ((elem_CheckEdge.f kj1 a0_0 a0_1 a0_2 l0_3 l0_4).bind fun t108 => (if t108 = t105 then ((pleachlaw25_awake.f kj1).bind fun t109 => (some t109)) else (some false))) else (some false))) else (some false)) = some r := H
        have A17 := Aside0.mk A170
        clear A170
        by_cases c18 : t104.toList = t106.toList
        · rw [if_pos c18] at H
          have c18b0 : (t104.toList == t106.toList) = true := beq_iff_eq.mpr c18
          have c18b1 : (t104.toList != t106.toList) = false := bne_eq_false_iff_eq.mpr c18
          clear c18
          replace H := Option.bind_eq_some_iff.mp H
          obtain ⟨t107, A190, H⟩ := H
          replace H : (if t105 = t107 then ((elem_CheckEdge.f kj1 a0_0 a0_1 a0_2 l0_3 l0_4).bind fun t108 => (if t108 = t105 then ((pleachlaw25_awake.f kj1).bind fun t109 => (some t109)) else (some false))) else (some false)) = some r := H
          have A19 := Aside0.mk A190
          clear A190
          by_cases c20 : t105 = t107
          · rw [if_pos c20] at H
            have c20b0 : (t105 == t107) = true := beq_iff_eq.mpr c20
            have c20b1 : (t105 != t107) = false := bne_eq_false_iff_eq.mpr c20
            clear c20
            replace H := Option.bind_eq_some_iff.mp H
            obtain ⟨t108, A210, H⟩ := H
            replace H : (if t108 = t105 then ((pleachlaw25_awake.f kj1).bind fun t109 => (some t109)) else (some false)) = some r := H
            have A21 := Aside0.mk A210
            clear A210
            by_cases c22 : t108 = t105
            · rw [if_pos c22] at H
              have c22b0 : (t108 == t105) = true := beq_iff_eq.mpr c22
              have c22b1 : (t108 != t105) = false := bne_eq_false_iff_eq.mpr c22
              clear c22
              replace H := Option.bind_eq_some_iff.mp H
              obtain ⟨t109, A230, H⟩ := H
              replace H : (some t109) = some r := H
              have A23 := Aside0.mk A230
              clear A230
              obtain rfl := Option.some.inj H
              have hcz24_0 : wc.cell? ⟨gb101, 0, none⟩ = some (.string a0_0) := (blk_cell BK101.out 0).trans rfl
              have hcz24_1 : wc.cell? ⟨gb101, 1, none⟩ = some (.string a0_1) := (blk_cell BK101.out 1).trans rfl
              have hcz24_2 : wc.cell? ⟨gb101, 2, none⟩ = some (.string a0_2) := (blk_cell BK101.out 2).trans rfl
              have hcz24_3 : wc.cell? ⟨gb101, 3, none⟩ = some (.slice A0_3 l0_3.length c0_3) := (blk_cell BK101.out 3).trans rfl
              have hcz24_4 : wc.cell? ⟨gb101, 4, none⟩ = some (.slice A0_4 l0_4.length c0_4) := (blk_cell BK101.out 4).trans rfl
              have hfz24_0 := blk_frozen BK101.out 0
              have hfz24_1 := blk_frozen BK101.out 1
              have hfz24_2 := blk_frozen BK101.out 2
              have hfz24_3 := blk_frozen BK101.out 3
              have hfz24_4 := blk_frozen BK101.out 4
              go_wp2_with (first | ((with_reducible refine gate_callee (f := 18) rfl ?_); refine goesL_ (some 32) rfl rfl Try.func18 (by kernel_rfl) rfl #[.agg #[.string a0_0, .string a0_1, .string a0_2, .slice A0_3 l0_3.length c0_3, .slice A0_4 l0_4.length c0_4]] rfl (by (try simp only [List.map_toArray, List.map_cons, List.map_nil]); first | done | rfl | (simp only [List.length_drop, List.length_take]; rfl)) ?_; (with_reducible refine (elem_PutEdge.calls kj1 a0_0 a0_1 a0_2 _ _ l0_3 _ _ l0_4 t104 t105 _ ?side1 ?side2 ?side3 ?side4 A16.out).mono ?_); (case side1 => repeat (first | exact (Kd.C_below HR0_3.out HB.out) | (with_reducible refine Kd.C_alloc ?_ _) | (with_reducible refine Kd.C_drewN ?_ _) | (with_reducible refine Kd.C_drew ?_))); (case side2 => exact HC0_3.out); (case side3 => repeat (first | exact (Kd.C_below HR0_4.out HB.out) | (with_reducible refine Kd.C_alloc ?_ _) | (with_reducible refine Kd.C_drewN ?_ _) | (with_reducible refine Kd.C_drew ?_))); (case side4 => exact HC0_4.out); rintro e w25 ⟨rfl, hb⟩; refine ⟨_, rfl, ?_⟩; have n0_ := Aside0.mk (blk_below (g := gb101) (o := .cells #[.string a0_0, .string a0_1, .string a0_2, .slice A0_3 l0_3.length c0_3, .slice A0_4 l0_4.length c0_4] 38 (0, 0)) (by (with_reducible repeat (first | refine blk_drewN ?_ _ | refine blk_drew ?_ | refine blk_alloc ?_ _)); exact BK101.out) hb); have n1_ := Aside0.mk (below_step (by repeat (first | (with_reducible first | exact HB.out | apply below_alloc | apply pw_below_drewN | apply below_drew1 | refine below_set ?_ GE101.out) | exact HB.out)) hb); clear BK101; clear HB; have BK101 := n0_; have HB := n1_; clear n0_ n1_; (try clear hb); (try clear hb2); (try clear hk); (try clear hi); have hcz26_0 : w25.cell? ⟨gb101, 0, none⟩ = some (.string a0_0) := (blk_cell BK101.out 0).trans rfl; have hcz26_1 : w25.cell? ⟨gb101, 1, none⟩ = some (.string a0_1) := (blk_cell BK101.out 1).trans rfl; have hcz26_2 : w25.cell? ⟨gb101, 2, none⟩ = some (.string a0_2) := (blk_cell BK101.out 2).trans rfl; have hcz26_3 : w25.cell? ⟨gb101, 3, none⟩ = some (.slice A0_3 l0_3.length c0_3) := (blk_cell BK101.out 3).trans rfl; have hcz26_4 : w25.cell? ⟨gb101, 4, none⟩ = some (.slice A0_4 l0_4.length c0_4) := (blk_cell BK101.out 4).trans rfl; have hfz26_0 := blk_frozen BK101.out 0; have hfz26_1 := blk_frozen BK101.out 1; have hfz26_2 := blk_frozen BK101.out 2; have hfz26_3 := blk_frozen BK101.out 3; have hfz26_4 := blk_frozen BK101.out 4) | ((with_reducible refine gate_callee (f := 19) rfl ?_); refine goesL_ (some 37) rfl rfl Try.func19 (by kernel_rfl) rfl #[.agg #[.string a0_0, .string a0_1, .string a0_2, .slice A0_3 l0_3.length c0_3, .slice A0_4 l0_4.length c0_4]] rfl (by (try simp only [List.map_toArray, List.map_cons, List.map_nil]); first | done | rfl | (simp only [List.length_drop, List.length_take]; rfl)) ?_; (with_reducible refine (pleachref25_PutEdge.calls kj1 a0_0 a0_1 a0_2 _ _ l0_3 _ _ l0_4 t106 _ ?side1 ?side2 ?side3 ?side4 A17.out).mono ?_); (case side1 => repeat (first | exact (Kd.C_below HR0_3.out HB.out) | (with_reducible refine Kd.C_alloc ?_ _) | (with_reducible refine Kd.C_drewN ?_ _) | (with_reducible refine Kd.C_drew ?_))); (case side2 => exact HC0_3.out); (case side3 => repeat (first | exact (Kd.C_below HR0_4.out HB.out) | (with_reducible refine Kd.C_alloc ?_ _) | (with_reducible refine Kd.C_drewN ?_ _) | (with_reducible refine Kd.C_drew ?_))); (case side4 => exact HC0_4.out); rintro e w27 ⟨rfl, hb⟩; refine ⟨_, rfl, ?_⟩; have n0_ := Aside0.mk (blk_below (g := gb101) (o := .cells #[.string a0_0, .string a0_1, .string a0_2, .slice A0_3 l0_3.length c0_3, .slice A0_4 l0_4.length c0_4] 38 (0, 0)) (by (with_reducible repeat (first | refine blk_drewN ?_ _ | refine blk_drew ?_ | refine blk_alloc ?_ _)); exact BK101.out) hb); have n1_ := Aside0.mk (below_step (by repeat (first | (with_reducible first | exact HB.out | apply below_alloc | apply pw_below_drewN | apply below_drew1 | refine below_set ?_ GE101.out) | exact HB.out)) hb); clear BK101; clear HB; have BK101 := n0_; have HB := n1_; clear n0_ n1_; (try clear hb); (try clear hb2); (try clear hk); (try clear hi); have hcz28_0 : w27.cell? ⟨gb101, 0, none⟩ = some (.string a0_0) := (blk_cell BK101.out 0).trans rfl; have hcz28_1 : w27.cell? ⟨gb101, 1, none⟩ = some (.string a0_1) := (blk_cell BK101.out 1).trans rfl; have hcz28_2 : w27.cell? ⟨gb101, 2, none⟩ = some (.string a0_2) := (blk_cell BK101.out 2).trans rfl; have hcz28_3 : w27.cell? ⟨gb101, 3, none⟩ = some (.slice A0_3 l0_3.length c0_3) := (blk_cell BK101.out 3).trans rfl; have hcz28_4 : w27.cell? ⟨gb101, 4, none⟩ = some (.slice A0_4 l0_4.length c0_4) := (blk_cell BK101.out 4).trans rfl; have hfz28_0 := blk_frozen BK101.out 0; have hfz28_1 := blk_frozen BK101.out 1; have hfz28_2 := blk_frozen BK101.out 2; have hfz28_3 := blk_frozen BK101.out 3; have hfz28_4 := blk_frozen BK101.out 4) | (go_at_call 20; (with_reducible refine (pleachref25_Edge.calls kj1 a0_0 a0_1 a0_2 _ _ l0_3 _ _ l0_4 t107 _ ?side1 ?side2 ?side3 ?side4 A19.out).mono ?_); (case side1 => repeat (first | exact (Kd.C_below HR0_3.out HB.out) | (with_reducible refine Kd.C_alloc ?_ _) | (with_reducible refine Kd.C_drewN ?_ _) | (with_reducible refine Kd.C_drew ?_))); (case side2 => exact HC0_3.out); (case side3 => repeat (first | exact (Kd.C_below HR0_4.out HB.out) | (with_reducible refine Kd.C_alloc ?_ _) | (with_reducible refine Kd.C_drewN ?_ _) | (with_reducible refine Kd.C_drew ?_))); (case side4 => exact HC0_4.out); rintro e w29 ⟨rfl, hb⟩; have n0_ := Aside0.mk (blk_below (g := gb101) (o := .cells #[.string a0_0, .string a0_1, .string a0_2, .slice A0_3 l0_3.length c0_3, .slice A0_4 l0_4.length c0_4] 38 (0, 0)) (by (with_reducible repeat (first | refine blk_drewN ?_ _ | refine blk_drew ?_ | refine blk_alloc ?_ _)); exact BK101.out) hb); have n1_ := Aside0.mk (below_step (by repeat (first | (with_reducible first | exact HB.out | apply below_alloc | apply pw_below_drewN | apply below_drew1 | refine below_set ?_ GE101.out) | exact HB.out)) hb); clear BK101; clear HB; have BK101 := n0_; have HB := n1_; clear n0_ n1_; (try clear hb); (try clear hb2); (try clear hk); (try clear hi); have hcz30_0 : w29.cell? ⟨gb101, 0, none⟩ = some (.string a0_0) := (blk_cell BK101.out 0).trans rfl; have hcz30_1 : w29.cell? ⟨gb101, 1, none⟩ = some (.string a0_1) := (blk_cell BK101.out 1).trans rfl; have hcz30_2 : w29.cell? ⟨gb101, 2, none⟩ = some (.string a0_2) := (blk_cell BK101.out 2).trans rfl; have hcz30_3 : w29.cell? ⟨gb101, 3, none⟩ = some (.slice A0_3 l0_3.length c0_3) := (blk_cell BK101.out 3).trans rfl; have hcz30_4 : w29.cell? ⟨gb101, 4, none⟩ = some (.slice A0_4 l0_4.length c0_4) := (blk_cell BK101.out 4).trans rfl; have hfz30_0 := blk_frozen BK101.out 0; have hfz30_1 := blk_frozen BK101.out 1; have hfz30_2 := blk_frozen BK101.out 2; have hfz30_3 := blk_frozen BK101.out 3; have hfz30_4 := blk_frozen BK101.out 4) | (go_at_call 21; (with_reducible refine (elem_CheckEdge.calls kj1 a0_0 a0_1 a0_2 _ _ l0_3 _ _ l0_4 t108 _ ?side1 ?side2 ?side3 ?side4 A21.out).mono ?_); (case side1 => repeat (first | exact (Kd.C_below HR0_3.out HB.out) | (with_reducible refine Kd.C_alloc ?_ _) | (with_reducible refine Kd.C_drewN ?_ _) | (with_reducible refine Kd.C_drew ?_))); (case side2 => exact HC0_3.out); (case side3 => repeat (first | exact (Kd.C_below HR0_4.out HB.out) | (with_reducible refine Kd.C_alloc ?_ _) | (with_reducible refine Kd.C_drewN ?_ _) | (with_reducible refine Kd.C_drew ?_))); (case side4 => exact HC0_4.out); rintro e w31 ⟨rfl, hb⟩; have n0_ := Aside0.mk (blk_below (g := gb101) (o := .cells #[.string a0_0, .string a0_1, .string a0_2, .slice A0_3 l0_3.length c0_3, .slice A0_4 l0_4.length c0_4] 38 (0, 0)) (by (with_reducible repeat (first | refine blk_drewN ?_ _ | refine blk_drew ?_ | refine blk_alloc ?_ _)); exact BK101.out) hb); have n1_ := Aside0.mk (below_step (by repeat (first | (with_reducible first | exact HB.out | apply below_alloc | apply pw_below_drewN | apply below_drew1 | refine below_set ?_ GE101.out) | exact HB.out)) hb); clear BK101; clear HB; have BK101 := n0_; have HB := n1_; clear n0_ n1_; (try clear hb); (try clear hb2); (try clear hk); (try clear hi)) | (go_at_call 11; (with_reducible refine (pleachlaw25_awake.calls kj1  t109 _ A23.out).mono ?_); rintro e w32 ⟨rfl, hb⟩; have n0_ := Aside0.mk (blk_below (g := gb101) (o := .cells #[.string a0_0, .string a0_1, .string a0_2, .slice A0_3 l0_3.length c0_3, .slice A0_4 l0_4.length c0_4] 38 (0, 0)) (by (with_reducible repeat (first | refine blk_drewN ?_ _ | refine blk_drew ?_ | refine blk_alloc ?_ _)); exact BK101.out) hb); have n1_ := Aside0.mk (below_step (by repeat (first | (with_reducible first | exact HB.out | apply below_alloc | apply pw_below_drewN | apply below_drew1 | refine below_set ?_ GE101.out) | exact HB.out)) hb); clear BK101; clear HB; have BK101 := n0_; have HB := n1_; clear n0_ n1_; (try clear hb); (try clear hb2); (try clear hk); (try clear hi)))
              go_ret
              exact ⟨by first | rfl | (simp [errW_none, errW_some] <;> rfl) | (simp [*, errW_none, errW_some] <;> rfl), by repeat (first | (with_reducible first | exact HB.out | apply below_alloc | apply pw_below_drewN | apply below_drew1 | refine below_set ?_ GE101.out) | exact HB.out)⟩
            · rw [if_neg c22] at H
              have c22b0 : (t108 == t105) = false := beq_eq_false_iff_ne.mpr c22
              have c22b1 : (t108 != t105) = true := bne_iff_ne.mpr c22
              obtain rfl := Option.some.inj H
              have hcz33_0 : wc.cell? ⟨gb101, 0, none⟩ = some (.string a0_0) := (blk_cell BK101.out 0).trans rfl
              have hcz33_1 : wc.cell? ⟨gb101, 1, none⟩ = some (.string a0_1) := (blk_cell BK101.out 1).trans rfl
              have hcz33_2 : wc.cell? ⟨gb101, 2, none⟩ = some (.string a0_2) := (blk_cell BK101.out 2).trans rfl
              have hcz33_3 : wc.cell? ⟨gb101, 3, none⟩ = some (.slice A0_3 l0_3.length c0_3) := (blk_cell BK101.out 3).trans rfl
              have hcz33_4 : wc.cell? ⟨gb101, 4, none⟩ = some (.slice A0_4 l0_4.length c0_4) := (blk_cell BK101.out 4).trans rfl
              have hfz33_0 := blk_frozen BK101.out 0
              have hfz33_1 := blk_frozen BK101.out 1
              have hfz33_2 := blk_frozen BK101.out 2
              have hfz33_3 := blk_frozen BK101.out 3
              have hfz33_4 := blk_frozen BK101.out 4
              go_wp2_with (first | ((with_reducible refine gate_callee (f := 18) rfl ?_); refine goesL_ (some 32) rfl rfl Try.func18 (by kernel_rfl) rfl #[.agg #[.string a0_0, .string a0_1, .string a0_2, .slice A0_3 l0_3.length c0_3, .slice A0_4 l0_4.length c0_4]] rfl (by (try simp only [List.map_toArray, List.map_cons, List.map_nil]); first | done | rfl | (simp only [List.length_drop, List.length_take]; rfl)) ?_; (with_reducible refine (elem_PutEdge.calls kj1 a0_0 a0_1 a0_2 _ _ l0_3 _ _ l0_4 t104 t105 _ ?side1 ?side2 ?side3 ?side4 A16.out).mono ?_); (case side1 => repeat (first | exact (Kd.C_below HR0_3.out HB.out) | (with_reducible refine Kd.C_alloc ?_ _) | (with_reducible refine Kd.C_drewN ?_ _) | (with_reducible refine Kd.C_drew ?_))); (case side2 => exact HC0_3.out); (case side3 => repeat (first | exact (Kd.C_below HR0_4.out HB.out) | (with_reducible refine Kd.C_alloc ?_ _) | (with_reducible refine Kd.C_drewN ?_ _) | (with_reducible refine Kd.C_drew ?_))); (case side4 => exact HC0_4.out); rintro e w34 ⟨rfl, hb⟩; refine ⟨_, rfl, ?_⟩; have n0_ := Aside0.mk (blk_below (g := gb101) (o := .cells #[.string a0_0, .string a0_1, .string a0_2, .slice A0_3 l0_3.length c0_3, .slice A0_4 l0_4.length c0_4] 38 (0, 0)) (by (with_reducible repeat (first | refine blk_drewN ?_ _ | refine blk_drew ?_ | refine blk_alloc ?_ _)); exact BK101.out) hb); have n1_ := Aside0.mk (below_step (by repeat (first | (with_reducible first | exact HB.out | apply below_alloc | apply pw_below_drewN | apply below_drew1 | refine below_set ?_ GE101.out) | exact HB.out)) hb); clear BK101; clear HB; have BK101 := n0_; have HB := n1_; clear n0_ n1_; (try clear hb); (try clear hb2); (try clear hk); (try clear hi); have hcz35_0 : w34.cell? ⟨gb101, 0, none⟩ = some (.string a0_0) := (blk_cell BK101.out 0).trans rfl; have hcz35_1 : w34.cell? ⟨gb101, 1, none⟩ = some (.string a0_1) := (blk_cell BK101.out 1).trans rfl; have hcz35_2 : w34.cell? ⟨gb101, 2, none⟩ = some (.string a0_2) := (blk_cell BK101.out 2).trans rfl; have hcz35_3 : w34.cell? ⟨gb101, 3, none⟩ = some (.slice A0_3 l0_3.length c0_3) := (blk_cell BK101.out 3).trans rfl; have hcz35_4 : w34.cell? ⟨gb101, 4, none⟩ = some (.slice A0_4 l0_4.length c0_4) := (blk_cell BK101.out 4).trans rfl; have hfz35_0 := blk_frozen BK101.out 0; have hfz35_1 := blk_frozen BK101.out 1; have hfz35_2 := blk_frozen BK101.out 2; have hfz35_3 := blk_frozen BK101.out 3; have hfz35_4 := blk_frozen BK101.out 4) | ((with_reducible refine gate_callee (f := 19) rfl ?_); refine goesL_ (some 37) rfl rfl Try.func19 (by kernel_rfl) rfl #[.agg #[.string a0_0, .string a0_1, .string a0_2, .slice A0_3 l0_3.length c0_3, .slice A0_4 l0_4.length c0_4]] rfl (by (try simp only [List.map_toArray, List.map_cons, List.map_nil]); first | done | rfl | (simp only [List.length_drop, List.length_take]; rfl)) ?_; (with_reducible refine (pleachref25_PutEdge.calls kj1 a0_0 a0_1 a0_2 _ _ l0_3 _ _ l0_4 t106 _ ?side1 ?side2 ?side3 ?side4 A17.out).mono ?_); (case side1 => repeat (first | exact (Kd.C_below HR0_3.out HB.out) | (with_reducible refine Kd.C_alloc ?_ _) | (with_reducible refine Kd.C_drewN ?_ _) | (with_reducible refine Kd.C_drew ?_))); (case side2 => exact HC0_3.out); (case side3 => repeat (first | exact (Kd.C_below HR0_4.out HB.out) | (with_reducible refine Kd.C_alloc ?_ _) | (with_reducible refine Kd.C_drewN ?_ _) | (with_reducible refine Kd.C_drew ?_))); (case side4 => exact HC0_4.out); rintro e w36 ⟨rfl, hb⟩; refine ⟨_, rfl, ?_⟩; have n0_ := Aside0.mk (blk_below (g := gb101) (o := .cells #[.string a0_0, .string a0_1, .string a0_2, .slice A0_3 l0_3.length c0_3, .slice A0_4 l0_4.length c0_4] 38 (0, 0)) (by (with_reducible repeat (first | refine blk_drewN ?_ _ | refine blk_drew ?_ | refine blk_alloc ?_ _)); exact BK101.out) hb); have n1_ := Aside0.mk (below_step (by repeat (first | (with_reducible first | exact HB.out | apply below_alloc | apply pw_below_drewN | apply below_drew1 | refine below_set ?_ GE101.out) | exact HB.out)) hb); clear BK101; clear HB; have BK101 := n0_; have HB := n1_; clear n0_ n1_; (try clear hb); (try clear hb2); (try clear hk); (try clear hi); have hcz37_0 : w36.cell? ⟨gb101, 0, none⟩ = some (.string a0_0) := (blk_cell BK101.out 0).trans rfl; have hcz37_1 : w36.cell? ⟨gb101, 1, none⟩ = some (.string a0_1) := (blk_cell BK101.out 1).trans rfl; have hcz37_2 : w36.cell? ⟨gb101, 2, none⟩ = some (.string a0_2) := (blk_cell BK101.out 2).trans rfl; have hcz37_3 : w36.cell? ⟨gb101, 3, none⟩ = some (.slice A0_3 l0_3.length c0_3) := (blk_cell BK101.out 3).trans rfl; have hcz37_4 : w36.cell? ⟨gb101, 4, none⟩ = some (.slice A0_4 l0_4.length c0_4) := (blk_cell BK101.out 4).trans rfl; have hfz37_0 := blk_frozen BK101.out 0; have hfz37_1 := blk_frozen BK101.out 1; have hfz37_2 := blk_frozen BK101.out 2; have hfz37_3 := blk_frozen BK101.out 3; have hfz37_4 := blk_frozen BK101.out 4) | (go_at_call 20; (with_reducible refine (pleachref25_Edge.calls kj1 a0_0 a0_1 a0_2 _ _ l0_3 _ _ l0_4 t107 _ ?side1 ?side2 ?side3 ?side4 A19.out).mono ?_); (case side1 => repeat (first | exact (Kd.C_below HR0_3.out HB.out) | (with_reducible refine Kd.C_alloc ?_ _) | (with_reducible refine Kd.C_drewN ?_ _) | (with_reducible refine Kd.C_drew ?_))); (case side2 => exact HC0_3.out); (case side3 => repeat (first | exact (Kd.C_below HR0_4.out HB.out) | (with_reducible refine Kd.C_alloc ?_ _) | (with_reducible refine Kd.C_drewN ?_ _) | (with_reducible refine Kd.C_drew ?_))); (case side4 => exact HC0_4.out); rintro e w38 ⟨rfl, hb⟩; have n0_ := Aside0.mk (blk_below (g := gb101) (o := .cells #[.string a0_0, .string a0_1, .string a0_2, .slice A0_3 l0_3.length c0_3, .slice A0_4 l0_4.length c0_4] 38 (0, 0)) (by (with_reducible repeat (first | refine blk_drewN ?_ _ | refine blk_drew ?_ | refine blk_alloc ?_ _)); exact BK101.out) hb); have n1_ := Aside0.mk (below_step (by repeat (first | (with_reducible first | exact HB.out | apply below_alloc | apply pw_below_drewN | apply below_drew1 | refine below_set ?_ GE101.out) | exact HB.out)) hb); clear BK101; clear HB; have BK101 := n0_; have HB := n1_; clear n0_ n1_; (try clear hb); (try clear hb2); (try clear hk); (try clear hi); have hcz39_0 : w38.cell? ⟨gb101, 0, none⟩ = some (.string a0_0) := (blk_cell BK101.out 0).trans rfl; have hcz39_1 : w38.cell? ⟨gb101, 1, none⟩ = some (.string a0_1) := (blk_cell BK101.out 1).trans rfl; have hcz39_2 : w38.cell? ⟨gb101, 2, none⟩ = some (.string a0_2) := (blk_cell BK101.out 2).trans rfl; have hcz39_3 : w38.cell? ⟨gb101, 3, none⟩ = some (.slice A0_3 l0_3.length c0_3) := (blk_cell BK101.out 3).trans rfl; have hcz39_4 : w38.cell? ⟨gb101, 4, none⟩ = some (.slice A0_4 l0_4.length c0_4) := (blk_cell BK101.out 4).trans rfl; have hfz39_0 := blk_frozen BK101.out 0; have hfz39_1 := blk_frozen BK101.out 1; have hfz39_2 := blk_frozen BK101.out 2; have hfz39_3 := blk_frozen BK101.out 3; have hfz39_4 := blk_frozen BK101.out 4) | (go_at_call 21; (with_reducible refine (elem_CheckEdge.calls kj1 a0_0 a0_1 a0_2 _ _ l0_3 _ _ l0_4 t108 _ ?side1 ?side2 ?side3 ?side4 A21.out).mono ?_); (case side1 => repeat (first | exact (Kd.C_below HR0_3.out HB.out) | (with_reducible refine Kd.C_alloc ?_ _) | (with_reducible refine Kd.C_drewN ?_ _) | (with_reducible refine Kd.C_drew ?_))); (case side2 => exact HC0_3.out); (case side3 => repeat (first | exact (Kd.C_below HR0_4.out HB.out) | (with_reducible refine Kd.C_alloc ?_ _) | (with_reducible refine Kd.C_drewN ?_ _) | (with_reducible refine Kd.C_drew ?_))); (case side4 => exact HC0_4.out); rintro e w40 ⟨rfl, hb⟩; have n0_ := Aside0.mk (blk_below (g := gb101) (o := .cells #[.string a0_0, .string a0_1, .string a0_2, .slice A0_3 l0_3.length c0_3, .slice A0_4 l0_4.length c0_4] 38 (0, 0)) (by (with_reducible repeat (first | refine blk_drewN ?_ _ | refine blk_drew ?_ | refine blk_alloc ?_ _)); exact BK101.out) hb); have n1_ := Aside0.mk (below_step (by repeat (first | (with_reducible first | exact HB.out | apply below_alloc | apply pw_below_drewN | apply below_drew1 | refine below_set ?_ GE101.out) | exact HB.out)) hb); clear BK101; clear HB; have BK101 := n0_; have HB := n1_; clear n0_ n1_; (try clear hb); (try clear hb2); (try clear hk); (try clear hi)))
              go_ret
              exact ⟨by first | rfl | (simp [errW_none, errW_some] <;> rfl) | (simp [*, errW_none, errW_some] <;> rfl), by repeat (first | (with_reducible first | exact HB.out | apply below_alloc | apply pw_below_drewN | apply below_drew1 | refine below_set ?_ GE101.out) | exact HB.out)⟩
          · rw [if_neg c20] at H
            have c20b0 : (t105 == t107) = false := beq_eq_false_iff_ne.mpr c20
            have c20b1 : (t105 != t107) = true := bne_iff_ne.mpr c20
            obtain rfl := Option.some.inj H
            have hcz41_0 : wc.cell? ⟨gb101, 0, none⟩ = some (.string a0_0) := (blk_cell BK101.out 0).trans rfl
            have hcz41_1 : wc.cell? ⟨gb101, 1, none⟩ = some (.string a0_1) := (blk_cell BK101.out 1).trans rfl
            have hcz41_2 : wc.cell? ⟨gb101, 2, none⟩ = some (.string a0_2) := (blk_cell BK101.out 2).trans rfl
            have hcz41_3 : wc.cell? ⟨gb101, 3, none⟩ = some (.slice A0_3 l0_3.length c0_3) := (blk_cell BK101.out 3).trans rfl
            have hcz41_4 : wc.cell? ⟨gb101, 4, none⟩ = some (.slice A0_4 l0_4.length c0_4) := (blk_cell BK101.out 4).trans rfl
            have hfz41_0 := blk_frozen BK101.out 0
            have hfz41_1 := blk_frozen BK101.out 1
            have hfz41_2 := blk_frozen BK101.out 2
            have hfz41_3 := blk_frozen BK101.out 3
            have hfz41_4 := blk_frozen BK101.out 4
            go_wp2_with (first | ((with_reducible refine gate_callee (f := 18) rfl ?_); refine goesL_ (some 32) rfl rfl Try.func18 (by kernel_rfl) rfl #[.agg #[.string a0_0, .string a0_1, .string a0_2, .slice A0_3 l0_3.length c0_3, .slice A0_4 l0_4.length c0_4]] rfl (by (try simp only [List.map_toArray, List.map_cons, List.map_nil]); first | done | rfl | (simp only [List.length_drop, List.length_take]; rfl)) ?_; (with_reducible refine (elem_PutEdge.calls kj1 a0_0 a0_1 a0_2 _ _ l0_3 _ _ l0_4 t104 t105 _ ?side1 ?side2 ?side3 ?side4 A16.out).mono ?_); (case side1 => repeat (first | exact (Kd.C_below HR0_3.out HB.out) | (with_reducible refine Kd.C_alloc ?_ _) | (with_reducible refine Kd.C_drewN ?_ _) | (with_reducible refine Kd.C_drew ?_))); (case side2 => exact HC0_3.out); (case side3 => repeat (first | exact (Kd.C_below HR0_4.out HB.out) | (with_reducible refine Kd.C_alloc ?_ _) | (with_reducible refine Kd.C_drewN ?_ _) | (with_reducible refine Kd.C_drew ?_))); (case side4 => exact HC0_4.out); rintro e w42 ⟨rfl, hb⟩; refine ⟨_, rfl, ?_⟩; have n0_ := Aside0.mk (blk_below (g := gb101) (o := .cells #[.string a0_0, .string a0_1, .string a0_2, .slice A0_3 l0_3.length c0_3, .slice A0_4 l0_4.length c0_4] 38 (0, 0)) (by (with_reducible repeat (first | refine blk_drewN ?_ _ | refine blk_drew ?_ | refine blk_alloc ?_ _)); exact BK101.out) hb); have n1_ := Aside0.mk (below_step (by repeat (first | (with_reducible first | exact HB.out | apply below_alloc | apply pw_below_drewN | apply below_drew1 | refine below_set ?_ GE101.out) | exact HB.out)) hb); clear BK101; clear HB; have BK101 := n0_; have HB := n1_; clear n0_ n1_; (try clear hb); (try clear hb2); (try clear hk); (try clear hi); have hcz43_0 : w42.cell? ⟨gb101, 0, none⟩ = some (.string a0_0) := (blk_cell BK101.out 0).trans rfl; have hcz43_1 : w42.cell? ⟨gb101, 1, none⟩ = some (.string a0_1) := (blk_cell BK101.out 1).trans rfl; have hcz43_2 : w42.cell? ⟨gb101, 2, none⟩ = some (.string a0_2) := (blk_cell BK101.out 2).trans rfl; have hcz43_3 : w42.cell? ⟨gb101, 3, none⟩ = some (.slice A0_3 l0_3.length c0_3) := (blk_cell BK101.out 3).trans rfl; have hcz43_4 : w42.cell? ⟨gb101, 4, none⟩ = some (.slice A0_4 l0_4.length c0_4) := (blk_cell BK101.out 4).trans rfl; have hfz43_0 := blk_frozen BK101.out 0; have hfz43_1 := blk_frozen BK101.out 1; have hfz43_2 := blk_frozen BK101.out 2; have hfz43_3 := blk_frozen BK101.out 3; have hfz43_4 := blk_frozen BK101.out 4) | ((with_reducible refine gate_callee (f := 19) rfl ?_); refine goesL_ (some 37) rfl rfl Try.func19 (by kernel_rfl) rfl #[.agg #[.string a0_0, .string a0_1, .string a0_2, .slice A0_3 l0_3.length c0_3, .slice A0_4 l0_4.length c0_4]] rfl (by (try simp only [List.map_toArray, List.map_cons, List.map_nil]); first | done | rfl | (simp only [List.length_drop, List.length_take]; rfl)) ?_; (with_reducible refine (pleachref25_PutEdge.calls kj1 a0_0 a0_1 a0_2 _ _ l0_3 _ _ l0_4 t106 _ ?side1 ?side2 ?side3 ?side4 A17.out).mono ?_); (case side1 => repeat (first | exact (Kd.C_below HR0_3.out HB.out) | (with_reducible refine Kd.C_alloc ?_ _) | (with_reducible refine Kd.C_drewN ?_ _) | (with_reducible refine Kd.C_drew ?_))); (case side2 => exact HC0_3.out); (case side3 => repeat (first | exact (Kd.C_below HR0_4.out HB.out) | (with_reducible refine Kd.C_alloc ?_ _) | (with_reducible refine Kd.C_drewN ?_ _) | (with_reducible refine Kd.C_drew ?_))); (case side4 => exact HC0_4.out); rintro e w44 ⟨rfl, hb⟩; refine ⟨_, rfl, ?_⟩; have n0_ := Aside0.mk (blk_below (g := gb101) (o := .cells #[.string a0_0, .string a0_1, .string a0_2, .slice A0_3 l0_3.length c0_3, .slice A0_4 l0_4.length c0_4] 38 (0, 0)) (by (with_reducible repeat (first | refine blk_drewN ?_ _ | refine blk_drew ?_ | refine blk_alloc ?_ _)); exact BK101.out) hb); have n1_ := Aside0.mk (below_step (by repeat (first | (with_reducible first | exact HB.out | apply below_alloc | apply pw_below_drewN | apply below_drew1 | refine below_set ?_ GE101.out) | exact HB.out)) hb); clear BK101; clear HB; have BK101 := n0_; have HB := n1_; clear n0_ n1_; (try clear hb); (try clear hb2); (try clear hk); (try clear hi); have hcz45_0 : w44.cell? ⟨gb101, 0, none⟩ = some (.string a0_0) := (blk_cell BK101.out 0).trans rfl; have hcz45_1 : w44.cell? ⟨gb101, 1, none⟩ = some (.string a0_1) := (blk_cell BK101.out 1).trans rfl; have hcz45_2 : w44.cell? ⟨gb101, 2, none⟩ = some (.string a0_2) := (blk_cell BK101.out 2).trans rfl; have hcz45_3 : w44.cell? ⟨gb101, 3, none⟩ = some (.slice A0_3 l0_3.length c0_3) := (blk_cell BK101.out 3).trans rfl; have hcz45_4 : w44.cell? ⟨gb101, 4, none⟩ = some (.slice A0_4 l0_4.length c0_4) := (blk_cell BK101.out 4).trans rfl; have hfz45_0 := blk_frozen BK101.out 0; have hfz45_1 := blk_frozen BK101.out 1; have hfz45_2 := blk_frozen BK101.out 2; have hfz45_3 := blk_frozen BK101.out 3; have hfz45_4 := blk_frozen BK101.out 4) | (go_at_call 20; (with_reducible refine (pleachref25_Edge.calls kj1 a0_0 a0_1 a0_2 _ _ l0_3 _ _ l0_4 t107 _ ?side1 ?side2 ?side3 ?side4 A19.out).mono ?_); (case side1 => repeat (first | exact (Kd.C_below HR0_3.out HB.out) | (with_reducible refine Kd.C_alloc ?_ _) | (with_reducible refine Kd.C_drewN ?_ _) | (with_reducible refine Kd.C_drew ?_))); (case side2 => exact HC0_3.out); (case side3 => repeat (first | exact (Kd.C_below HR0_4.out HB.out) | (with_reducible refine Kd.C_alloc ?_ _) | (with_reducible refine Kd.C_drewN ?_ _) | (with_reducible refine Kd.C_drew ?_))); (case side4 => exact HC0_4.out); rintro e w46 ⟨rfl, hb⟩; have n0_ := Aside0.mk (blk_below (g := gb101) (o := .cells #[.string a0_0, .string a0_1, .string a0_2, .slice A0_3 l0_3.length c0_3, .slice A0_4 l0_4.length c0_4] 38 (0, 0)) (by (with_reducible repeat (first | refine blk_drewN ?_ _ | refine blk_drew ?_ | refine blk_alloc ?_ _)); exact BK101.out) hb); have n1_ := Aside0.mk (below_step (by repeat (first | (with_reducible first | exact HB.out | apply below_alloc | apply pw_below_drewN | apply below_drew1 | refine below_set ?_ GE101.out) | exact HB.out)) hb); clear BK101; clear HB; have BK101 := n0_; have HB := n1_; clear n0_ n1_; (try clear hb); (try clear hb2); (try clear hk); (try clear hi)))
            go_ret
            exact ⟨by first | rfl | (simp [errW_none, errW_some] <;> rfl) | (simp [*, errW_none, errW_some] <;> rfl), by repeat (first | (with_reducible first | exact HB.out | apply below_alloc | apply pw_below_drewN | apply below_drew1 | refine below_set ?_ GE101.out) | exact HB.out)⟩
        · rw [if_neg c18] at H
          have c18b0 : (t104.toList == t106.toList) = false := beq_eq_false_iff_ne.mpr c18
          have c18b1 : (t104.toList != t106.toList) = true := bne_iff_ne.mpr c18
          obtain rfl := Option.some.inj H
          have hcz47_0 : wc.cell? ⟨gb101, 0, none⟩ = some (.string a0_0) := (blk_cell BK101.out 0).trans rfl
          have hcz47_1 : wc.cell? ⟨gb101, 1, none⟩ = some (.string a0_1) := (blk_cell BK101.out 1).trans rfl
          have hcz47_2 : wc.cell? ⟨gb101, 2, none⟩ = some (.string a0_2) := (blk_cell BK101.out 2).trans rfl
          have hcz47_3 : wc.cell? ⟨gb101, 3, none⟩ = some (.slice A0_3 l0_3.length c0_3) := (blk_cell BK101.out 3).trans rfl
          have hcz47_4 : wc.cell? ⟨gb101, 4, none⟩ = some (.slice A0_4 l0_4.length c0_4) := (blk_cell BK101.out 4).trans rfl
          have hfz47_0 := blk_frozen BK101.out 0
          have hfz47_1 := blk_frozen BK101.out 1
          have hfz47_2 := blk_frozen BK101.out 2
          have hfz47_3 := blk_frozen BK101.out 3
          have hfz47_4 := blk_frozen BK101.out 4
          go_wp2_with (first | ((with_reducible refine gate_callee (f := 18) rfl ?_); refine goesL_ (some 32) rfl rfl Try.func18 (by kernel_rfl) rfl #[.agg #[.string a0_0, .string a0_1, .string a0_2, .slice A0_3 l0_3.length c0_3, .slice A0_4 l0_4.length c0_4]] rfl (by (try simp only [List.map_toArray, List.map_cons, List.map_nil]); first | done | rfl | (simp only [List.length_drop, List.length_take]; rfl)) ?_; (with_reducible refine (elem_PutEdge.calls kj1 a0_0 a0_1 a0_2 _ _ l0_3 _ _ l0_4 t104 t105 _ ?side1 ?side2 ?side3 ?side4 A16.out).mono ?_); (case side1 => repeat (first | exact (Kd.C_below HR0_3.out HB.out) | (with_reducible refine Kd.C_alloc ?_ _) | (with_reducible refine Kd.C_drewN ?_ _) | (with_reducible refine Kd.C_drew ?_))); (case side2 => exact HC0_3.out); (case side3 => repeat (first | exact (Kd.C_below HR0_4.out HB.out) | (with_reducible refine Kd.C_alloc ?_ _) | (with_reducible refine Kd.C_drewN ?_ _) | (with_reducible refine Kd.C_drew ?_))); (case side4 => exact HC0_4.out); rintro e w48 ⟨rfl, hb⟩; refine ⟨_, rfl, ?_⟩; have n0_ := Aside0.mk (blk_below (g := gb101) (o := .cells #[.string a0_0, .string a0_1, .string a0_2, .slice A0_3 l0_3.length c0_3, .slice A0_4 l0_4.length c0_4] 38 (0, 0)) (by (with_reducible repeat (first | refine blk_drewN ?_ _ | refine blk_drew ?_ | refine blk_alloc ?_ _)); exact BK101.out) hb); have n1_ := Aside0.mk (below_step (by repeat (first | (with_reducible first | exact HB.out | apply below_alloc | apply pw_below_drewN | apply below_drew1 | refine below_set ?_ GE101.out) | exact HB.out)) hb); clear BK101; clear HB; have BK101 := n0_; have HB := n1_; clear n0_ n1_; (try clear hb); (try clear hb2); (try clear hk); (try clear hi); have hcz49_0 : w48.cell? ⟨gb101, 0, none⟩ = some (.string a0_0) := (blk_cell BK101.out 0).trans rfl; have hcz49_1 : w48.cell? ⟨gb101, 1, none⟩ = some (.string a0_1) := (blk_cell BK101.out 1).trans rfl; have hcz49_2 : w48.cell? ⟨gb101, 2, none⟩ = some (.string a0_2) := (blk_cell BK101.out 2).trans rfl; have hcz49_3 : w48.cell? ⟨gb101, 3, none⟩ = some (.slice A0_3 l0_3.length c0_3) := (blk_cell BK101.out 3).trans rfl; have hcz49_4 : w48.cell? ⟨gb101, 4, none⟩ = some (.slice A0_4 l0_4.length c0_4) := (blk_cell BK101.out 4).trans rfl; have hfz49_0 := blk_frozen BK101.out 0; have hfz49_1 := blk_frozen BK101.out 1; have hfz49_2 := blk_frozen BK101.out 2; have hfz49_3 := blk_frozen BK101.out 3; have hfz49_4 := blk_frozen BK101.out 4) | ((with_reducible refine gate_callee (f := 19) rfl ?_); refine goesL_ (some 37) rfl rfl Try.func19 (by kernel_rfl) rfl #[.agg #[.string a0_0, .string a0_1, .string a0_2, .slice A0_3 l0_3.length c0_3, .slice A0_4 l0_4.length c0_4]] rfl (by (try simp only [List.map_toArray, List.map_cons, List.map_nil]); first | done | rfl | (simp only [List.length_drop, List.length_take]; rfl)) ?_; (with_reducible refine (pleachref25_PutEdge.calls kj1 a0_0 a0_1 a0_2 _ _ l0_3 _ _ l0_4 t106 _ ?side1 ?side2 ?side3 ?side4 A17.out).mono ?_); (case side1 => repeat (first | exact (Kd.C_below HR0_3.out HB.out) | (with_reducible refine Kd.C_alloc ?_ _) | (with_reducible refine Kd.C_drewN ?_ _) | (with_reducible refine Kd.C_drew ?_))); (case side2 => exact HC0_3.out); (case side3 => repeat (first | exact (Kd.C_below HR0_4.out HB.out) | (with_reducible refine Kd.C_alloc ?_ _) | (with_reducible refine Kd.C_drewN ?_ _) | (with_reducible refine Kd.C_drew ?_))); (case side4 => exact HC0_4.out); rintro e w50 ⟨rfl, hb⟩; refine ⟨_, rfl, ?_⟩; have n0_ := Aside0.mk (blk_below (g := gb101) (o := .cells #[.string a0_0, .string a0_1, .string a0_2, .slice A0_3 l0_3.length c0_3, .slice A0_4 l0_4.length c0_4] 38 (0, 0)) (by (with_reducible repeat (first | refine blk_drewN ?_ _ | refine blk_drew ?_ | refine blk_alloc ?_ _)); exact BK101.out) hb); have n1_ := Aside0.mk (below_step (by repeat (first | (with_reducible first | exact HB.out | apply below_alloc | apply pw_below_drewN | apply below_drew1 | refine below_set ?_ GE101.out) | exact HB.out)) hb); clear BK101; clear HB; have BK101 := n0_; have HB := n1_; clear n0_ n1_; (try clear hb); (try clear hb2); (try clear hk); (try clear hi)))
          go_ret
          exact ⟨by first | rfl | (simp [errW_none, errW_some] <;> rfl) | (simp [*, errW_none, errW_some] <;> rfl), by repeat (first | (with_reducible first | exact HB.out | apply below_alloc | apply pw_below_drewN | apply below_drew1 | refine below_set ?_ GE101.out) | exact HB.out)⟩

end Go.Proofs.Ytmnadajjgnniaaa.MA
end
section
namespace Go.Proofs.Ytmnadajjgnniaaa.MA
open Go.RowKit Go.Proofs.YtmnadajjgnniaaaW.PrintWords Go.Proofs.Ytmnadajjgnniaaa.HOpen
def pleachlaw25_ElemEdges.Pure : Prop := ∀ (x0 : S38), G38 x0 → ∃ k, pleachlaw25_ElemEdges.f k x0.f0 x0.f1 x0.f2 x0.f3 x0.f4 = some true
end Go.Proofs.Ytmnadajjgnniaaa.MA
end
section
namespace Go.Proofs.Ytmnadajjgnniaaa.MA
open Go.RowKit Go.Proofs.YtmnadajjgnniaaaW.PrintWords Go.Proofs.YtmnadajjgnniaaaW.PrintLast Go.Proofs.YtmnadajjgnniaaaW.PrintMore
attribute [local go_sem] max2_int min2_int max_two min_two max_three min_three max_four min_four   -- for this text's walks alone
set_option linter.unusedVariables false
set_option linter.unusedSimpArgs false

def pleachref25_Node.f (k : Nat) (a0_0 : ByteArray) (l0_1 : List ByteArray) (l0_2 : List (S98)) : Option (Int) := (pleachref05_Is.f k a0_0).bind fun t102 => (if t102 = true then ((pleachref25_rest.f k l0_1 l0_2).bind fun t103 => (some t103)) else (some 2))
theorem pleachref25_Node.mono : ∀ a0 a1 a2 k, LeO (pleachref25_Node.f k a0 a1 a2) (pleachref25_Node.f (k + 1) a0 a1 a2) := by
  intro a0 a1 a2 k
  unfold pleachref25_Node.f
  repeat' first
      | (with_reducible exact pleachref05_Is.mono _ _)
      | (with_reducible exact pleachref25_rest.mono _ _ _)
      | (with_reducible exact LeO.refl _)
      | (with_reducible exact LeO.none _)
      | (with_reducible refine LeO.ite ?_ ?_)
      | (with_reducible refine LeO.bind ?_ (fun _ => ?_))
      | exact pleachref05_Is.mono _ _
      | exact pleachref25_rest.mono _ _ _
      | exact LeO.none _
      | refine LeO.ite ?_ ?_
      | refine LeO.bind ?_ (fun _ => ?_)
set_option maxHeartbeats 8000000 in
set_option maxRecDepth 100000 in
theorem pleachref25_Node.calls (k : Nat) (a0_0 : ByteArray) (A0_1 : Option Addr) (c0_1 : Nat) (l0_1 : List ByteArray) (A0_2 : Option Addr) (c0_2 : Nat) (l0_2 : List (S98)) (r : Int) (w : World) (hr0_1 : Kd.C Kd.string w A0_1 l0_1.length l0_1) (hc0_1 : l0_1.length ≤ c0_1) (hr0_2 : Kd.C k98 w A0_2 l0_2.length l0_2) (hc0_2 : l0_2.length ≤ c0_2) (h : pleachref25_Node.f k a0_0 l0_1 l0_2 = some r) :
    Calls Try.prog 14 #[.agg #[.string a0_0, .slice A0_1 l0_1.length c0_1, .slice A0_2 l0_2.length c0_2]] w fun e w' => e = .returned (.int .i64 r) ∧ Below w.heap.size w w' := by
  have hu25 := Try.underlying25
  have HR0_1 := Aside0.mk hr0_1
  have HC0_1 := Aside0.mk hc0_1
  clear hr0_1 hc0_1
  have HR0_2 := Aside0.mk hr0_2
  have HC0_2 := Aside0.mk hc0_2
  clear hr0_2 hc0_2
  have HB := Aside0.mk (Below.refl w.heap.size w)
  have H : ((pleachref05_Is.f k a0_0).bind fun t102 => (if t102 = true then ((pleachref25_rest.f k l0_1 l0_2).bind fun t103 => (some t103)) else (some 2))) = some r := h
  clear h
  replace H := Option.bind_eq_some_iff.mp H
  obtain ⟨t102, A20, H⟩ := H
  replace H : (if t102 = true then ((pleachref25_rest.f k l0_1 l0_2).bind fun t103 => (some t103)) else (some 2)) = some r := H
  have A2 := Aside0.mk A20
  clear A20
  by_cases c3 : t102 = true
  · subst c3
    have H1 : ((pleachref25_rest.f k l0_1 l0_2).bind fun t103 => (some t103)) = some r := by rw [if_pos rfl] at H; exact H
    clear H
    have H := H1
    clear H1
    replace H := Option.bind_eq_some_iff.mp H
    obtain ⟨t103, A40, H⟩ := H
    replace H : (some t103) = some r := H
    have A4 := Aside0.mk A40
    clear A40
    obtain rfl := Option.some.inj H
    go_enter Try.func14, Try.ntmps14
    go_wp2_with (first | ((with_reducible refine gate_dst (N := 1) rfl ?_); refine box_event ?hg (N := 1) ?hd (cs := #[.string a0_0, .slice A0_1 l0_1.length c0_1, .slice A0_2 l0_2.length c0_2]) (t := 25) ?hr ?_; (case hd => rfl); (case hg => rfl); (case hr => first | (go_simp; done) | (go_simp; rfl)); intro gb101 hg w5 hbox hb; have n0_ := Aside0.mk (below_step (by repeat (first | (with_reducible first | exact HB.out | apply below_alloc | apply pw_below_drewN | apply below_drew1) | exact HB.out)) hb); have n1_ := Aside0.mk (hbox); have n2_ := Aside0.mk ((by rw [hg]; exact (below_size (by repeat (first | (with_reducible first | exact HB.out | apply below_alloc | apply pw_below_drewN | apply below_drew1) | exact HB.out))) : w.heap.size ≤ gb101)); have n3_ := Aside0.mk ((by rw [hg]; exact (below_size (by repeat (first | (with_reducible first | exact HB.out | apply below_alloc | apply pw_below_drewN | apply below_drew1) | exact HB.out))) : w.heap.size ≤ gb101)); clear HB; have HB := n0_; have BK101 := n1_; have GW101 := n2_; have GE101 := n3_; clear n0_ n1_ n2_ n3_; clear hb hbox hg; have hcz6_0 : w5.cell? ⟨gb101, 0, none⟩ = some (.string a0_0) := (blk_cell BK101.out 0).trans rfl; have hcz6_1 : w5.cell? ⟨gb101, 1, none⟩ = some (.slice A0_1 l0_1.length c0_1) := (blk_cell BK101.out 1).trans rfl; have hcz6_2 : w5.cell? ⟨gb101, 2, none⟩ = some (.slice A0_2 l0_2.length c0_2) := (blk_cell BK101.out 2).trans rfl; have hfz6_0 := blk_frozen BK101.out 0; have hfz6_1 := blk_frozen BK101.out 1; have hfz6_2 := blk_frozen BK101.out 2) | ((with_reducible refine gate_callee (f := 54) rfl ?_); refine goesL_ (some 5) rfl rfl Try.func54 (by kernel_rfl) rfl #[.string a0_0] rfl (by (try simp only [List.map_toArray, List.map_cons, List.map_nil]); first | done | rfl | (simp only [List.length_drop, List.length_take]; rfl)) ?_; (with_reducible refine (pleachref05_Is.calls k a0_0 true _ A2.out).mono ?_); rintro e w' ⟨rfl, ⟨nd, rfl⟩⟩; refine ⟨_, rfl, ?_⟩) | ((with_reducible refine gate_callee (f := 55) rfl ?_); refine goesL_ (some 11) rfl rfl Try.func55 (by kernel_rfl) rfl #[.slice A0_1 l0_1.length c0_1, .slice A0_2 l0_2.length c0_2] rfl (by (try simp only [List.map_toArray, List.map_cons, List.map_nil]); first | done | rfl | (simp only [List.length_drop, List.length_take]; rfl)) ?_; (with_reducible refine (pleachref25_rest.calls k _ _ l0_1 _ _ l0_2 t103 _ ?side1 ?side2 ?side3 ?side4 A4.out).mono ?_); (case side1 => repeat (first | exact (Kd.C_below HR0_1.out (by repeat (first | (with_reducible first | exact HB.out | apply below_alloc | apply pw_below_drewN | apply below_drew1 | refine below_set ?_ GE101.out) | exact HB.out))) | (with_reducible refine Kd.C_alloc ?_ _) | (with_reducible refine Kd.C_drewN ?_ _) | (with_reducible refine Kd.C_drew ?_))); (case side2 => exact HC0_1.out); (case side3 => repeat (first | exact (Kd.C_below HR0_2.out (by repeat (first | (with_reducible first | exact HB.out | apply below_alloc | apply pw_below_drewN | apply below_drew1 | refine below_set ?_ GE101.out) | exact HB.out))) | (with_reducible refine Kd.C_alloc ?_ _) | (with_reducible refine Kd.C_drewN ?_ _) | (with_reducible refine Kd.C_drew ?_))); (case side4 => exact HC0_2.out); rintro e w7 ⟨rfl, hb⟩; refine ⟨_, rfl, ?_⟩; have n0_ := Aside0.mk (blk_below (g := gb101) (o := .cells #[.string a0_0, .slice A0_1 l0_1.length c0_1, .slice A0_2 l0_2.length c0_2] 25 (0, 0)) (by (with_reducible repeat (first | refine blk_drewN ?_ _ | refine blk_drew ?_ | refine blk_alloc ?_ _)); exact BK101.out) hb); have n1_ := Aside0.mk (below_step (by repeat (first | (with_reducible first | exact HB.out | apply below_alloc | apply pw_below_drewN | apply below_drew1 | refine below_set ?_ GE101.out) | exact HB.out)) hb); clear BK101; clear HB; have BK101 := n0_; have HB := n1_; clear n0_ n1_; (try clear hb); (try clear hb2); (try clear hk); (try clear hi)))
    go_ret
    exact ⟨by first | rfl | (simp [errW_none, errW_some] <;> rfl) | (simp [*, errW_none, errW_some] <;> rfl), by repeat (first | (with_reducible first | exact HB.out | apply below_alloc | apply pw_below_drewN | apply below_drew1 | refine below_set ?_ GE101.out) | exact HB.out)⟩
  · replace c3 := Bool.eq_false_iff.mpr c3
    subst c3
    have H1 : (some 2) = some r := by rw [if_neg (show ¬ (false = true) by decide)] at H; exact H
    clear H
    have H := H1
    clear H1
    obtain rfl := Option.some.inj H
    go_enter Try.func14, Try.ntmps14
    go_wp2_with (first | ((with_reducible refine gate_dst (N := 1) rfl ?_); refine box_event ?hg (N := 1) ?hd (cs := #[.string a0_0, .slice A0_1 l0_1.length c0_1, .slice A0_2 l0_2.length c0_2]) (t := 25) ?hr ?_; (case hd => rfl); (case hg => rfl); (case hr => first | (go_simp; done) | (go_simp; rfl)); intro gb101 hg w8 hbox hb; have n0_ := Aside0.mk (below_step (by repeat (first | (with_reducible first | exact HB.out | apply below_alloc | apply pw_below_drewN | apply below_drew1) | exact HB.out)) hb); have n1_ := Aside0.mk (hbox); have n2_ := Aside0.mk ((by rw [hg]; exact (below_size (by repeat (first | (with_reducible first | exact HB.out | apply below_alloc | apply pw_below_drewN | apply below_drew1) | exact HB.out))) : w.heap.size ≤ gb101)); have n3_ := Aside0.mk ((by rw [hg]; exact (below_size (by repeat (first | (with_reducible first | exact HB.out | apply below_alloc | apply pw_below_drewN | apply below_drew1) | exact HB.out))) : w.heap.size ≤ gb101)); clear HB; have HB := n0_; have BK101 := n1_; have GW101 := n2_; have GE101 := n3_; clear n0_ n1_ n2_ n3_; clear hb hbox hg; have hcz9_0 : w8.cell? ⟨gb101, 0, none⟩ = some (.string a0_0) := (blk_cell BK101.out 0).trans rfl; have hcz9_1 : w8.cell? ⟨gb101, 1, none⟩ = some (.slice A0_1 l0_1.length c0_1) := (blk_cell BK101.out 1).trans rfl; have hcz9_2 : w8.cell? ⟨gb101, 2, none⟩ = some (.slice A0_2 l0_2.length c0_2) := (blk_cell BK101.out 2).trans rfl; have hfz9_0 := blk_frozen BK101.out 0; have hfz9_1 := blk_frozen BK101.out 1; have hfz9_2 := blk_frozen BK101.out 2) | ((with_reducible refine gate_callee (f := 54) rfl ?_); refine goesL_ (some 5) rfl rfl Try.func54 (by kernel_rfl) rfl #[.string a0_0] rfl (by (try simp only [List.map_toArray, List.map_cons, List.map_nil]); first | done | rfl | (simp only [List.length_drop, List.length_take]; rfl)) ?_; (with_reducible refine (pleachref05_Is.calls k a0_0 false _ A2.out).mono ?_); rintro e w' ⟨rfl, ⟨nd, rfl⟩⟩; refine ⟨_, rfl, ?_⟩))
    go_ret
    exact ⟨by first | rfl | (simp [errW_none, errW_some] <;> rfl) | (simp [*, errW_none, errW_some] <;> rfl), by repeat (first | (with_reducible first | exact HB.out | apply below_alloc | apply pw_below_drewN | apply below_drew1 | refine below_set ?_ GE101.out) | exact HB.out)⟩

end Go.Proofs.Ytmnadajjgnniaaa.MA
end
section
namespace Go.Proofs.Ytmnadajjgnniaaa.MA
open Go.RowKit Go.Proofs.YtmnadajjgnniaaaW.PrintWords Go.Proofs.YtmnadajjgnniaaaW.PrintLast Go.Proofs.YtmnadajjgnniaaaW.PrintMore
attribute [local go_sem] max2_int min2_int max_two min_two max_three min_three max_four min_four   -- for this text's walks alone
set_option linter.unusedVariables false
set_option linter.unusedSimpArgs false

def pleachref25_PutNode.f (k : Nat) (a0_0 : ByteArray) (l0_1 : List ByteArray) (l0_2 : List (S98)) : Option (ByteArray) := (pleachref25_Node.f k a0_0 l0_1 l0_2).bind fun t102 => (if t102 = 0 then ((pleachref25_put.f k l0_1 l0_2).bind fun t103 => (some t103)) else (some (⟨#[]⟩ : ByteArray)))
theorem pleachref25_PutNode.mono : ∀ a0 a1 a2 k, LeO (pleachref25_PutNode.f k a0 a1 a2) (pleachref25_PutNode.f (k + 1) a0 a1 a2) := by
  intro a0 a1 a2 k
  unfold pleachref25_PutNode.f
  repeat' first
      | (with_reducible exact pleachref25_Node.mono _ _ _ _)
      | (with_reducible exact pleachref25_put.mono _ _ _)
      | (with_reducible exact LeO.refl _)
      | (with_reducible exact LeO.none _)
      | (with_reducible refine LeO.ite ?_ ?_)
      | (with_reducible refine LeO.bind ?_ (fun _ => ?_))
      | exact pleachref25_Node.mono _ _ _ _
      | exact pleachref25_put.mono _ _ _
      | exact LeO.none _
      | refine LeO.ite ?_ ?_
      | refine LeO.bind ?_ (fun _ => ?_)
set_option maxHeartbeats 8000000 in
set_option maxRecDepth 100000 in
theorem pleachref25_PutNode.calls (k : Nat) (a0_0 : ByteArray) (A0_1 : Option Addr) (c0_1 : Nat) (l0_1 : List ByteArray) (A0_2 : Option Addr) (c0_2 : Nat) (l0_2 : List (S98)) (r : ByteArray) (w : World) (hr0_1 : Kd.C Kd.string w A0_1 l0_1.length l0_1) (hc0_1 : l0_1.length ≤ c0_1) (hr0_2 : Kd.C k98 w A0_2 l0_2.length l0_2) (hc0_2 : l0_2.length ≤ c0_2) (h : pleachref25_PutNode.f k a0_0 l0_1 l0_2 = some r) :
    Calls Try.prog 13 #[.agg #[.string a0_0, .slice A0_1 l0_1.length c0_1, .slice A0_2 l0_2.length c0_2]] w fun e w' => e = .returned (.string r) ∧ Below w.heap.size w w' := by
  have hu25 := Try.underlying25
  have HR0_1 := Aside0.mk hr0_1
  have HC0_1 := Aside0.mk hc0_1
  clear hr0_1 hc0_1
  have HR0_2 := Aside0.mk hr0_2
  have HC0_2 := Aside0.mk hc0_2
  clear hr0_2 hc0_2
  have HB := Aside0.mk (Below.refl w.heap.size w)
  have H : ((pleachref25_Node.f k a0_0 l0_1 l0_2).bind fun t102 => (if t102 = 0 then ((pleachref25_put.f k l0_1 l0_2).bind fun t103 => (some t103)) else (some (⟨#[]⟩ : ByteArray)))) = some r := h
  clear h
  replace H := Option.bind_eq_some_iff.mp H
  obtain ⟨t102, A20, H⟩ := H
  replace H : (if t102 = 0 then ((pleachref25_put.f k l0_1 l0_2).bind fun t103 => (some t103)) else (some (⟨#[]⟩ : ByteArray))) = some r := H
  have A2 := Aside0.mk A20
  clear A20
  by_cases c3 : t102 = 0
  · rw [if_pos c3] at H
    have c3b0 : (t102 == 0) = true := beq_iff_eq.mpr c3
    have c3b1 : (t102 != 0) = false := bne_eq_false_iff_eq.mpr c3
    clear c3
    replace H := Option.bind_eq_some_iff.mp H
    obtain ⟨t103, A40, H⟩ := H
    replace H : (some t103) = some r := H
    have A4 := Aside0.mk A40
    clear A40
    obtain rfl := Option.some.inj H
    go_enter Try.func13, Try.ntmps13
    go_wp2_with (first | ((with_reducible refine gate_dst (N := 1) rfl ?_); refine box_event ?hg (N := 1) ?hd (cs := #[.string a0_0, .slice A0_1 l0_1.length c0_1, .slice A0_2 l0_2.length c0_2]) (t := 25) ?hr ?_; (case hd => rfl); (case hg => rfl); (case hr => first | (go_simp; done) | (go_simp; rfl)); intro gb101 hg w5 hbox hb; have n0_ := Aside0.mk (below_step (by repeat (first | (with_reducible first | exact HB.out | apply below_alloc | apply pw_below_drewN | apply below_drew1) | exact HB.out)) hb); have n1_ := Aside0.mk (hbox); have n2_ := Aside0.mk ((by rw [hg]; exact (below_size (by repeat (first | (with_reducible first | exact HB.out | apply below_alloc | apply pw_below_drewN | apply below_drew1) | exact HB.out))) : w.heap.size ≤ gb101)); have n3_ := Aside0.mk ((by rw [hg]; exact (below_size (by repeat (first | (with_reducible first | exact HB.out | apply below_alloc | apply pw_below_drewN | apply below_drew1) | exact HB.out))) : w.heap.size ≤ gb101)); clear HB; have HB := n0_; have BK101 := n1_; have GW101 := n2_; have GE101 := n3_; clear n0_ n1_ n2_ n3_; clear hb hbox hg; have hcz6_0 : w5.cell? ⟨gb101, 0, none⟩ = some (.string a0_0) := (blk_cell BK101.out 0).trans rfl; have hcz6_1 : w5.cell? ⟨gb101, 1, none⟩ = some (.slice A0_1 l0_1.length c0_1) := (blk_cell BK101.out 1).trans rfl; have hcz6_2 : w5.cell? ⟨gb101, 2, none⟩ = some (.slice A0_2 l0_2.length c0_2) := (blk_cell BK101.out 2).trans rfl; have hfz6_0 := blk_frozen BK101.out 0; have hfz6_1 := blk_frozen BK101.out 1; have hfz6_2 := blk_frozen BK101.out 2) | ((with_reducible refine gate_callee (f := 14) rfl ?_); refine goesL_ (some 4) rfl rfl Try.func14 (by kernel_rfl) rfl #[.agg #[.string a0_0, .slice A0_1 l0_1.length c0_1, .slice A0_2 l0_2.length c0_2]] rfl (by (try simp only [List.map_toArray, List.map_cons, List.map_nil]); first | done | rfl | (simp only [List.length_drop, List.length_take]; rfl)) ?_; (with_reducible refine (pleachref25_Node.calls k a0_0 _ _ l0_1 _ _ l0_2 t102 _ ?side1 ?side2 ?side3 ?side4 A2.out).mono ?_); (case side1 => repeat (first | exact (Kd.C_below HR0_1.out HB.out) | (with_reducible refine Kd.C_alloc ?_ _) | (with_reducible refine Kd.C_drewN ?_ _) | (with_reducible refine Kd.C_drew ?_))); (case side2 => exact HC0_1.out); (case side3 => repeat (first | exact (Kd.C_below HR0_2.out HB.out) | (with_reducible refine Kd.C_alloc ?_ _) | (with_reducible refine Kd.C_drewN ?_ _) | (with_reducible refine Kd.C_drew ?_))); (case side4 => exact HC0_2.out); rintro e w7 ⟨rfl, hb⟩; refine ⟨_, rfl, ?_⟩; have n0_ := Aside0.mk (blk_below (g := gb101) (o := .cells #[.string a0_0, .slice A0_1 l0_1.length c0_1, .slice A0_2 l0_2.length c0_2] 25 (0, 0)) (by (with_reducible repeat (first | refine blk_drewN ?_ _ | refine blk_drew ?_ | refine blk_alloc ?_ _)); exact BK101.out) hb); have n1_ := Aside0.mk (below_step (by repeat (first | (with_reducible first | exact HB.out | apply below_alloc | apply pw_below_drewN | apply below_drew1 | refine below_set ?_ GE101.out) | exact HB.out)) hb); clear BK101; clear HB; have BK101 := n0_; have HB := n1_; clear n0_ n1_; (try clear hb); (try clear hb2); (try clear hk); (try clear hi); have hcz8_0 : w7.cell? ⟨gb101, 0, none⟩ = some (.string a0_0) := (blk_cell BK101.out 0).trans rfl; have hcz8_1 : w7.cell? ⟨gb101, 1, none⟩ = some (.slice A0_1 l0_1.length c0_1) := (blk_cell BK101.out 1).trans rfl; have hcz8_2 : w7.cell? ⟨gb101, 2, none⟩ = some (.slice A0_2 l0_2.length c0_2) := (blk_cell BK101.out 2).trans rfl; have hfz8_0 := blk_frozen BK101.out 0; have hfz8_1 := blk_frozen BK101.out 1; have hfz8_2 := blk_frozen BK101.out 2) | ((with_reducible refine gate_callee (f := 53) rfl ?_); refine goesL_ (some 10) rfl rfl Try.func53 (by kernel_rfl) rfl #[.slice A0_1 l0_1.length c0_1, .slice A0_2 l0_2.length c0_2] rfl (by (try simp only [List.map_toArray, List.map_cons, List.map_nil]); first | done | rfl | (simp only [List.length_drop, List.length_take]; rfl)) ?_; (with_reducible refine (pleachref25_put.calls k _ _ l0_1 _ _ l0_2 t103 _ ?side1 ?side2 ?side3 ?side4 A4.out).mono ?_); (case side1 => repeat (first | exact (Kd.C_below HR0_1.out HB.out) | (with_reducible refine Kd.C_alloc ?_ _) | (with_reducible refine Kd.C_drewN ?_ _) | (with_reducible refine Kd.C_drew ?_))); (case side2 => exact HC0_1.out); (case side3 => repeat (first | exact (Kd.C_below HR0_2.out HB.out) | (with_reducible refine Kd.C_alloc ?_ _) | (with_reducible refine Kd.C_drewN ?_ _) | (with_reducible refine Kd.C_drew ?_))); (case side4 => exact HC0_2.out); rintro e w9 ⟨rfl, hb⟩; refine ⟨_, rfl, ?_⟩; have n0_ := Aside0.mk (blk_below (g := gb101) (o := .cells #[.string a0_0, .slice A0_1 l0_1.length c0_1, .slice A0_2 l0_2.length c0_2] 25 (0, 0)) (by (with_reducible repeat (first | refine blk_drewN ?_ _ | refine blk_drew ?_ | refine blk_alloc ?_ _)); exact BK101.out) hb); have n1_ := Aside0.mk (below_step (by repeat (first | (with_reducible first | exact HB.out | apply below_alloc | apply pw_below_drewN | apply below_drew1 | refine below_set ?_ GE101.out) | exact HB.out)) hb); clear BK101; clear HB; have BK101 := n0_; have HB := n1_; clear n0_ n1_; (try clear hb); (try clear hb2); (try clear hk); (try clear hi)))
    go_ret
    exact ⟨by first | rfl | (simp [errW_none, errW_some] <;> rfl) | (simp [*, errW_none, errW_some] <;> rfl), by repeat (first | (with_reducible first | exact HB.out | apply below_alloc | apply pw_below_drewN | apply below_drew1 | refine below_set ?_ GE101.out) | exact HB.out)⟩
  · rw [if_neg c3] at H
    have c3b0 : (t102 == 0) = false := beq_eq_false_iff_ne.mpr c3
    have c3b1 : (t102 != 0) = true := bne_iff_ne.mpr c3
    obtain rfl := Option.some.inj H
    go_enter Try.func13, Try.ntmps13
    go_wp2_with (first | ((with_reducible refine gate_dst (N := 1) rfl ?_); refine box_event ?hg (N := 1) ?hd (cs := #[.string a0_0, .slice A0_1 l0_1.length c0_1, .slice A0_2 l0_2.length c0_2]) (t := 25) ?hr ?_; (case hd => rfl); (case hg => rfl); (case hr => first | (go_simp; done) | (go_simp; rfl)); intro gb101 hg w10 hbox hb; have n0_ := Aside0.mk (below_step (by repeat (first | (with_reducible first | exact HB.out | apply below_alloc | apply pw_below_drewN | apply below_drew1) | exact HB.out)) hb); have n1_ := Aside0.mk (hbox); have n2_ := Aside0.mk ((by rw [hg]; exact (below_size (by repeat (first | (with_reducible first | exact HB.out | apply below_alloc | apply pw_below_drewN | apply below_drew1) | exact HB.out))) : w.heap.size ≤ gb101)); have n3_ := Aside0.mk ((by rw [hg]; exact (below_size (by repeat (first | (with_reducible first | exact HB.out | apply below_alloc | apply pw_below_drewN | apply below_drew1) | exact HB.out))) : w.heap.size ≤ gb101)); clear HB; have HB := n0_; have BK101 := n1_; have GW101 := n2_; have GE101 := n3_; clear n0_ n1_ n2_ n3_; clear hb hbox hg; have hcz11_0 : w10.cell? ⟨gb101, 0, none⟩ = some (.string a0_0) := (blk_cell BK101.out 0).trans rfl; have hcz11_1 : w10.cell? ⟨gb101, 1, none⟩ = some (.slice A0_1 l0_1.length c0_1) := (blk_cell BK101.out 1).trans rfl; have hcz11_2 : w10.cell? ⟨gb101, 2, none⟩ = some (.slice A0_2 l0_2.length c0_2) := (blk_cell BK101.out 2).trans rfl; have hfz11_0 := blk_frozen BK101.out 0; have hfz11_1 := blk_frozen BK101.out 1; have hfz11_2 := blk_frozen BK101.out 2) | ((with_reducible refine gate_callee (f := 14) rfl ?_); refine goesL_ (some 4) rfl rfl Try.func14 (by kernel_rfl) rfl #[.agg #[.string a0_0, .slice A0_1 l0_1.length c0_1, .slice A0_2 l0_2.length c0_2]] rfl (by (try simp only [List.map_toArray, List.map_cons, List.map_nil]); first | done | rfl | (simp only [List.length_drop, List.length_take]; rfl)) ?_; (with_reducible refine (pleachref25_Node.calls k a0_0 _ _ l0_1 _ _ l0_2 t102 _ ?side1 ?side2 ?side3 ?side4 A2.out).mono ?_); (case side1 => repeat (first | exact (Kd.C_below HR0_1.out HB.out) | (with_reducible refine Kd.C_alloc ?_ _) | (with_reducible refine Kd.C_drewN ?_ _) | (with_reducible refine Kd.C_drew ?_))); (case side2 => exact HC0_1.out); (case side3 => repeat (first | exact (Kd.C_below HR0_2.out HB.out) | (with_reducible refine Kd.C_alloc ?_ _) | (with_reducible refine Kd.C_drewN ?_ _) | (with_reducible refine Kd.C_drew ?_))); (case side4 => exact HC0_2.out); rintro e w12 ⟨rfl, hb⟩; refine ⟨_, rfl, ?_⟩; have n0_ := Aside0.mk (blk_below (g := gb101) (o := .cells #[.string a0_0, .slice A0_1 l0_1.length c0_1, .slice A0_2 l0_2.length c0_2] 25 (0, 0)) (by (with_reducible repeat (first | refine blk_drewN ?_ _ | refine blk_drew ?_ | refine blk_alloc ?_ _)); exact BK101.out) hb); have n1_ := Aside0.mk (below_step (by repeat (first | (with_reducible first | exact HB.out | apply below_alloc | apply pw_below_drewN | apply below_drew1 | refine below_set ?_ GE101.out) | exact HB.out)) hb); clear BK101; clear HB; have BK101 := n0_; have HB := n1_; clear n0_ n1_; (try clear hb); (try clear hb2); (try clear hk); (try clear hi)))
    go_ret
    exact ⟨by first | rfl | (simp [errW_none, errW_some] <;> rfl) | (simp [*, errW_none, errW_some] <;> rfl), by repeat (first | (with_reducible first | exact HB.out | apply below_alloc | apply pw_below_drewN | apply below_drew1 | refine below_set ?_ GE101.out) | exact HB.out)⟩

end Go.Proofs.Ytmnadajjgnniaaa.MA
end
section
namespace Go.Proofs.Ytmnadajjgnniaaa.Q
open Go.RowKit Go.Proofs.YtmnadajjgnniaaaW.PrintWords

theorem w64 {x : Int} (h0 : -9223372036854775808 ≤ x) (h1 : x ≤ 9223372036854775807) : wrap64 x = x := by unfold wrap64; omega
theorem wu64 {x : Int} (h0 : 0 ≤ x) (h1 : x ≤ 18446744073709551615) : IntKind.u64.wrap x = x := by
  have : IntKind.u64.wrap x = x % 18446744073709551616 := by simp [IntKind.wrap, IntKind.bits, IntKind.signed]
  rw [this]; omega
theorem wu64_mod (x : Int) : IntKind.u64.wrap x = x % 18446744073709551616 := by simp [IntKind.wrap, IntKind.bits, IntKind.signed]
theorem wf_i64 {x : Int} (h : (Lit.int .i64 x).wf = true) : -9223372036854775808 ≤ x ∧ x ≤ 9223372036854775807 := by
  simp [Lit.wf, IntKind.min, IntKind.max, IntKind.bits, IntKind.signed] at h
  omega
theorem toList_size (s : ByteArray) : s.toList.length = s.size := by rw [ByteArray.toList_eq]; exact data_length s
theorem toList_nil {s : ByteArray} : s.toList = [] ↔ s.size = 0 := by
  rw [← toList_size, List.length_eq_zero_iff]
theorem bytes_ext {s t : ByteArray} (h : s.toList = t.toList) : s = t := by
  rw [ByteArray.toList_eq, ByteArray.toList_eq] at h
  have : s.data = t.data := by rwa [← Array.toList_inj]
  cases s; cases t; simp_all
theorem strOfNums_size (xs : List Int) : (strOfNums xs).size = xs.length := by unfold strOfNums; simp [ByteArray.size]
theorem strOfNums_append (xs ys : List Int) : strOfNums (xs ++ ys) = strOfNums xs ++ strOfNums ys := by
  apply ByteArray.ext
  simp [strOfNums]
def LIM : Nat := 140737488351232
end Go.Proofs.Ytmnadajjgnniaaa.Q
end
section
namespace Go.Proofs.Ytmnadajjgnniaaa.Q
open Go.RowKit Go.Proofs.YtmnadajjgnniaaaW.PrintWords Go.Proofs.Ytmnadajjgnniaaa.MA

def okc (c : Int) : Bool := (decide (97 ≤ c) && decide (c ≤ 122)) || (decide (48 ≤ c) && decide (c ≤ 57)) || c == 45
theorem name_fits_eq (c : Int) : name_fits.f c = some (okc c) := by
  unfold name_fits.f okc
  repeat' split
  all_goals simp only [Option.some.injEq]
  all_goals first | (rw [eq_comm]; simp; omega) | (simp; omega) | (rw [Bool.eq_iff_iff]; simp; omega)
def okFrom (s : ByteArray) : Nat → Nat → Bool
  | 0, _ => true
  | d + 1, i => okc (bt s i) && okFrom s d (i + 1)
def nameB (s : ByteArray) : Bool := decide (1 ≤ s.size) && decide (s.size ≤ 12) && okFrom s s.size 0

theorem name_Check_l0 (s : ByteArray) (hs : s.size ≤ 140737488351232) : ∀ d i : Nat, i + d = s.size → ∀ k, d + 1 ≤ k → name_Check.l0 k s (s.size : Int) (i : Int) = some (if okFrom s d i then 0 else 2)
  | 0, i, h, k, hk => by
    obtain ⟨k, rfl⟩ : ∃ m, k = m + 1 := ⟨k - 1, by omega⟩
    rw [name_Check.l0, if_neg (by omega)]
    simp [okFrom]
  | d + 1, i, h, k, hk => by
    obtain ⟨k, rfl⟩ : ∃ m, k = m + 1 := ⟨k - 1, by omega⟩
    rw [name_Check.l0, if_pos (by omega), if_pos (by omega), if_pos (by omega), name_fits_eq]
    simp only [Option.bind_some]
    rw [w64 (by omega) (by omega)]
    have ih := name_Check_l0 s hs d (i + 1) (by omega) k (by omega)
    rw [show ((i : Int) + 1) = ((i + 1 : Nat) : Int) by omega, ih]
    cases hc : okc (bt s (i : Int)) <;> simp [okFrom, hc]
theorem name_Check_ev (s : ByteArray) (hs : s.size ≤ 140737488351232) (k : Nat) (hk : s.size + 2 ≤ k) : name_Check.f k s = some (if nameB s then 0 else 2) := by
  obtain ⟨k, rfl⟩ : ∃ m, k = m + 1 := ⟨k - 1, by omega⟩
  unfold name_Check.f
  by_cases h0 : s.toList = []
  · rw [if_pos h0, name_Check.j0, if_pos rfl]
    have := toList_nil.1 h0
    simp [nameB, this]
  · rw [if_neg h0, name_Check.j0]
    have h1 : s.size ≠ 0 := fun h => h0 (toList_nil.2 h)
    by_cases h2 : (s.size : Int) > 12
    · rw [if_pos (by simpa using h2)]
      have : ¬ s.size ≤ 12 := by omega
      simp [nameB, this]
    · rw [if_neg (by simpa using h2), show (0 : Int) = ((0 : Nat) : Int) from rfl, name_Check_l0 s hs s.size 0 (by omega) k (by omega)]
      have h3 : s.size ≤ 12 := by omega
      have h4 : 1 ≤ s.size := by omega
      simp [nameB, h3, h4]

theorem refIs_l0 (s : ByteArray) (hs : s.size ≤ 140737488351232) : ∀ d i : Nat, i + d = s.size → ∀ k, d + 1 ≤ k → pleachref05_Is.l0 k s (i : Int) = some (okFrom s d i && (decide (1 ≤ s.size) && decide (s.size ≤ 12)))
  | 0, i, h, k, hk => by
    obtain ⟨k, rfl⟩ : ∃ m, k = m + 1 := ⟨k - 1, by omega⟩
    rw [pleachref05_Is.l0, if_neg (by omega)]
    split
    · rename_i h1
      have : 1 ≤ s.size := by omega
      simp [okFrom, this]
      constructor <;> intro h <;> omega
    · rename_i h1
      have : ¬ 1 ≤ s.size := by omega
      simp [okFrom]
      omega
  | d + 1, i, h, k, hk => by
    obtain ⟨k, rfl⟩ : ∃ m, k = m + 1 := ⟨k - 1, by omega⟩
    rw [pleachref05_Is.l0, if_pos (by omega), if_pos (by omega)]
    rw [w64 (by omega) (by omega)]
    have ih := refIs_l0 s hs d (i + 1) (by omega) k (by omega)
    rw [show ((i : Int) + 1) = ((i + 1 : Nat) : Int) by omega, ih]
    simp only [okFrom, okc]
    generalize bt s (i : Int) = c
    generalize okFrom s d (i + 1) = b
    by_cases a1 : c ≥ 97 <;> by_cases a2 : c ≤ 122 <;> by_cases a3 : c ≥ 48 <;> by_cases a4 : c ≤ 57 <;> by_cases a5 : c = 45 <;> simp [a1, a2, a3, a4, a5] <;> omega
theorem refIs_ev (s : ByteArray) (hs : s.size ≤ 140737488351232) (k : Nat) (hk : s.size + 1 ≤ k) : pleachref05_Is.f k s = some (nameB s) := by
  unfold pleachref05_Is.f
  rw [show (0 : Int) = ((0 : Nat) : Int) from rfl, refIs_l0 s hs s.size 0 (by omega) k (by omega), nameB, Bool.and_comm]
end Go.Proofs.Ytmnadajjgnniaaa.Q
end
section
namespace Go.Proofs.Ytmnadajjgnniaaa.Q
open Go.RowKit Go.Proofs.YtmnadajjgnniaaaW.PrintWords Go.Proofs.Ytmnadajjgnniaaa.MA

theorem vput_len : ∀ f n : Nat, (vput f n).length ≤ f
  | 0, _ => by simp [vput]
  | f + 1, n => by
    unfold vput
    split
    · simp
    · have := vput_len f (n / 128)
      simp
      omega
theorem vput_pos (f n : Nat) : 0 < (vput (f + 1) n).length := by
  unfold vput
  split <;> simp
def numB (n : Nat) : ByteArray := strOfNums (vput 10 n)
theorem numB_size (n : Nat) : (numB n).size ≤ 10 := by unfold numB; rw [strOfNums_size]; exact vput_len 10 n
theorem varint_Put_eq {n : Int} (h0 : 0 ≤ n) (h1 : n < 18446744073709551616) : varint_Put.f n = some (numB n.toNat) := by
  unfold varint_Put.f
  rw [if_pos ⟨h0, h1⟩]
  rfl
def digs : Nat → Nat → List Int
  | 0, _ => []
  | f + 1, n => ((n % 128 : Nat) : Int) :: if n < 128 then [] else digs f (n / 128)
theorem digs_len : ∀ f n : Nat, (digs f n).length ≤ f
  | 0, _ => by simp [digs]
  | f + 1, n => by
    unfold digs
    split
    · simp
    · have := digs_len f (n / 128)
      simp
      omega
theorem digits_l0 : ∀ (f n : Nat) (pre : List Int), n < 128 ^ f → n < 18446744073709551616 → pre.length + f ≤ 100 → ∀ k, f + 2 ≤ k →
    pleachref01_Digits.l0 k (n : Int) pre = some (pre ++ if n = 0 then [] else digs f n)
  | 0, n, pre, hn, _, _, k, hk => by
    obtain ⟨k, rfl⟩ : ∃ m, k = m + 1 := ⟨k - 1, by omega⟩
    have : n = 0 := by simpa using hn
    subst this
    rw [pleachref01_Digits.l0, if_neg (by omega)]
    simp
  | f + 1, n, pre, hn, h64, hl, k, hk => by
    obtain ⟨k, rfl⟩ : ∃ m, k = m + 1 := ⟨k - 1, by omega⟩
    rw [pleachref01_Digits.l0]
    by_cases h0 : n = 0
    · subst h0
      rw [if_neg (by omega)]
      simp
    · rw [if_pos (by omega), if_pos (by omega)]
      have e1 : Int.tdiv (n : Int) 128 = ((n / 128 : Nat) : Int) := by rw [Int.tdiv_eq_ediv_of_nonneg (by omega)]; omega
      have e2 : Int.tmod (n : Int) 128 = ((n % 128 : Nat) : Int) := by rw [Int.tmod_eq_emod_of_nonneg (by omega)]; omega
      rw [e1, e2, wu64 (by omega) (by omega), w64 (by omega) (by omega)]
      rw [digits_l0 f (n / 128) _ (by rw [Nat.pow_succ] at hn; exact Nat.div_lt_of_lt_mul (by omega)) (by omega) (by simp; omega) k (by omega)]
      rw [if_neg h0]
      have : digs (f + 1) n = ((n % 128 : Nat) : Int) :: if n < 128 then [] else digs f (n / 128) := rfl
      rw [this]
      by_cases hlt : n < 128
      · have : n / 128 = 0 := by omega
        simp [this, hlt]
      · have : ¬ n / 128 = 0 := by omega
        simp [this, hlt]
theorem digits_ev (n : Nat) (h64 : n < 18446744073709551616) (k : Nat) (hk : 12 ≤ k) : pleachref01_Digits.f k (n : Int) = some (digs 10 n) := by
  unfold pleachref01_Digits.f
  have e1 : Int.tdiv (n : Int) 128 = ((n / 128 : Nat) : Int) := by rw [Int.tdiv_eq_ediv_of_nonneg (by omega)]; omega
  have e2 : Int.tmod (n : Int) 128 = ((n % 128 : Nat) : Int) := by rw [Int.tmod_eq_emod_of_nonneg (by omega)]; omega
  rw [e1, e2, wu64 (by omega) (by omega), w64 (by omega) (by omega)]
  rw [digits_l0 9 (n / 128) _ (by omega) (by omega) (by simp) k (by omega)]
  have : digs 10 n = ((n % 128 : Nat) : Int) :: if n < 128 then [] else digs 9 (n / 128) := rfl
  rw [this]
  by_cases hlt : n < 128
  · have : n / 128 = 0 := by omega
    simp [this, hlt]
  · have : ¬ n / 128 = 0 := by omega
    simp [this, hlt]
theorem digs_at : ∀ (f n i : Nat), n < 128 ^ f → i < (digs f n).length → 0 ≤ (digs f n).getD i 0 ∧ (digs f n).getD i 0 < 128
  | 0, _, _, _, h => by simp [digs] at h
  | f + 1, n, 0, _, _ => by simp [digs]; omega
  | f + 1, n, i + 1, hn, h => by
    unfold digs at h ⊢
    by_cases hlt : n < 128
    · simp [hlt] at h
    · simp only [hlt, if_false] at h ⊢
      have := digs_at f (n / 128) i (by rw [Nat.pow_succ] at hn; exact Nat.div_lt_of_lt_mul (by omega)) (by simpa using h)
      simpa using this
def marks : List Int → List Int
  | [] => []
  | [c] => [c]
  | c :: d :: r => (c + 128) :: marks (d :: r)
theorem marks_digs : ∀ (f n : Nat), n < 128 ^ f → marks (digs f n) = vput f n
  | 0, n, h => by simp [digs, marks, vput]
  | f + 1, n, h => by
    unfold digs vput
    by_cases hlt : n < 128
    · simp [hlt, marks]
      omega
    · simp only [hlt, if_false]
      cases f with
      | zero => simp at h; omega
      | succ f =>
        have ih := marks_digs (f + 1) (n / 128) (by rw [Nat.pow_succ] at h; exact Nat.div_lt_of_lt_mul (by omega))
        rw [show digs (f + 1) (n / 128) = ((n / 128 % 128 : Nat) : Int) :: if n / 128 < 128 then [] else digs f (n / 128 / 128) from rfl] at ih ⊢
        rw [marks, ih]
        simp
theorem put_l0 (l : List Int) (hl : l.length ≤ 10) (hd : ∀ i, i < l.length → 0 ≤ l.getD i 0 ∧ l.getD i 0 < 128) : ∀ (d i : Nat) (out : ByteArray), i + d = l.length → out.size ≤ i → ∀ k, d + 1 ≤ k →
    pleachref01_Put.l0 k l out (i : Int) = some (out ++ strOfNums (marks (l.drop i)))
  | 0, i, out, h, ho, k, hk => by
    obtain ⟨k, rfl⟩ : ∃ m, k = m + 1 := ⟨k - 1, by omega⟩
    rw [pleachref01_Put.l0, if_neg (by omega), List.drop_eq_nil_of_le (by omega)]
    simp [marks, strOfNums]
    apply ByteArray.ext
    simp
  | d + 1, i, out, h, ho, k, hk => by
    obtain ⟨k, rfl⟩ : ∃ m, k = m + 1 := ⟨k - 1, by omega⟩
    have hil : i < l.length := by omega
    have hb := hd i hil
    have hr : rd l (i : Int) = l.getD i 0 := by simp [rd]
    have hg : l.getD i 0 = l[i] := by simp [List.getD_eq_getElem?_getD, List.getElem?_eq_getElem hil]
    have hdr : l.drop i = l[i] :: l.drop (i + 1) := List.drop_eq_getElem_cons hil
    rw [pleachref01_Put.l0, if_pos (by omega), if_pos (by omega), w64 (by omega) (by omega), hr]
    by_cases hlast : (i : Int) + 1 < (l.length : Int)
    · rw [if_pos hlast, w64 (by omega) (by omega)]
      simp only [Option.bind_some]
      rw [if_pos (by rw [strOfNums_size]; simp; omega)]
      rw [show ((i : Int) + 1) = ((i + 1 : Nat) : Int) by omega, put_l0 l hl hd d (i + 1) _ (by omega) (by rw [ByteArray.size_append, strOfNums_size]; simp; omega) k (by omega)]
      rw [hdr, List.drop_eq_getElem_cons (show i + 1 < l.length by omega), marks, ← List.drop_eq_getElem_cons (show i + 1 < l.length by omega)]
      rw [ByteArray.append_assoc, ← strOfNums_append]
      have : (l.getD i 0 + 128) % 256 = l[i] + 128 := by rw [hg] at hb ⊢; omega
      rw [this]
      rfl
    · rw [if_neg hlast]
      simp only [Option.bind_some]
      rw [if_pos (by rw [strOfNums_size]; simp; omega)]
      rw [show ((i : Int) + 1) = ((i + 1 : Nat) : Int) by omega, put_l0 l hl hd d (i + 1) _ (by omega) (by rw [ByteArray.size_append, strOfNums_size]; simp; omega) k (by omega)]
      have hnil : l.drop (i + 1) = [] := List.drop_eq_nil_of_le (by omega)
      rw [hdr, hnil, marks]
      have : (l.getD i 0) % 256 = l[i] := by rw [hg] at hb ⊢; omega
      rw [this, ByteArray.append_assoc, ← strOfNums_append]
      rfl
theorem refPut_ev (n : Nat) (h64 : n < 18446744073709551616) (k : Nat) (hk : 12 ≤ k) : pleachref01_Put.f k (n : Int) = some (numB n) := by
  unfold pleachref01_Put.f
  rw [digits_ev n h64 k hk]
  simp only [Option.bind_some]
  have hn : n < 128 ^ 10 := by omega
  have := put_l0 (digs 10 n) (digs_len 10 n) (fun i hi => digs_at 10 n i hn hi) (digs 10 n).length 0 ⟨#[]⟩ (by omega) (by simp [ByteArray.size]) k (by have := digs_len 10 n; omega)
  rw [show (0 : Int) = ((0 : Nat) : Int) from rfl, this, List.drop_zero, marks_digs 10 n hn]
  congr 1
theorem xor_zero (x : Int) (h0 : 0 ≤ x) (h1 : x < 18446744073709551616) : Go.bits .xor .u64 x 0 = x := by
  obtain ⟨n, rfl⟩ := Int.eq_ofNat_of_zero_le h0
  have hn : n < 2 ^ 64 := by omega
  have e : Go.bits .xor .u64 (n : Int) 0 = IntKind.u64.wrap ((BitVec.ofNat 64 n ^^^ 0#64).toNat : Int) := rfl
  have e2 : (BitVec.ofNat 64 n ^^^ 0#64).toNat = n := by rw [BitVec.xor_zero, BitVec.toNat_ofNat, Nat.mod_eq_of_lt hn]
  rw [e, e2, wu64 (by omega) (by omega)]
theorem xor_ones (x : Int) (h0 : 0 ≤ x) (h1 : x < 18446744073709551616) : Go.bits .xor .u64 x 18446744073709551615 = 18446744073709551615 - x := by
  obtain ⟨n, rfl⟩ := Int.eq_ofNat_of_zero_le h0
  have hn : n < 2 ^ 64 := by omega
  have e : Go.bits .xor .u64 (n : Int) 18446744073709551615 = IntKind.u64.wrap ((BitVec.ofNat 64 n ^^^ BitVec.allOnes 64).toNat : Int) := by
    simp [Go.bits, IntKind.bits]
    rfl
  rw [e, BitVec.xor_allOnes, BitVec.toNat_not, BitVec.toNat_ofNat, Nat.mod_eq_of_lt hn, wu64 (by omega) (by omega)]
  omega
def zig (a : Int) : Int := if 0 ≤ a then 2 * a else -2 * a - 1
theorem zig_bound {a : Int} (h0 : -9223372036854775808 ≤ a) (h1 : a ≤ 9223372036854775807) : 0 ≤ zig a ∧ zig a < 18446744073709551616 := by unfold zig; split <;> omega
theorem zig_eq {a : Int} (h0 : -9223372036854775808 ≤ a) (h1 : a ≤ 9223372036854775807) : varint_Zig.f a = some (zig a) := by
  unfold varint_Zig.f zig
  congr 1
  by_cases h : 0 ≤ a
  · rw [if_pos h, wu64 (x := a) (by omega) (by omega), wu64 (x := a * 2) (by omega) (by omega), show a / 9223372036854775808 = 0 by omega, wu64 (x := 0) (by omega) (by omega), xor_zero _ (by omega) (by omega)]
    omega
  · rw [if_neg h, show a / 9223372036854775808 = -1 by omega]
    have e1 : IntKind.u64.wrap a = a + 18446744073709551616 := by rw [wu64_mod]; omega
    have e2 : IntKind.u64.wrap (-1) = 18446744073709551615 := by rw [wu64_mod]; rfl
    have e3 : IntKind.u64.wrap ((a + 18446744073709551616) * 2) = 2 * a + 18446744073709551616 := by rw [wu64_mod]; omega
    rw [e1, e2, e3, xor_ones _ (by omega) (by omega)]
    omega
theorem refZig_eq {a : Int} (h0 : -9223372036854775808 ≤ a) (h1 : a ≤ 9223372036854775807) : pleachref01_Zig.f a = some (zig a) := by
  unfold pleachref01_Zig.f zig
  by_cases h : a ≥ 0
  · rw [if_pos h, if_pos (by omega), wu64 (x := a) (by omega) (by omega), wu64 (by omega) (by omega)]
    congr 1
    omega
  · rw [if_neg h, if_neg (by omega), w64 (x := a + 1) (by omega) (by omega), w64 (by omega) (by omega), wu64 (x := -(a + 1)) (by omega) (by omega), wu64 (x := -(a + 1) * 2) (by omega) (by omega), wu64 (by omega) (by omega)]
    congr 1
    omega
end Go.Proofs.Ytmnadajjgnniaaa.Q
end
section
namespace Go.Proofs.Ytmnadajjgnniaaa.Q
open Go.RowKit Go.Proofs.YtmnadajjgnniaaaW.PrintWords Go.Proofs.Ytmnadajjgnniaaa.MA

def valueB (a b : Int) (s : ByteArray) : Bool := (a == 1 && (b == 0 || b == 1) && s.size == 0) || (a == 2 && s.size == 0) || (a == 3 && b == 0 && decide (s.size ≤ 64))
theorem nil_beq (s : ByteArray) : (s.toList == ([] : List UInt8)) = (s.size == 0) := by
  rw [Bool.eq_iff_iff]; simp [toList_nil]
theorem value_Check_eq (a b : Int) (s : ByteArray) : value_Check.f a b s = some (if valueB a b s then 0 else 2) := by
  unfold value_Check.f valueB
  simp only [toList_nil]
  by_cases a1 : a = 1
  · subst a1
    by_cases b0 : b = 0 <;> by_cases b1 : b = 1 <;> by_cases s0 : s.size = 0 <;> simp [b0, b1, s0]
  · by_cases a2 : a = 2
    · subst a2
      by_cases s0 : s.size = 0 <;> simp [s0]
    · by_cases a3 : a = 3
      · subst a3
        by_cases b0 : b = 0 <;> by_cases s0 : s.size ≤ 64 <;> simp [b0, s0] <;> omega
      · simp [a1, a2, a3]
theorem refVIs_eq (a b : Int) (s : ByteArray) : pleachref06_Is.f a b s = some (valueB a b s) := by
  unfold pleachref06_Is.f valueB
  simp only [nil_beq]
  by_cases a1 : a = 1
  · subst a1
    by_cases s0 : s.size = 0 <;> by_cases b0 : b ≥ 0 <;> by_cases b1 : b ≤ 1 <;> simp [b0, b1, s0] <;> omega
  · by_cases a2 : a = 2
    · subst a2
      by_cases s0 : s.size = 0 <;> simp [s0]
    · by_cases a3 : a = 3
      · subst a3
        by_cases b0 : b = 0 <;> by_cases s0 : s.size ≤ 64 <;> simp [b0, s0] <;> omega
      · simp [a1, a2, a3]
def textB (s : ByteArray) : ByteArray := numB s.size ++ s
theorem textB_size (s : ByteArray) : (textB s).size ≤ 10 + s.size := by
  unfold textB
  rw [ByteArray.size_append]
  have := numB_size s.size
  omega
theorem PutText_eq (s : ByteArray) (hs : s.size ≤ 140737488351232) : scan_PutText.f s = some (textB s) := by
  unfold scan_PutText.f
  rw [if_pos (by omega), varint_Put_eq (by omega) (by omega)]
  simp only [Option.bind_some]
  have := numB_size s.size
  rw [if_pos (by simp; omega)]
  simp [textB]
theorem refPutText_ev (s : ByteArray) (hs : s.size ≤ 140737488351232) (k : Nat) (hk : 12 ≤ k) : pleachref04_PutText.f k s = some (textB s) := by
  unfold pleachref04_PutText.f
  rw [if_pos (by omega), refPut_ev s.size (by omega) k hk]
  simp only [Option.bind_some]
  have := numB_size s.size
  rw [if_pos (by omega)]
  rfl
theorem PutNum_eq (n : Nat) (h : n ≤ 140737488351232) : scan_PutNum.f (n : Int) = some (numB n) := by
  unfold scan_PutNum.f
  have : mx (n : Int) 0 = n := by unfold mx; omega
  rw [this, wu64 (by omega) (by omega), varint_Put_eq (by omega) (by omega)]
  simp
theorem refPutNum_ev (n : Nat) (h : n ≤ 140737488351232) (k : Nat) (hk : 12 ≤ k) : pleachref04_PutNum.f k (n : Int) = some (numB n) := by
  unfold pleachref04_PutNum.f
  rw [if_neg (by omega), wu64 (by omega) (by omega), refPut_ev n (by omega) k hk]
  simp
def valB (a b : Int) (s : ByteArray) : ByteArray :=
  if valueB a b s = true then
    (if a = 1 then strOfNums [1, b] else if a = 2 then strOfNums [2] ++ numB (zig b).toNat else strOfNums [3] ++ textB s)
  else ⟨#[]⟩
theorem valB_size (a b : Int) (s : ByteArray) : (valB a b s).size ≤ 80 := by
  unfold valB
  split
  · rename_i hv
    split
    · simp [strOfNums_size]
    · split
      · rw [ByteArray.size_append, strOfNums_size]
        have := numB_size (zig b).toNat
        simp; omega
      · rename_i a1 a2
        rw [ByteArray.size_append, strOfNums_size]
        have := textB_size s
        have h64 : s.size ≤ 64 := by
          unfold valueB at hv
          simp [a1, a2] at hv
          exact hv.2
        simp; omega
  · simp [ByteArray.size]
theorem value_Put_eq (a b : Int) (s : ByteArray) (hb : -9223372036854775808 ≤ b ∧ b ≤ 9223372036854775807) : value_Put.f a b s = some (valB a b s, if valueB a b s then 0 else 2) := by
  unfold value_Put.f
  rw [value_Check_eq]
  simp only [Option.bind_some]
  unfold valB
  cases hv : valueB a b s with
  | false => simp
  | true =>
    simp only [if_true]
    unfold valueB at hv
    by_cases a1 : a = 1
    · subst a1
      simp at hv
      have hb2 : b % 256 = b := by omega
      simp only [if_true, hb2]
      rw [if_pos (by simp [strOfNums_size]), ← strOfNums_append]
      rfl
    · by_cases a2 : a = 2
      · subst a2
        have hz := zig_bound hb.1 hb.2
        rw [if_neg a1, if_pos rfl, if_neg a1, if_pos rfl]
        unfold scan_PutInt.f varint_Int.f
        rw [zig_eq hb.1 hb.2]
        simp only [Option.bind_some]
        rw [varint_Put_eq hz.1 hz.2]
        simp only [Option.bind_some]
        have := numB_size (zig b).toNat
        rw [if_pos (by rw [strOfNums_size]; simp; omega)]
        rfl
      · have a3 : a = 3 := by simp [a1, a2] at hv; exact hv.1.1
        have h64 : s.size ≤ 64 := by simp [a1, a2] at hv; exact hv.2
        subst a3
        rw [if_neg a1, if_neg a2, if_neg a1, if_neg a2, PutText_eq s (by omega)]
        simp only [Option.bind_some]
        have := textB_size s
        rw [if_pos (by rw [strOfNums_size]; simp; omega)]
        rfl
theorem refVPut_ev (a b : Int) (s : ByteArray) (hb : -9223372036854775808 ≤ b ∧ b ≤ 9223372036854775807) (k : Nat) (hk : 12 ≤ k) : pleachref06_Put.f k a b s = some (valB a b s) := by
  unfold pleachref06_Put.f
  rw [refVIs_eq]
  simp only [Option.bind_some]
  unfold valB
  cases hv : valueB a b s with
  | false => simp
  | true =>
    simp only [if_true]
    unfold valueB at hv
    by_cases a1 : a = 1
    · subst a1
      simp at hv
      have hb2 : b % 256 = b := by omega
      simp only [if_true, hb2]
    · by_cases a2 : a = 2
      · subst a2
        have hz := zig_bound hb.1 hb.2
        rw [if_neg a1, if_pos rfl, if_neg a1, if_pos rfl, refZig_eq hb.1 hb.2]
        simp only [Option.bind_some]
        obtain ⟨z, ez⟩ := Int.eq_ofNat_of_zero_le hz.1
        rw [ez, refPut_ev z (by omega) k hk]
        simp only [Option.bind_some]
        have := numB_size z
        rw [if_pos (by omega)]
        rfl
      · have a3 : a = 3 := by simp [a1, a2] at hv; exact hv.1.1
        have h64 : s.size ≤ 64 := by simp [a1, a2] at hv; exact hv.2
        subst a3
        rw [if_neg a1, if_neg a2, if_neg a1, if_neg a2, refPutText_ev s (by omega) k hk]
        simp only [Option.bind_some]
        have := textB_size s
        rw [if_pos (by omega)]
        rfl
end Go.Proofs.Ytmnadajjgnniaaa.Q
end
section
namespace Go.Proofs.Ytmnadajjgnniaaa.Q
open Go.RowKit Go.Proofs.YtmnadajjgnniaaaW.PrintWords Go.Proofs.Ytmnadajjgnniaaa.MA Go.Proofs.Ytmnadajjgnniaaa.HOpen

def scanI (step : Nat → Option Int) : Nat → Nat → Int
  | 0, _ => 0
  | d + 1, i => match step i with
    | some r => r
    | none => scanI step d (i + 1)
def okProps (l : List S98) : Prop := l.length ≤ 140737488351232 ∧ ∀ p ∈ l, G98 p
def okTexts (l : List ByteArray) : Prop := l.length ≤ 140737488351232 ∧ ∀ s ∈ l, s.size ≤ 140737488351232
def propAt (l : List S98) (i : Nat) : S98 := l.getD i z98
def textAt (l : List ByteArray) (i : Nat) : ByteArray := l.getD i ByteArray.empty
theorem okProps_at {l : List S98} (h : okProps l) {i : Nat} (hi : i < l.length) : G98 (propAt l i) := by
  have : propAt l i = l[i] := by simp [propAt, List.getD_eq_getElem?_getD, List.getElem?_eq_getElem hi]
  rw [this]
  exact h.2 _ (List.getElem_mem hi)
theorem okTexts_at {l : List ByteArray} (h : okTexts l) {i : Nat} (hi : i < l.length) : (textAt l i).size ≤ 140737488351232 := by
  have : textAt l i = l[i] := by simp [textAt, List.getD_eq_getElem?_getD, List.getElem?_eq_getElem hi]
  rw [this]
  exact h.2 _ (List.getElem_mem hi)
theorem rd_prop (l : List S98) (i : Nat) : rd_T98 l (i : Int) = propAt l i := by simp [rd_T98, propAt]
theorem rd_text (l : List ByteArray) (i : Nat) : rdOf ByteArray.empty l (i : Int) = textAt l i := by simp [rdOf, textAt]
theorem pred_cast {i : Nat} (h : 0 < i) : wrap64 ((i : Int) - 1) = ((i - 1 : Nat) : Int) ∨ 9223372036854775807 < i := by
  by_cases hb : i ≤ 9223372036854775807
  · left; rw [w64 (by omega) (by omega)]; omega
  · right; omega
def lessB (a b : ByteArray) : Bool := Op.bytesLess a.toList b.toList
def valOk (p : S98) : Bool := valueB p.f1.f0 p.f1.f1 p.f1.f2
def propStep (l : List S98) (i : Nat) : Option Int :=
  if (nameB (propAt l i).f0 && valOk (propAt l i)) = false then some 2
  else if 0 < i ∧ lessB (propAt l (i - 1)).f0 (propAt l i).f0 = false then some 4 else none
def textStep (l : List ByteArray) (i : Nat) : Option Int :=
  if nameB (textAt l i) = false then some 2
  else if 0 < i ∧ lessB (textAt l (i - 1)) (textAt l i) = false then some 4 else none
def propsN (l : List S98) : Int := if l.length > 8 then 5 else scanI (propStep l) l.length 0
def rowN (l : List ByteArray) : Int := scanI (textStep l) l.length 0
def restN (labels : List ByteArray) (props : List S98) : Int := if labels.length > 8 then 5 else if rowN labels = 0 then propsN props else rowN labels

theorem CheckProps_l0 (l : List S98) (hl : okProps l) : ∀ d i : Nat, i + d = l.length → ∀ k, 2 * d + 140737488351240 ≤ k →
    elem_CheckProps.l0 k l l (l.length : Int) (i : Int) = some (scanI (propStep l) d i)
  | 0, i, h, k, hk => by
    obtain ⟨k, rfl⟩ : ∃ m, k = m + 1 := ⟨k - 1, by omega⟩
    rw [elem_CheckProps.l0, if_neg (by omega)]
    rfl
  | d + 1, i, h, k, hk => by
    obtain ⟨k, rfl⟩ : ∃ m, k = m + 1 + 1 := ⟨k - 2, by omega⟩
    have hlen := hl.1
    have hg := okProps_at hl (i := i) (by omega)
    have ih := CheckProps_l0 l hl d (i + 1) (by omega) k (by omega)
    rw [elem_CheckProps.l0, if_pos (by omega), if_pos (by omega), if_pos (by omega), rd_prop, name_Check_ev _ hg.1 _ (by have := hg.1; omega)]
    simp only [Option.bind_some]
    have key : ∀ b : Bool, (b = !(nameB (propAt l i).f0 && valOk (propAt l i))) → elem_CheckProps.j1 (k + 1) l (i : Int) l (l.length : Int) (i : Int) b (propAt l i).f0 (propAt l i).f1.f0 (propAt l i).f1.f1 (propAt l i).f1.f2 = some (scanI (propStep l) (d + 1) i) := by
      intro b hb
      rw [elem_CheckProps.j1]
      have e : scanI (propStep l) (d + 1) i = match propStep l i with | some r => r | none => scanI (propStep l) d (i + 1) := rfl
      rw [e]
      clear e
      generalize scanI (propStep l) d (i + 1) = R at ih ⊢
      unfold propStep
      cases hv : (nameB (propAt l i).f0 && valOk (propAt l i)) with
      | false => rw [hv] at hb; simp [hb]
      | true =>
        rw [hv] at hb
        have hb' : b = false := hb
        subst hb'
        simp only [Bool.false_eq_true, if_false, Bool.true_eq_false]
        by_cases h0 : 0 < i
        · rw [if_pos (by omega)]
          rcases pred_cast h0 with hp | hp
          · rw [hp, if_pos (by omega), if_pos (by omega), rd_prop, w64 (by omega) (by omega), show ((i : Int) + 1) = ((i + 1 : Nat) : Int) by omega, ih]
            unfold lessB
            cases hless : Op.bytesLess (propAt l (i - 1)).f0.toList (propAt l i).f0.toList <;> simp [h0]
          · omega
        · rw [if_neg (by omega), w64 (by omega) (by omega), show ((i : Int) + 1) = ((i + 1 : Nat) : Int) by omega, ih]
          simp [h0]
    cases hn : nameB (propAt l i).f0 with
    | false =>
      simp only [Bool.false_eq_true, if_false]
      rw [if_neg (by decide)]
      exact key true (by simp [hn])
    | true =>
      simp only [if_true]
      rw [value_Check_eq]
      simp only [Option.bind_some]
      refine key _ ?_
      unfold valOk
      cases valueB (propAt l i).f1.f0 (propAt l i).f1.f1 (propAt l i).f1.f2 <;> simp [hn]
theorem CheckProps_ev (l : List S98) (hl : okProps l) (k : Nat) (hk : 1000000000000000 ≤ k) : elem_CheckProps.f k l = some (propsN l) := by
  unfold elem_CheckProps.f propsN
  have hlen := hl.1
  by_cases h : l.length > 8
  · rw [if_pos (by omega), if_pos h]
  · rw [if_neg (by omega), if_neg h, show (0 : Int) = ((0 : Nat) : Int) from rfl, CheckProps_l0 l hl l.length 0 (by omega) k (by omega)]

theorem refProps_l0 (l : List S98) (hl : okProps l) : ∀ d i : Nat, i + d = l.length → ∀ k, 2 * d + 140737488351240 ≤ k →
    pleachref25_Props.l0 k l (i : Int) = some (scanI (propStep l) d i)
  | 0, i, h, k, hk => by
    obtain ⟨k, rfl⟩ : ∃ m, k = m + 1 := ⟨k - 1, by omega⟩
    rw [pleachref25_Props.l0, if_neg (by omega)]
    rfl
  | d + 1, i, h, k, hk => by
    obtain ⟨k, rfl⟩ : ∃ m, k = m + 1 + 1 := ⟨k - 2, by omega⟩
    have hlen := hl.1
    have hg := okProps_at hl (i := i) (by omega)
    have ih := refProps_l0 l hl d (i + 1) (by omega) k (by omega)
    rw [pleachref25_Props.l0, if_pos (by omega), if_pos (by omega), rd_prop, refIs_ev _ hg.1 _ (by have := hg.1; omega)]
    simp only [Option.bind_some]
    have key : ∀ b : Bool, (b = !(nameB (propAt l i).f0 && valOk (propAt l i))) → pleachref25_Props.j1 (k + 1) l (i : Int) b = some (scanI (propStep l) (d + 1) i) := by
      intro b hb
      rw [pleachref25_Props.j1]
      have e : scanI (propStep l) (d + 1) i = match propStep l i with | some r => r | none => scanI (propStep l) d (i + 1) := rfl
      rw [e]
      clear e
      generalize scanI (propStep l) d (i + 1) = R at ih ⊢
      unfold propStep
      cases hv : (nameB (propAt l i).f0 && valOk (propAt l i)) with
      | false => rw [hv] at hb; simp [hb]
      | true =>
        rw [hv] at hb
        have hb' : b = false := hb
        subst hb'
        simp only [Bool.false_eq_true, if_false, Bool.true_eq_false]
        by_cases h0 : 0 < i
        · rw [if_pos (by omega), if_pos (by omega), if_pos (by omega)]
          rcases pred_cast h0 with hp | hp
          · rw [hp, if_pos (by omega), if_pos (by omega), rd_prop, rd_prop, w64 (by omega) (by omega), show ((i : Int) + 1) = ((i + 1 : Nat) : Int) by omega, ih]
            unfold lessB
            cases hless : Op.bytesLess (propAt l (i - 1)).f0.toList (propAt l i).f0.toList <;> simp [h0]
          · omega
        · rw [if_neg (by omega), w64 (by omega) (by omega), show ((i : Int) + 1) = ((i + 1 : Nat) : Int) by omega, ih]
          simp [h0]
    cases hn : nameB (propAt l i).f0 with
    | false =>
      simp only [Bool.false_eq_true, if_false]
      exact key true (by simp [hn])
    | true =>
      simp only [if_true]
      rw [refVIs_eq]
      simp only [Option.bind_some]
      refine key _ ?_
      unfold valOk
      cases valueB (propAt l i).f1.f0 (propAt l i).f1.f1 (propAt l i).f1.f2 <;> simp [hn]
theorem refProps_ev (l : List S98) (hl : okProps l) (k : Nat) (hk : 1000000000000000 ≤ k) : pleachref25_Props.f k l = some (propsN l) := by
  unfold pleachref25_Props.f propsN
  have hlen := hl.1
  by_cases h : l.length > 8
  · rw [if_pos (by omega), if_pos h]
  · rw [if_neg (by omega), if_neg h, show (0 : Int) = ((0 : Nat) : Int) from rfl, refProps_l0 l hl l.length 0 (by omega) k (by omega)]

theorem Row_l0 (l : List ByteArray) (hl : okTexts l) : ∀ d i : Nat, i + d = l.length → ∀ k, d + 140737488351240 ≤ k →
    name_Row.l0 k l l (l.length : Int) (i : Int) = some (scanI (textStep l) d i)
  | 0, i, h, k, hk => by
    obtain ⟨k, rfl⟩ : ∃ m, k = m + 1 := ⟨k - 1, by omega⟩
    rw [name_Row.l0, if_neg (by omega)]
    rfl
  | d + 1, i, h, k, hk => by
    obtain ⟨k, rfl⟩ : ∃ m, k = m + 1 := ⟨k - 1, by omega⟩
    have hlen := hl.1
    have hg := okTexts_at hl (i := i) (by omega)
    have ih := Row_l0 l hl d (i + 1) (by omega) k (by omega)
    rw [name_Row.l0, if_pos (by omega), if_pos (by omega), if_pos (by omega), rd_text, name_Check_ev _ hg _ (by omega)]
    simp only [Option.bind_some]
    have e : scanI (textStep l) (d + 1) i = match textStep l i with | some r => r | none => scanI (textStep l) d (i + 1) := rfl
    rw [e]
    clear e
    generalize scanI (textStep l) d (i + 1) = R at ih ⊢
    unfold textStep
    cases hn : nameB (textAt l i) with
    | false => simp
    | true =>
      simp only [if_true, Bool.true_eq_false, if_false]
      by_cases h0 : 0 < i
      · rw [if_pos (by omega)]
        rcases pred_cast h0 with hp | hp
        · rw [hp, if_pos (by omega), if_pos (by omega), rd_text, w64 (by omega) (by omega), show ((i : Int) + 1) = ((i + 1 : Nat) : Int) by omega, ih]
          unfold lessB
          cases hless : Op.bytesLess (textAt l (i - 1)).toList (textAt l i).toList <;> simp [h0]
        · omega
      · rw [if_neg (by omega), w64 (by omega) (by omega), show ((i : Int) + 1) = ((i + 1 : Nat) : Int) by omega, ih]
        simp [h0]
theorem Row_ev (l : List ByteArray) (hl : okTexts l) (k : Nat) (hk : 1000000000000000 ≤ k) : name_Row.f k l = some (rowN l) := by
  unfold name_Row.f rowN
  have hlen := hl.1
  rw [show (0 : Int) = ((0 : Nat) : Int) from rfl, Row_l0 l hl l.length 0 (by omega) k (by omega)]
theorem refRow_l0 (l : List ByteArray) (hl : okTexts l) : ∀ d i : Nat, i + d = l.length → ∀ k, d + 140737488351240 ≤ k →
    pleachref05_Row.l0 k l (i : Int) = some (scanI (textStep l) d i)
  | 0, i, h, k, hk => by
    obtain ⟨k, rfl⟩ : ∃ m, k = m + 1 := ⟨k - 1, by omega⟩
    rw [pleachref05_Row.l0, if_neg (by omega)]
    rfl
  | d + 1, i, h, k, hk => by
    obtain ⟨k, rfl⟩ : ∃ m, k = m + 1 := ⟨k - 1, by omega⟩
    have hlen := hl.1
    have hg := okTexts_at hl (i := i) (by omega)
    have ih := refRow_l0 l hl d (i + 1) (by omega) k (by omega)
    rw [pleachref05_Row.l0, if_pos (by omega), if_pos (by omega), rd_text, refIs_ev _ hg _ (by omega)]
    simp only [Option.bind_some]
    have e : scanI (textStep l) (d + 1) i = match textStep l i with | some r => r | none => scanI (textStep l) d (i + 1) := rfl
    rw [e]
    clear e
    generalize scanI (textStep l) d (i + 1) = R at ih ⊢
    unfold textStep
    cases hn : nameB (textAt l i) with
    | false => simp
    | true =>
      simp only [if_true, Bool.true_eq_false, if_false]
      by_cases h0 : 0 < i
      · rw [if_pos (by omega)]
        rcases pred_cast h0 with hp | hp
        · rw [hp, if_pos (by omega), if_pos (by omega), rd_text, w64 (by omega) (by omega), show ((i : Int) + 1) = ((i + 1 : Nat) : Int) by omega, ih]
          unfold lessB
          cases hless : Op.bytesLess (textAt l (i - 1)).toList (textAt l i).toList <;> simp [h0]
        · omega
      · rw [if_neg (by omega), w64 (by omega) (by omega), show ((i : Int) + 1) = ((i + 1 : Nat) : Int) by omega, ih]
        simp [h0]
theorem refRow_ev (l : List ByteArray) (hl : okTexts l) (k : Nat) (hk : 1000000000000000 ≤ k) : pleachref05_Row.f k l = some (rowN l) := by
  unfold pleachref05_Row.f rowN
  have hlen := hl.1
  rw [show (0 : Int) = ((0 : Nat) : Int) from rfl, refRow_l0 l hl l.length 0 (by omega) k (by omega)]
theorem rest_ev (a : List ByteArray) (l : List S98) (ha : okTexts a) (hl : okProps l) (k : Nat) (hk : 1000000000000000 ≤ k) : elem_rest.f k a l = some (restN a l) := by
  unfold elem_rest.f restN
  by_cases h : a.length > 8
  · rw [if_pos (by omega), if_pos h]
  · rw [if_neg (by omega), if_neg h, Row_ev a ha k hk]
    simp only [Option.bind_some]
    split
    · rw [CheckProps_ev l hl k hk]; rfl
    · rfl
theorem refRest_ev (a : List ByteArray) (l : List S98) (ha : okTexts a) (hl : okProps l) (k : Nat) (hk : 1000000000000000 ≤ k) : pleachref25_rest.f k a l = some (restN a l) := by
  unfold pleachref25_rest.f restN
  by_cases h : a.length > 8
  · rw [if_pos (by omega), if_pos h]
  · rw [if_neg (by omega), if_neg h, refRow_ev a ha k hk]
    simp only [Option.bind_some]
    split
    · rw [refProps_ev l hl k hk]; rfl
    · rfl
end Go.Proofs.Ytmnadajjgnniaaa.Q
end
section
namespace Go.Proofs.Ytmnadajjgnniaaa.Q
open Go.RowKit Go.Proofs.YtmnadajjgnniaaaW.PrintWords Go.Proofs.Ytmnadajjgnniaaa.MA Go.Proofs.Ytmnadajjgnniaaa.HOpen

theorem scanI_zero {step : Nat → Option Int} (hs : ∀ i r, step i = some r → r ≠ 0) : ∀ d i, scanI step d i = 0 → ∀ j, i ≤ j → j < i + d → step j = none
  | 0, i, _, j, h1, h2 => by omega
  | d + 1, i, h, j, h1, h2 => by
    have e : scanI step (d + 1) i = match step i with | some r => r | none => scanI step d (i + 1) := rfl
    rw [e] at h
    cases hq : step i with
    | some r => rw [hq] at h; exact absurd h (hs i r hq)
    | none =>
      rw [hq] at h
      by_cases hij : j = i
      · rw [hij]; exact hq
      · exact scanI_zero hs d (i + 1) h j (by omega) (by omega)
theorem scanI_none {step : Nat → Option Int} : ∀ d i, (∀ j, i ≤ j → j < i + d → step j = none) → scanI step d i = 0
  | 0, i, _ => rfl
  | d + 1, i, h => by
    have e : scanI step (d + 1) i = match step i with | some r => r | none => scanI step d (i + 1) := rfl
    rw [e, h i (by omega) (by omega)]
    exact scanI_none d (i + 1) (fun j h1 h2 => h j (by omega) (by omega))
theorem propStep_ne (l : List S98) (i : Nat) (r : Int) (h : propStep l i = some r) : r ≠ 0 := by
  unfold propStep at h
  split at h
  · injection h with h; omega
  · split at h
    · injection h with h; omega
    · cases h
theorem textStep_ne (l : List ByteArray) (i : Nat) (r : Int) (h : textStep l i = some r) : r ≠ 0 := by
  unfold textStep at h
  split at h
  · injection h with h; omega
  · split at h
    · injection h with h; omega
    · cases h
theorem nameB_size {s : ByteArray} (h : nameB s = true) : 1 ≤ s.size ∧ s.size ≤ 12 := by
  unfold nameB at h
  simp at h
  exact ⟨h.1.1, h.1.2⟩
theorem textStep_none {l : List ByteArray} {i : Nat} (h : textStep l i = none) : nameB (textAt l i) = true ∧ (0 < i → lessB (textAt l (i - 1)) (textAt l i) = true) := by
  unfold textStep at h
  split at h
  · cases h
  · rename_i h1
    split at h
    · cases h
    · rename_i h2
      refine ⟨by simpa using h1, fun h0 => ?_⟩
      cases hq : lessB (textAt l (i - 1)) (textAt l i) with
      | true => rfl
      | false => exact absurd ⟨h0, hq⟩ h2
theorem propStep_none {l : List S98} {i : Nat} (h : propStep l i = none) : nameB (propAt l i).f0 = true ∧ valOk (propAt l i) = true ∧ (0 < i → lessB (propAt l (i - 1)).f0 (propAt l i).f0 = true) := by
  unfold propStep at h
  split at h
  · cases h
  · rename_i h1
    split at h
    · cases h
    · rename_i h2
      have h3 : nameB (propAt l i).f0 = true ∧ valOk (propAt l i) = true := by simpa using h1
      refine ⟨h3.1, h3.2, fun h0 => ?_⟩
      cases hq : lessB (propAt l (i - 1)).f0 (propAt l i).f0 with
      | true => rfl
      | false => exact absurd ⟨h0, hq⟩ h2
theorem rowN_zero {l : List ByteArray} (h : rowN l = 0) {i : Nat} (hi : i < l.length) : nameB (textAt l i) = true ∧ (0 < i → lessB (textAt l (i - 1)) (textAt l i) = true) :=
  textStep_none (scanI_zero (textStep_ne l) l.length 0 h i (by omega) (by omega))
theorem propsN_len {l : List S98} (h : propsN l = 0) : l.length ≤ 8 := by
  unfold propsN at h
  split at h
  · omega
  · omega
theorem propsN_zero {l : List S98} (h : propsN l = 0) {i : Nat} (hi : i < l.length) : nameB (propAt l i).f0 = true ∧ valOk (propAt l i) = true ∧ (0 < i → lessB (propAt l (i - 1)).f0 (propAt l i).f0 = true) := by
  have h8 := propsN_len h
  unfold propsN at h
  rw [if_neg (by omega)] at h
  exact propStep_none (scanI_zero (propStep_ne l) l.length 0 h i (by omega) (by omega))
theorem restN_zero {a : List ByteArray} {l : List S98} (h : restN a l = 0) : a.length ≤ 8 ∧ rowN a = 0 ∧ propsN l = 0 := by
  unfold restN at h
  split at h
  · omega
  · split at h
    · rename_i h1 h2
      exact ⟨by omega, h2, h⟩
    · rename_i h1 h2
      exact absurd h h2

def catT (l : List ByteArray) : Nat → Nat → ByteArray
  | 0, _ => ⟨#[]⟩
  | d + 1, i => textB (textAt l i) ++ catT l d (i + 1)
def propB (p : S98) : ByteArray := textB p.f0 ++ valB p.f1.f0 p.f1.f1 p.f1.f2
def catP (l : List S98) : Nat → Nat → ByteArray
  | 0, _ => ⟨#[]⟩
  | d + 1, i => propB (propAt l i) ++ catP l d (i + 1)
def putB (a : List ByteArray) (l : List S98) : ByteArray := numB a.length ++ (catT a a.length 0 ++ (numB l.length ++ catP l l.length 0))
theorem app_nil (s : ByteArray) : s ++ (⟨#[]⟩ : ByteArray) = s := by apply ByteArray.ext; simp
theorem nil_app (s : ByteArray) : (⟨#[]⟩ : ByteArray) ++ s = s := by apply ByteArray.ext; simp
structure Short (a : List ByteArray) (l : List S98) : Prop where
  na : a.length ≤ 8
  nl : l.length ≤ 8
  ta : ∀ i, i < a.length → (textAt a i).size ≤ 12
  tl : ∀ i, i < l.length → (propAt l i).f0.size ≤ 12
theorem Short.of {a : List ByteArray} {l : List S98} (h : restN a l = 0) : Short a l := by
  obtain ⟨h1, h2, h3⟩ := restN_zero h
  exact ⟨h1, propsN_len h3, fun i hi => (nameB_size (rowN_zero h2 hi).1).2, fun i hi => (nameB_size (propsN_zero h3 hi).1).2⟩
theorem propB_size (p : S98) (h : p.f0.size ≤ 12) : (propB p).size ≤ 102 := by
  unfold propB
  rw [ByteArray.size_append]
  have := textB_size p.f0
  have := valB_size p.f1.f0 p.f1.f1 p.f1.f2
  omega

theorem elemPut_l1 (a : List ByteArray) (l : List S98) (hs : Short a l) (hl : okProps l) : ∀ (d i : Nat) (out : ByteArray), i + d = l.length → out.size ≤ 1000 + 102 * i → ∀ k, d + 1 ≤ k →
    elem_put.l1 k out l (l.length : Int) (i : Int) = some (out ++ catP l d i)
  | 0, i, out, h, ho, k, hk => by
    obtain ⟨k, rfl⟩ : ∃ m, k = m + 1 := ⟨k - 1, by omega⟩
    rw [elem_put.l1, if_neg (by omega), catP, app_nil]
  | d + 1, i, out, h, ho, k, hk => by
    obtain ⟨k, rfl⟩ : ∃ m, k = m + 1 := ⟨k - 1, by omega⟩
    have hil : i < l.length := by omega
    have hg := okProps_at hl hil
    have hsz := propB_size _ (hs.tl i hil)
    have h8 := hs.nl
    rw [elem_put.l1, if_pos (by omega), if_pos (by omega), if_pos (by omega), rd_prop, value_Put_eq _ _ _ (wf_i64 hg.2.2.1), PutText_eq _ hg.1]
    simp only [Option.bind_some]
    have e : (textB (propAt l i).f0 ++ valB (propAt l i).f1.f0 (propAt l i).f1.f1 (propAt l i).f1.f2) = propB (propAt l i) := rfl
    have e2 := ByteArray.size_append (a := textB (propAt l i).f0) (b := valB (propAt l i).f1.f0 (propAt l i).f1.f1 (propAt l i).f1.f2)
    rw [e] at e2
    rw [if_pos (by omega), if_pos (by omega), w64 (by omega) (by omega), e, show ((i : Int) + 1) = ((i + 1 : Nat) : Int) by omega]
    rw [elemPut_l1 a l hs hl d (i + 1) _ (by omega) (by rw [ByteArray.size_append]; omega) k (by omega), catP, ByteArray.append_assoc]
theorem elemPut_l0 (a : List ByteArray) (l : List S98) (hs : Short a l) (ha : okTexts a) (hl : okProps l) : ∀ (d i : Nat) (out : ByteArray), i + d = a.length → out.size ≤ 10 + 22 * i → ∀ k, d + 20 ≤ k →
    elem_put.l0 k l out a (a.length : Int) (i : Int) = some (out ++ (catT a d i ++ (numB l.length ++ catP l l.length 0)))
  | 0, i, out, h, ho, k, hk => by
    obtain ⟨k, rfl⟩ : ∃ m, k = m + 1 := ⟨k - 1, by omega⟩
    have h8 := hs.na
    have h9 := hs.nl
    have hb := numB_size l.length
    rw [elem_put.l0, if_neg (by omega), PutNum_eq l.length (by omega)]
    simp only [Option.bind_some]
    rw [if_pos (by omega), show (0 : Int) = ((0 : Nat) : Int) from rfl, elemPut_l1 a l hs hl l.length 0 _ (by omega) (by rw [ByteArray.size_append]; omega) k (by omega), catT, ByteArray.append_assoc, nil_app]
  | d + 1, i, out, h, ho, k, hk => by
    obtain ⟨k, rfl⟩ : ∃ m, k = m + 1 := ⟨k - 1, by omega⟩
    have hil : i < a.length := by omega
    have h8 := hs.na
    have h12 := hs.ta i hil
    have hsz := textB_size (textAt a i)
    rw [elem_put.l0, if_pos (by omega), if_pos (by omega), if_pos (by omega), rd_text, PutText_eq _ (by omega)]
    simp only [Option.bind_some]
    rw [if_pos (by omega), w64 (by omega) (by omega), show ((i : Int) + 1) = ((i + 1 : Nat) : Int) by omega]
    rw [elemPut_l0 a l hs ha hl d (i + 1) _ (by omega) (by rw [ByteArray.size_append]; omega) k (by omega), catT, ByteArray.append_assoc, ByteArray.append_assoc]
theorem put_ev (a : List ByteArray) (l : List S98) (hs : Short a l) (ha : okTexts a) (hl : okProps l) (k : Nat) (hk : 1000 ≤ k) : elem_put.f k a l = some (putB a l) := by
  unfold elem_put.f
  have h8 := hs.na
  rw [PutNum_eq a.length (by omega)]
  simp only [Option.bind_some]
  rw [show (0 : Int) = ((0 : Nat) : Int) from rfl, elemPut_l0 a l hs ha hl a.length 0 _ (by omega) (by have := numB_size a.length; omega) k (by omega)]
  rfl
theorem refPut_l1 (a : List ByteArray) (l : List S98) (hs : Short a l) (hl : okProps l) : ∀ (d i : Nat) (out : ByteArray), i + d = l.length → out.size ≤ 1000 + 102 * i → ∀ k, d + 20 ≤ k →
    pleachref25_put.l1 k l out (i : Int) = some (out ++ catP l d i)
  | 0, i, out, h, ho, k, hk => by
    obtain ⟨k, rfl⟩ : ∃ m, k = m + 1 := ⟨k - 1, by omega⟩
    rw [pleachref25_put.l1, if_neg (by omega), catP, app_nil]
  | d + 1, i, out, h, ho, k, hk => by
    obtain ⟨k, rfl⟩ : ∃ m, k = m + 1 := ⟨k - 1, by omega⟩
    have hil : i < l.length := by omega
    have hg := okProps_at hl hil
    have hsz := propB_size _ (hs.tl i hil)
    have h8 := hs.nl
    rw [pleachref25_put.l1, if_pos (by omega), if_pos (by omega), rd_prop, refPutText_ev _ hg.1 k (by omega)]
    simp only [Option.bind_some]
    have e : (textB (propAt l i).f0 ++ valB (propAt l i).f1.f0 (propAt l i).f1.f1 (propAt l i).f1.f2) = propB (propAt l i) := rfl
    have e2 := ByteArray.size_append (a := textB (propAt l i).f0) (b := valB (propAt l i).f1.f0 (propAt l i).f1.f1 (propAt l i).f1.f2)
    rw [e] at e2
    rw [if_pos (by omega), refVPut_ev _ _ _ (wf_i64 hg.2.2.1) k (by omega)]
    simp only [Option.bind_some]
    rw [if_pos (by omega), w64 (by omega) (by omega), ByteArray.append_assoc, e, show ((i : Int) + 1) = ((i + 1 : Nat) : Int) by omega]
    rw [refPut_l1 a l hs hl d (i + 1) _ (by omega) (by rw [ByteArray.size_append]; omega) k (by omega), catP, ByteArray.append_assoc]
theorem refPut_l0 (a : List ByteArray) (l : List S98) (hs : Short a l) (ha : okTexts a) (hl : okProps l) : ∀ (d i : Nat) (out : ByteArray), i + d = a.length → out.size ≤ 10 + 22 * i → ∀ k, d + 40 ≤ k →
    pleachref25_put.l0 k a l out (i : Int) = some (out ++ (catT a d i ++ (numB l.length ++ catP l l.length 0)))
  | 0, i, out, h, ho, k, hk => by
    obtain ⟨k, rfl⟩ : ∃ m, k = m + 1 := ⟨k - 1, by omega⟩
    have h8 := hs.na
    have h9 := hs.nl
    have hb := numB_size l.length
    rw [pleachref25_put.l0, if_neg (by omega), refPutNum_ev l.length (by omega) k (by omega)]
    simp only [Option.bind_some]
    rw [if_pos (by omega), show (0 : Int) = ((0 : Nat) : Int) from rfl, refPut_l1 a l hs hl l.length 0 _ (by omega) (by rw [ByteArray.size_append]; omega) k (by omega), catT, ByteArray.append_assoc, nil_app]
  | d + 1, i, out, h, ho, k, hk => by
    obtain ⟨k, rfl⟩ : ∃ m, k = m + 1 := ⟨k - 1, by omega⟩
    have hil : i < a.length := by omega
    have h8 := hs.na
    have h12 := hs.ta i hil
    have hsz := textB_size (textAt a i)
    rw [pleachref25_put.l0, if_pos (by omega), if_pos (by omega), rd_text, refPutText_ev _ (by omega) k (by omega)]
    simp only [Option.bind_some]
    rw [if_pos (by omega), w64 (by omega) (by omega), show ((i : Int) + 1) = ((i + 1 : Nat) : Int) by omega]
    rw [refPut_l0 a l hs ha hl d (i + 1) _ (by omega) (by rw [ByteArray.size_append]; omega) k (by omega), catT, ByteArray.append_assoc, ByteArray.append_assoc]
theorem refPut_ev2 (a : List ByteArray) (l : List S98) (hs : Short a l) (ha : okTexts a) (hl : okProps l) (k : Nat) (hk : 1000 ≤ k) : pleachref25_put.f k a l = some (putB a l) := by
  unfold pleachref25_put.f
  have h8 := hs.na
  rw [refPutNum_ev a.length (by omega) k (by omega)]
  simp only [Option.bind_some]
  rw [show (0 : Int) = ((0 : Nat) : Int) from rfl, refPut_l0 a l hs ha hl a.length 0 _ (by omega) (by have := numB_size a.length; omega) k (by omega)]
  rfl
def nodeN (id : ByteArray) (a : List ByteArray) (l : List S98) : Int := if nameB id then restN a l else 2
def nodeB (id : ByteArray) (a : List ByteArray) (l : List S98) : ByteArray := if nodeN id a l = 0 then putB a l else ⟨#[]⟩
theorem nodeN_short {id : ByteArray} {a : List ByteArray} {l : List S98} (h : nodeN id a l = 0) : Short a l := by
  unfold nodeN at h
  split at h
  · exact Short.of h
  · omega
theorem CheckNode_ev (id : ByteArray) (a : List ByteArray) (l : List S98) (hi : id.size ≤ 140737488351232) (ha : okTexts a) (hl : okProps l) (k : Nat) (hk : 1000000000000000 ≤ k) : elem_CheckNode.f k id a l = some (nodeN id a l) := by
  unfold elem_CheckNode.f nodeN
  rw [name_Check_ev id hi k (by omega)]
  simp only [Option.bind_some]
  cases nameB id with
  | true => simp only [if_true]; rw [rest_ev a l ha hl k hk]; rfl
  | false => simp
theorem refNode_ev (id : ByteArray) (a : List ByteArray) (l : List S98) (hi : id.size ≤ 140737488351232) (ha : okTexts a) (hl : okProps l) (k : Nat) (hk : 1000000000000000 ≤ k) : pleachref25_Node.f k id a l = some (nodeN id a l) := by
  unfold pleachref25_Node.f nodeN
  rw [refIs_ev id hi k (by omega)]
  simp only [Option.bind_some]
  cases nameB id with
  | true => simp only [if_true]; rw [refRest_ev a l ha hl k hk]; rfl
  | false => simp
theorem PutNode_ev (id : ByteArray) (a : List ByteArray) (l : List S98) (hi : id.size ≤ 140737488351232) (ha : okTexts a) (hl : okProps l) (k : Nat) (hk : 1000000000000000 ≤ k) : elem_PutNode.f k id a l = some (nodeB id a l, nodeN id a l) := by
  unfold elem_PutNode.f nodeB
  rw [CheckNode_ev id a l hi ha hl k hk]
  simp only [Option.bind_some]
  by_cases h : nodeN id a l = 0
  · rw [if_pos h, if_pos h, put_ev a l (nodeN_short h) ha hl k (by omega), h]; rfl
  · rw [if_neg h, if_neg h]
theorem refPutNode_ev (id : ByteArray) (a : List ByteArray) (l : List S98) (hi : id.size ≤ 140737488351232) (ha : okTexts a) (hl : okProps l) (k : Nat) (hk : 1000000000000000 ≤ k) : pleachref25_PutNode.f k id a l = some (nodeB id a l) := by
  unfold pleachref25_PutNode.f nodeB
  rw [refNode_ev id a l hi ha hl k hk]
  simp only [Option.bind_some]
  by_cases h : nodeN id a l = 0
  · rw [if_pos h, if_pos h, refPut_ev2 a l (nodeN_short h) ha hl k (by omega)]; rfl
  · rw [if_neg h, if_neg h]
theorem Bytes_l0 (l : List ByteArray) (hl : l.length ≤ 140737488351232) : ∀ (d i : Nat) (n : Int), i + d = l.length → ∀ k, d + 1 ≤ k → ∃ r, pleachplain_Bytes.l0 k n l (l.length : Int) (i : Int) = some r
  | 0, i, n, h, k, hk => by
    obtain ⟨k, rfl⟩ : ∃ m, k = m + 1 := ⟨k - 1, by omega⟩
    rw [pleachplain_Bytes.l0, if_neg (by omega)]
    exact ⟨_, rfl⟩
  | d + 1, i, n, h, k, hk => by
    obtain ⟨k, rfl⟩ : ∃ m, k = m + 1 := ⟨k - 1, by omega⟩
    rw [pleachplain_Bytes.l0, if_pos (by omega), if_pos (by omega), if_pos (by omega)]
    split
    · exact ⟨_, rfl⟩
    · rw [w64 (x := (i : Int) + 1) (by omega) (by omega), show ((i : Int) + 1) = ((i + 1 : Nat) : Int) by omega]
      exact Bytes_l0 l hl d (i + 1) _ (by omega) k (by omega)
theorem Bytes_ev (l : List ByteArray) (hl : l.length ≤ 140737488351232) (k : Nat) (hk : 1000000000000000 ≤ k) : ∃ r, pleachplain_Bytes.f k l = some r := by
  unfold pleachplain_Bytes.f
  rw [show (0 : Int) = ((0 : Nat) : Int) from rfl]
  exact Bytes_l0 l hl l.length 0 _ (by omega) k (by omega)
theorem few_l0 (a : List ByteArray) (l : List S98) (ha : a.length ≤ 140737488351232) (hl : l.length ≤ 140737488351232) : ∀ (d i : Nat) (n : Int), i + d = l.length → ∀ k, d + 1000000000000001 ≤ k → ∃ r, pleachlaw25_few.l0 k a l n (i : Int) = some r := by
  intro d
  induction d with
  | zero =>
    intro i n h k hk
    obtain ⟨k, rfl⟩ : ∃ m, k = m + 1 := ⟨k - 1, by omega⟩
    obtain ⟨r, hr⟩ := Bytes_ev a ha k (by omega)
    rw [pleachlaw25_few.l0, if_neg (by omega), hr]
    repeat' split
    all_goals exact ⟨_, rfl⟩
  | succ d ih =>
    intro i n h k hk
    obtain ⟨k, rfl⟩ : ∃ m, k = m + 1 := ⟨k - 1, by omega⟩
    obtain ⟨r, hr⟩ := Bytes_ev a ha k (by omega)
    rw [pleachlaw25_few.l0, if_pos (by omega), hr]
    split
    · rw [if_pos (by omega), w64 (x := (i : Int) + 1) (by omega) (by omega), show ((i : Int) + 1) = ((i + 1 : Nat) : Int) by omega]
      exact ih (i + 1) _ (by omega) k (by omega)
    · repeat' split
      all_goals exact ⟨_, rfl⟩
theorem few_ev (a : List ByteArray) (l : List S98) (ha : a.length ≤ 140737488351232) (hl : l.length ≤ 140737488351232) (k : Nat) (hk : 2000000000000000 ≤ k) : ∃ r, pleachlaw25_few.f k a l = some r := by
  unfold pleachlaw25_few.f
  rw [show (0 : Int) = ((0 : Nat) : Int) from rfl]
  exact few_l0 a l ha hl l.length 0 _ (by omega) k (by omega)
theorem awake_ev (k : Nat) (hk : 1000000000000000 ≤ k) : pleachlaw25_awake.f k = some true := by
  unfold pleachlaw25_awake.f
  rw [PutNode_ev ⟨#[97]⟩ [] [] (by decide) ⟨by simp, by simp⟩ ⟨by simp, by simp⟩ k hk]
  simp only [Option.bind_some]
  have e1 : nodeN ⟨#[97]⟩ [] [] = 0 := by decide +kernel
  have e2 : nodeB ⟨#[97]⟩ [] [] = ⟨#[0, 0]⟩ := by decide +kernel
  rw [e1, e2]
  have e3 : (⟨#[0, 0]⟩ : ByteArray).toList = [0, 0] := by decide +kernel
  rw [if_pos e3]
  rfl
end Go.Proofs.Ytmnadajjgnniaaa.Q
end
section
namespace Go.Proofs.Ytmnadajjgnniaaa.Q
open Go.RowKit Go.Proofs.YtmnadajjgnniaaaW.PrintWords Go.Proofs.Ytmnadajjgnniaaa.MA Go.Proofs.Ytmnadajjgnniaaa.HOpen

theorem catT_size (a : List ByteArray) (l : List S98) (hs : Short a l) : ∀ d i, i + d = a.length → (catT a d i).size ≤ 22 * d
  | 0, i, _ => by simp [catT, ByteArray.size]
  | d + 1, i, h => by
    have := catT_size a l hs d (i + 1) (by omega)
    have := textB_size (textAt a i)
    have := hs.ta i (by omega)
    rw [catT, ByteArray.size_append]
    omega
theorem catP_size (a : List ByteArray) (l : List S98) (hs : Short a l) : ∀ d i, i + d = l.length → (catP l d i).size ≤ 102 * d
  | 0, i, _ => by simp [catP, ByteArray.size]
  | d + 1, i, h => by
    have := catP_size a l hs d (i + 1) (by omega)
    have := propB_size (propAt l i) (hs.tl i (by omega))
    rw [catP, ByteArray.size_append]
    omega
theorem putB_size (a : List ByteArray) (l : List S98) (hs : Short a l) : (putB a l).size ≤ 2000 := by
  unfold putB
  rw [ByteArray.size_append, ByteArray.size_append, ByteArray.size_append]
  have := catT_size a l hs a.length 0 (by omega)
  have := catP_size a l hs l.length 0 (by omega)
  have := numB_size a.length
  have := numB_size l.length
  have := hs.na
  have := hs.nl
  omega
def edgeN (id f t : ByteArray) (a : List ByteArray) (l : List S98) : Int := if nameB id && nameB f && nameB t then restN a l else 2
def edgeB (id f t : ByteArray) (a : List ByteArray) (l : List S98) : ByteArray := if edgeN id f t a l = 0 then (textB f ++ textB t) ++ putB a l else ⟨#[]⟩
theorem edgeN_zero {id f t : ByteArray} {a : List ByteArray} {l : List S98} (h : edgeN id f t a l = 0) : nameB id = true ∧ nameB f = true ∧ nameB t = true ∧ restN a l = 0 := by
  unfold edgeN at h
  split at h
  · rename_i hb
    simp at hb
    exact ⟨hb.1.1, hb.1.2, hb.2, h⟩
  · omega
theorem CheckEdge_ev (id f t : ByteArray) (a : List ByteArray) (l : List S98) (hi : id.size ≤ 140737488351232) (hf : f.size ≤ 140737488351232) (ht : t.size ≤ 140737488351232) (ha : okTexts a) (hl : okProps l) (k : Nat) (hk : 1000000000000000 ≤ k) : elem_CheckEdge.f k id f t a l = some (edgeN id f t a l) := by
  unfold elem_CheckEdge.f edgeN
  rw [name_Check_ev id hi k (by omega), name_Check_ev f hf k (by omega), name_Check_ev t ht k (by omega), rest_ev a l ha hl k hk]
  cases nameB id <;> cases nameB f <;> cases nameB t <;> simp
theorem refEdge_ev (id f t : ByteArray) (a : List ByteArray) (l : List S98) (hi : id.size ≤ 140737488351232) (hf : f.size ≤ 140737488351232) (ht : t.size ≤ 140737488351232) (ha : okTexts a) (hl : okProps l) (k : Nat) (hk : 1000000000000000 ≤ k) : pleachref25_Edge.f k id f t a l = some (edgeN id f t a l) := by
  unfold pleachref25_Edge.f edgeN
  rw [refIs_ev id hi k (by omega), refIs_ev f hf k (by omega), refIs_ev t ht k (by omega), refRest_ev a l ha hl k hk]
  cases nameB id <;> cases nameB f <;> cases nameB t <;> simp
theorem PutEdge_ev (id f t : ByteArray) (a : List ByteArray) (l : List S98) (hi : id.size ≤ 140737488351232) (hf : f.size ≤ 140737488351232) (ht : t.size ≤ 140737488351232) (ha : okTexts a) (hl : okProps l) (k : Nat) (hk : 1000000000000000 ≤ k) : elem_PutEdge.f k id f t a l = some (edgeB id f t a l, edgeN id f t a l) := by
  unfold elem_PutEdge.f edgeB
  rw [CheckEdge_ev id f t a l hi hf ht ha hl k hk]
  simp only [Option.bind_some]
  by_cases h : edgeN id f t a l = 0
  · obtain ⟨_, h2, h3, h4⟩ := edgeN_zero h
    have hs := Short.of h4
    have s1 := textB_size f
    have s2 := textB_size t
    have s3 := putB_size a l hs
    have z1 := (nameB_size h2).2
    have z2 := (nameB_size h3).2
    rw [if_pos h, if_pos h, PutText_eq f hf, PutText_eq t ht]
    simp only [Option.bind_some]
    rw [if_pos (by omega), put_ev a l hs ha hl k (by omega)]
    simp only [Option.bind_some]
    rw [if_pos (by omega), h]
  · rw [if_neg h, if_neg h]
theorem refPutEdge_ev (id f t : ByteArray) (a : List ByteArray) (l : List S98) (hi : id.size ≤ 140737488351232) (hf : f.size ≤ 140737488351232) (ht : t.size ≤ 140737488351232) (ha : okTexts a) (hl : okProps l) (k : Nat) (hk : 1000000000000000 ≤ k) : pleachref25_PutEdge.f k id f t a l = some (edgeB id f t a l) := by
  unfold pleachref25_PutEdge.f edgeB
  rw [refEdge_ev id f t a l hi hf ht ha hl k hk]
  simp only [Option.bind_some]
  by_cases h : edgeN id f t a l = 0
  · obtain ⟨_, h2, h3, h4⟩ := edgeN_zero h
    have hs := Short.of h4
    have s1 := textB_size f
    have s2 := textB_size t
    have s3 := putB_size a l hs
    have z1 := (nameB_size h2).2
    have z2 := (nameB_size h3).2
    rw [if_pos h, if_pos h, refPutText_ev f hf k (by omega), refPutText_ev t ht k (by omega)]
    simp only [Option.bind_some]
    rw [if_pos (by omega), refPut_ev2 a l hs ha hl k (by omega)]
    simp only [Option.bind_some]
    rw [if_pos (by omega)]
  · rw [if_neg h, if_neg h]
end Go.Proofs.Ytmnadajjgnniaaa.Q
end
section
namespace Go.Proofs.Ytmnadajjgnniaaa.Pure
open Go.RowKit Go.Proofs.Ytmnadajjgnniaaa.MA Go.Proofs.Ytmnadajjgnniaaa.HOpen Go.Proofs.YtmnadajjgnniaaaW.PrintWords Go.Proofs.Ytmnadajjgnniaaa.Q

theorem edge_j0_true (k : Nat) (hk : 1000000000000001 ≤ k) (s f t : ByteArray) (a : List ByteArray) (l : List S98) : pleachlaw25_ElemEdges.j0 k true s f t a l = some true := by
  obtain ⟨k, rfl⟩ : ∃ m, k = m + 1 := ⟨k - 1, by omega⟩
  rw [pleachlaw25_ElemEdges.j0, if_pos rfl, awake_ev k (by omega)]
  rfl
theorem ElemEdges : pleachlaw25_ElemEdges.Pure := by
  intro x0 h
  obtain ⟨hi, hf, ht, ha, hl⟩ := h
  have ha' : okTexts x0.f3 := ⟨by omega, ha.2⟩
  have hl' : okProps x0.f4 := ⟨by omega, hl.2⟩
  obtain ⟨k, hk⟩ : ∃ k, 2000000000000001 ≤ k := ⟨_, Nat.le_refl _⟩
  refine ⟨k, ?_⟩
  unfold pleachlaw25_ElemEdges.f
  split
  · exact edge_j0_true k (by omega) _ _ _ _ _
  · split
    · exact edge_j0_true k (by omega) _ _ _ _ _
    · split
      · exact edge_j0_true k (by omega) _ _ _ _ _
      · obtain ⟨b, hb⟩ := few_ev x0.f3 x0.f4 ha'.1 hl'.1 k (by omega)
        rw [hb]
        simp only [Option.bind_some]
        cases b with
        | false => exact edge_j0_true k (by omega) _ _ _ _ _
        | true =>
          obtain ⟨k, rfl⟩ : ∃ m, k = m + 1 := ⟨k - 1, by omega⟩
          have hk2 : 1000000000000000 ≤ k := by omega
          rw [pleachlaw25_ElemEdges.j0, if_neg (by decide), PutEdge_ev _ _ _ _ _ hi hf ht ha' hl' k hk2, refPutEdge_ev _ _ _ _ _ hi hf ht ha' hl' k hk2, refEdge_ev _ _ _ _ _ hi hf ht ha' hl' k hk2, CheckEdge_ev _ _ _ _ _ hi hf ht ha' hl' k hk2, awake_ev k hk2]
          simp
end Go.Proofs.Ytmnadajjgnniaaa.Pure
end
