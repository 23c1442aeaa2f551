/- Walks of the functions of the given program that the law reaches, what they compute, and laws on that. Conditions: as each theorem says. -/
import Derived.Test.YtmnadajjgnniaaaCElemTakesF1
set_option linter.unusedVariables false
set_option linter.unusedSimpArgs false
section
namespace Go.Proofs.Ytmnadajjgnniaaa.MA
open Go.RowKit Go.Proofs.YtmnadajjgnniaaaW.PrintWords Go.Proofs.YtmnadajjgnniaaaW.PrintLast Go.Proofs.YtmnadajjgnniaaaW.PrintMore
attribute [local go_sem] max2_int min2_int max_two min_two max_three min_three max_four min_four

mutual
def pleachref25_Props.l0 : Nat → List (S98) → Int → Option (Int)
  | 0, _, _ => none
  | k + 1, x0, x3 => if x3 < (x0.length : Int) then (if 0 ≤ x3 then ((pleachref05_Is.f k ((rd_T98 x0 x3).f0)).bind fun t102 => (if t102 = true then ((pleachref06_Is.f ((rd_T98 x0 x3).f1.f0) ((rd_T98 x0 x3).f1.f1) ((rd_T98 x0 x3).f1.f2)).bind fun t104 => (pleachref25_Props.j1 k x0 x3 (!t104))) else (pleachref25_Props.j1 k x0 x3 true))) else (none)) else (some 0)
def pleachref25_Props.j1 : Nat → List (S98) → Int → Bool → Option (Int)
  | 0, _, _, _ => none
  | k + 1, x0, x3, x28 => if x28 = true then (some 2) else (if x3 > 0 then (if 0 ≤ x3 then (if x3 < (x0.length : Int) then (if 0 ≤ (wrap64 (x3 - 1)) then (if (wrap64 (x3 - 1)) < (x0.length : Int) then (if ((Op.bytesLess (((rd_T98 x0 (wrap64 (x3 - 1))).f0).toList) (((rd_T98 x0 x3).f0).toList)) = true) then (pleachref25_Props.l0 k x0 (wrap64 (x3 + 1))) else (some 4)) else (none)) else (none)) else (none)) else (none)) else (pleachref25_Props.l0 k x0 (wrap64 (x3 + 1))))
end
def pleachref25_Props.f (k : Nat) (l0 : List (S98)) : Option (Int) := if (l0.length : Int) > 8 then (some 5) else (pleachref25_Props.l0 k l0 0)
theorem pleachref25_Props.mono_l : ∀ k, (∀ y0 y1, LeO (pleachref25_Props.l0 k y0 y1) (pleachref25_Props.l0 (k + 1) y0 y1)) ∧ (∀ y0 y1 y2, LeO (pleachref25_Props.j1 k y0 y1 y2) (pleachref25_Props.j1 (k + 1) y0 y1 y2))
  | 0 => ⟨fun _ _ r h => by simp [pleachref25_Props.l0] at h, fun _ _ _ r h => by simp [pleachref25_Props.j1] at h⟩
  | k + 1 => by
    obtain ⟨ih0, ih1⟩ := pleachref25_Props.mono_l k; refine ⟨?_, ?_⟩
    · intro y0 y1; unfold pleachref25_Props.l0
      repeat' first
      | (with_reducible exact ih0 _ _)
      | (with_reducible exact ih1 _ _ _)
      | (with_reducible exact pleachref05_Is.mono _ _)
      | (with_reducible exact LeO.refl _)
      | (with_reducible exact LeO.none _)
      | (with_reducible refine LeO.ite ?_ ?_)
      | (with_reducible refine LeO.bind ?_ (fun _ => ?_))
      | exact ih0 _ _
      | exact ih1 _ _ _
      | exact pleachref05_Is.mono _ _
      | exact LeO.none _
      | refine LeO.ite ?_ ?_
      | refine LeO.bind ?_ (fun _ => ?_)
    · intro y0 y1 y2; unfold pleachref25_Props.j1
      repeat' first
      | (with_reducible exact ih0 _ _)
      | (with_reducible exact ih1 _ _ _)
      | (with_reducible exact pleachref05_Is.mono _ _)
      | (with_reducible exact LeO.refl _)
      | (with_reducible exact LeO.none _)
      | (with_reducible refine LeO.ite ?_ ?_)
      | (with_reducible refine LeO.bind ?_ (fun _ => ?_))
      | exact ih0 _ _
      | exact ih1 _ _ _
      | exact pleachref05_Is.mono _ _
      | exact LeO.none _
      | refine LeO.ite ?_ ?_
      | refine LeO.bind ?_ (fun _ => ?_)
theorem pleachref25_Props.mono : ∀ a0 k, LeO (pleachref25_Props.f k a0) (pleachref25_Props.f (k + 1) a0) := by
  intro a0 k; obtain ⟨ih0, ih1⟩ := pleachref25_Props.mono_l k; unfold pleachref25_Props.f
  repeat' first
      | (with_reducible exact ih0 _ _)
      | (with_reducible exact ih1 _ _ _)
      | (with_reducible exact pleachref05_Is.mono _ _)
      | (with_reducible exact LeO.refl _)
      | (with_reducible exact LeO.none _)
      | (with_reducible refine LeO.ite ?_ ?_)
      | (with_reducible refine LeO.bind ?_ (fun _ => ?_))
      | exact ih0 _ _
      | exact ih1 _ _ _
      | exact pleachref05_Is.mono _ _
      | exact LeO.none _
      | refine LeO.ite ?_ ?_
      | refine LeO.bind ?_ (fun _ => ?_)
set_option maxHeartbeats 8000000 in
set_option maxRecDepth 100000 in
theorem pleachref25_Props.calls (k : Nat) (A0 : Option Addr) (c0 : Nat) (l0 : List (S98)) (r : Int) (w : World) (hr0 : Kd.C k98 w A0 l0.length l0) (hc0 : l0.length ≤ c0) (h : pleachref25_Props.f k l0 = some r) :
    Calls Try.prog 17 #[.slice A0 l0.length c0] w fun e w' => e = .returned (.int .i64 r) ∧ Below w.heap.size w w' := by
  have hu80 := Try.underlying80; have HR0 := Aside0.mk hr0; have HC0 := Aside0.mk hc0; clear hr0 hc0; have HB := zm (Below.refl w.heap.size w); have H : (if (l0.length : Int) > 8 then (some 5) else (pleachref25_Props.l0 k l0 0)) = some r := h; clear h; by_cases c2 : (l0.length : Int) > 8
  · rw [if_pos c2] at H; have c2b0 : decide (8 < (l0.length : Int)) = true := decide_eq_true c2; have c2b1 : decide (8 < l0.length) = true := decide_eq_true (by omega); clear c2; obtain rfl := Option.some.inj H; go_enter Try.func17, Try.ntmps17; (go_wp2); (repeat (go_quiet (fail); try go_wp2)); (go_ret); exact ⟨zq5, zq0⟩
  · rw [if_neg c2] at H; have c2b0 : decide (8 < (l0.length : Int)) = false := decide_eq_false c2; have c2b1 : decide (8 < l0.length) = false := decide_eq_false (by omega); clear c2; have H' := Aside0.mk H; clear H; go_enter Try.func17, Try.ntmps17; (go_wp2); (repeat (go_quiet (fail); try go_wp2)); (go_loopg [3] k (fun kq v3 w' => ∃ (x3_1 : Int), v3 = .int .i64 x3_1 ∧ Aside0 (pleachref25_Props.l0 kq l0 x3_1 = some r) ∧ Aside0 (kq ≤ k) ∧ Aside0 (Below w.heap.size w w')))
    case atStart => exact ⟨(0), (zq11), H', ⟨Nat.le_refl _⟩, ⟨zq0⟩⟩
    case round =>
      clear H'; (try clear c1); (try clear c2); (try clear c2b0); (try clear c2b1); (try clear p2); obtain ⟨x3_1, rfl, HA, HK1, HB⟩ := hrel
      cases gk with
      | zero => exact absurd HA.out (by simp [pleachref25_Props.l0])
      | succ k1 =>
        have H := HA.out; clear HA; simp only [pleachref25_Props.l0] at H; by_cases c3 : x3_1 < (l0.length : Int)
        · rw [if_pos c3] at H; have c3b0 : decide (x3_1 < (l0.length : Int)) = true := decide_eq_true c3; clear c3; have HC4 := Aside0.mk H; clear H; go_upto_region 6 with (fail); (repeat (go_quiet (fail); go_upto_region 6 with (fail))); (go_cut [28] (fun v28 wc => ∃ (kq : Nat) (x28_3 : Bool), v28 = .bool x28_3 ∧ Aside0 (pleachref25_Props.j1 kq l0 x3_1 x28_3 = some r) ∧ Aside0 (kq ≤ k1) ∧ Aside0 (Below w.heap.size w wc)))
          case first =>
            have H := HC4.out; clear HC4; by_cases c5 : 0 ≤ x3_1
            · rw [if_pos c5] at H; have c5b0 : decide (0 ≤ x3_1) = true := decide_eq_true c5; clear c5; (first | rw [c5b0] | (simp only [i64_w, i32_w]; rw [c5b0]) | skip); replace H := Option.bind_eq_some_iff.mp H; obtain ⟨t102, A60, H⟩ := H; replace H : (if t102 = true then ((pleachref06_Is.f ((rd_T98 l0 x3_1).f1.f0) ((rd_T98 l0 x3_1).f1.f1) ((rd_T98 l0 x3_1).f1.f2)).bind fun t104 => (pleachref25_Props.j1 k1 l0 x3_1 (!t104))) else (pleachref25_Props.j1 k1 l0 x3_1 true)) = some r := H; have A6 := Aside0.mk A60; clear A60; by_cases c7 : t102 = true
              · subst c7; (have H1 : ((pleachref06_Is.f ((rd_T98 l0 x3_1).f1.f0) ((rd_T98 l0 x3_1).f1.f1) ((rd_T98 l0 x3_1).f1.f2)).bind fun t104 => (pleachref25_Props.j1 k1 l0 x3_1 (!t104))) = some r := by rw [if_pos rfl] at H; exact H); clear H; have H := H1; clear H1; replace H := Option.bind_eq_some_iff.mp H; obtain ⟨t104, A80, H⟩ := H; replace H : (pleachref25_Props.j1 k1 l0 x3_1 (!t104)) = some r := H; have A8 := Aside0.mk A80; clear A80; have H' := Aside0.mk H; clear H; have p101 : 0 ≤ (x3_1 : Int) := of_decide_eq_true (zq6); have q101 : x3_1 < (l0.length : Int) := of_decide_eq_true (zq6); obtain ⟨ad101, e101, hx101_0, hx101_1, hx101_2, hx101_3⟩ := at_T98 HR0.out x3_1 p101 q101; cases e101; replace hx101_0 := (HB.out.cell (World.block_lt_of_cell? w _ hx101_0)).trans hx101_0; replace hx101_1 := (HB.out.cell (World.block_lt_of_cell? w _ hx101_1)).trans hx101_1; replace hx101_2 := (HB.out.cell (World.block_lt_of_cell? w _ hx101_2)).trans hx101_2; replace hx101_3 := (HB.out.cell (World.block_lt_of_cell? w _ hx101_3)).trans hx101_3; replace p101 := eq_true p101; replace q101 := eq_true q101; go_wp2_with (first | (go_at_call 54; (with_reducible refine (pleachref05_Is.calls k1 ((rd_T98 l0 x3_1).f0) true _ A6.out).mono ?_); rintro e w' ⟨rfl, ⟨nd, rfl⟩⟩; (try first | exact ⟨rfl, _, World.drewN_drewN _ _ _⟩ | exact ⟨rfl, _, Eq.trans (World.drewN_drewN _ _ _) (congrArg (World.drewN _) (Nat.add_assoc _ _ _))⟩); have p103 : 0 ≤ (x3_1 : Int) := of_decide_eq_true (zq6); have q103 : x3_1 < (l0.length : Int) := of_decide_eq_true (zq6); obtain ⟨ad103, e103, hx103_0, hx103_1, hx103_2, hx103_3⟩ := at_T98 HR0.out x3_1 p103 q103; obtain rfl : ad101 = ad103 := (by injection e103); replace hx103_0 := (HB.out.cell (World.block_lt_of_cell? w _ hx103_0)).trans hx103_0; replace hx103_1 := (HB.out.cell (World.block_lt_of_cell? w _ hx103_1)).trans hx103_1; replace hx103_2 := (HB.out.cell (World.block_lt_of_cell? w _ hx103_2)).trans hx103_2; replace hx103_3 := (HB.out.cell (World.block_lt_of_cell? w _ hx103_3)).trans hx103_3; replace p103 := eq_true p103; replace q103 := eq_true q103) | (go_at_call 59; (with_reducible refine (pleachref06_Is.calls ((rd_T98 l0 x3_1).f1.f0) ((rd_T98 l0 x3_1).f1.f1) ((rd_T98 l0 x3_1).f1.f2) t104 _ A8.out).mono ?_); rintro e w9 ⟨rfl, hb⟩; have n0_ := zm (below_step (zq0) hb); clear HB; revert n0_; intro HB; (try clear hb); (try clear hb2); (try clear hk); (try clear hi))); (repeat (go_quiet (first | (go_at_call 54; (with_reducible refine (pleachref05_Is.calls k1 ((rd_T98 l0 x3_1).f0) true _ A6.out).mono ?_); rintro e w' ⟨rfl, ⟨nd, rfl⟩⟩; (try first | exact ⟨rfl, _, World.drewN_drewN _ _ _⟩ | exact ⟨rfl, _, Eq.trans (World.drewN_drewN _ _ _) (congrArg (World.drewN _) (Nat.add_assoc _ _ _))⟩); have p103 : 0 ≤ (x3_1 : Int) := of_decide_eq_true (zq6); have q103 : x3_1 < (l0.length : Int) := of_decide_eq_true (zq6); obtain ⟨ad103, e103, hx103_0, hx103_1, hx103_2, hx103_3⟩ := at_T98 HR0.out x3_1 p103 q103; obtain rfl : ad101 = ad103 := (by injection e103); replace hx103_0 := (HB.out.cell (World.block_lt_of_cell? w _ hx103_0)).trans hx103_0; replace hx103_1 := (HB.out.cell (World.block_lt_of_cell? w _ hx103_1)).trans hx103_1; replace hx103_2 := (HB.out.cell (World.block_lt_of_cell? w _ hx103_2)).trans hx103_2; replace hx103_3 := (HB.out.cell (World.block_lt_of_cell? w _ hx103_3)).trans hx103_3; replace p103 := eq_true p103; replace q103 := eq_true q103) | (go_at_call 59; (with_reducible refine (pleachref06_Is.calls ((rd_T98 l0 x3_1).f1.f0) ((rd_T98 l0 x3_1).f1.f1) ((rd_T98 l0 x3_1).f1.f2) t104 _ A8.out).mono ?_); rintro e w9 ⟨rfl, hb⟩; have n0_ := zm (below_step (zq0) hb); clear HB; revert n0_; intro HB; (try clear hb); (try clear hb2); (try clear hk); (try clear hi))); try go_wp2_with (first | (go_at_call 54; (with_reducible refine (pleachref05_Is.calls k1 ((rd_T98 l0 x3_1).f0) true _ A6.out).mono ?_); rintro e w' ⟨rfl, ⟨nd, rfl⟩⟩; (try first | exact ⟨rfl, _, World.drewN_drewN _ _ _⟩ | exact ⟨rfl, _, Eq.trans (World.drewN_drewN _ _ _) (congrArg (World.drewN _) (Nat.add_assoc _ _ _))⟩); have p103 : 0 ≤ (x3_1 : Int) := of_decide_eq_true (zq6); have q103 : x3_1 < (l0.length : Int) := of_decide_eq_true (zq6); obtain ⟨ad103, e103, hx103_0, hx103_1, hx103_2, hx103_3⟩ := at_T98 HR0.out x3_1 p103 q103; obtain rfl : ad101 = ad103 := (by injection e103); replace hx103_0 := (HB.out.cell (World.block_lt_of_cell? w _ hx103_0)).trans hx103_0; replace hx103_1 := (HB.out.cell (World.block_lt_of_cell? w _ hx103_1)).trans hx103_1; replace hx103_2 := (HB.out.cell (World.block_lt_of_cell? w _ hx103_2)).trans hx103_2; replace hx103_3 := (HB.out.cell (World.block_lt_of_cell? w _ hx103_3)).trans hx103_3; replace p103 := eq_true p103; replace q103 := eq_true q103) | (go_at_call 59; (with_reducible refine (pleachref06_Is.calls ((rd_T98 l0 x3_1).f1.f0) ((rd_T98 l0 x3_1).f1.f1) ((rd_T98 l0 x3_1).f1.f2) t104 _ A8.out).mono ?_); rintro e w9 ⟨rfl, hb⟩; have n0_ := zm (below_step (zq0) hb); clear HB; revert n0_; intro HB; (try clear hb); (try clear hb2); (try clear hk); (try clear hi))))); (go_meet)
                case rel => exact ⟨_, (!t104), (zq11), H', ⟨zq121⟩, ⟨zq0⟩⟩
              · replace c7 := Bool.eq_false_iff.mpr c7; subst c7; (have H1 : (pleachref25_Props.j1 k1 l0 x3_1 true) = some r := by rw [if_neg (show ¬ (false = true) by decide)] at H; exact H); clear H; have H := H1; clear H1; have H' := Aside0.mk H; clear H; have p101 : 0 ≤ (x3_1 : Int) := of_decide_eq_true (zq6); have q101 : x3_1 < (l0.length : Int) := of_decide_eq_true (zq6); obtain ⟨ad101, e101, hx101_0, hx101_1, hx101_2, hx101_3⟩ := at_T98 HR0.out x3_1 p101 q101; cases e101; replace hx101_0 := (HB.out.cell (World.block_lt_of_cell? w _ hx101_0)).trans hx101_0; replace hx101_1 := (HB.out.cell (World.block_lt_of_cell? w _ hx101_1)).trans hx101_1; replace hx101_2 := (HB.out.cell (World.block_lt_of_cell? w _ hx101_2)).trans hx101_2; replace hx101_3 := (HB.out.cell (World.block_lt_of_cell? w _ hx101_3)).trans hx101_3; replace p101 := eq_true p101; replace q101 := eq_true q101; go_wp2_with (first | (go_at_call 54; (with_reducible refine (pleachref05_Is.calls k1 ((rd_T98 l0 x3_1).f0) false _ A6.out).mono ?_); rintro e w' ⟨rfl, ⟨nd, rfl⟩⟩; (try first | exact ⟨rfl, _, World.drewN_drewN _ _ _⟩ | exact ⟨rfl, _, Eq.trans (World.drewN_drewN _ _ _) (congrArg (World.drewN _) (Nat.add_assoc _ _ _))⟩))); (repeat (go_quiet (first | (go_at_call 54; (with_reducible refine (pleachref05_Is.calls k1 ((rd_T98 l0 x3_1).f0) false _ A6.out).mono ?_); rintro e w' ⟨rfl, ⟨nd, rfl⟩⟩; (try first | exact ⟨rfl, _, World.drewN_drewN _ _ _⟩ | exact ⟨rfl, _, Eq.trans (World.drewN_drewN _ _ _) (congrArg (World.drewN _) (Nat.add_assoc _ _ _))⟩))); try go_wp2_with (first | (go_at_call 54; (with_reducible refine (pleachref05_Is.calls k1 ((rd_T98 l0 x3_1).f0) false _ A6.out).mono ?_); rintro e w' ⟨rfl, ⟨nd, rfl⟩⟩; (try first | exact ⟨rfl, _, World.drewN_drewN _ _ _⟩ | exact ⟨rfl, _, Eq.trans (World.drewN_drewN _ _ _) (congrArg (World.drewN _) (Nat.add_assoc _ _ _))⟩))))); (go_meet)
                case rel => exact ⟨_, (true), (zq11), H', ⟨zq121⟩, ⟨zq0⟩⟩
            · rw [if_neg c5] at H; exact absurd H (by simp)
          case rest =>
            clear HC4; (try clear c1); (try clear p1); (try clear q1); (try clear hx1); (try clear c2); (try clear c2b0); (try clear c2b1); (try clear p2); (try clear c3); (try clear c3b0); (try clear c5); (try clear c5b0); (try clear c7); (try clear hx101_0); (try clear hx101_1); (try clear hx101_2); (try clear hx101_3); (try clear hx103_0); (try clear hx103_1); (try clear hx103_2); (try clear hx103_3); (try clear p101); (try clear p103); (try clear p2); (try clear q101); (try clear q103); obtain ⟨kq, x28_3, rfl, HA, HJ3, HB⟩ := hcut
            cases kq with
            | zero => exact absurd HA.out (by simp [pleachref25_Props.j1])
            | succ kj3 =>
              have H := HA.out; clear HA; simp only [pleachref25_Props.j1] at H; by_cases c10 : x28_3 = true
              · subst c10; (have H1 : (some 2) = some r := by rw [if_pos rfl] at H; exact H); clear H; have H := H1; clear H1; obtain rfl := Option.some.inj H; (go_wp2); (repeat (go_quiet (fail); try go_wp2)); (go_ret); exact ⟨zq5, zq0⟩
              · replace c10 := Bool.eq_false_iff.mpr c10; subst c10; (have H1 : (if x3_1 > 0 then (if 0 ≤ x3_1 then (if x3_1 < (l0.length : Int) then (if 0 ≤ (wrap64 (x3_1 - 1)) then (if (wrap64 (x3_1 - 1)) < (l0.length : Int) then (if ((Op.bytesLess (((rd_T98 l0 (wrap64 (x3_1 - 1))).f0).toList) (((rd_T98 l0 x3_1).f0).toList)) = true) then (pleachref25_Props.l0 kj3 l0 (wrap64 (x3_1 + 1))) else (some 4)) else (none)) else (none)) else (none)) else (none)) else (pleachref25_Props.l0 kj3 l0 (wrap64 (x3_1 + 1)))) = some r := by rw [if_neg (show ¬ (false = true) by decide)] at H; exact H); clear H; have H := H1; clear H1; by_cases c11 : x3_1 > 0
                · rw [if_pos c11] at H; have c11b0 : decide (0 < x3_1) = true := decide_eq_true c11; clear c11; by_cases c12 : 0 ≤ x3_1
                  · rw [if_pos c12] at H; have c12b0 : decide (0 ≤ x3_1) = true := decide_eq_true c12; clear c12; by_cases c13 : x3_1 < (l0.length : Int)
                    · rw [if_pos c13] at H; have c13b0 : decide (x3_1 < (l0.length : Int)) = true := decide_eq_true c13; clear c13; obtain ⟨ji14, hji14⟩ : ∃ j_ : Int, (wrap64 (x3_1 - 1)) = j_ := ⟨_, rfl⟩; (replace H : (if 0 ≤ (ji14) then (if (ji14) < (l0.length : Int) then (if ((Op.bytesLess (((rd_T98 l0 (ji14)).f0).toList) (((rd_T98 l0 x3_1).f0).toList)) = true) then (pleachref25_Props.l0 kj3 l0 (wrap64 (x3_1 + 1))) else (some 4)) else (none)) else (none)) = some r := by first | (rw [hji14] at H; exact H) | (simp only [hji14] at H ⊢; exact H)); have hji14w : (IntKind.i64.wrap (x3_1 - 1)) = ji14 := (i64_w _).trans hji14; by_cases c15 : 0 ≤ (ji14)
                      · rw [if_pos c15] at H; have c15b0 : decide (0 ≤ (ji14)) = true := decide_eq_true c15; clear c15; by_cases c16 : (ji14) < (l0.length : Int)
                        · rw [if_pos c16] at H; have c16b0 : decide ((ji14) < (l0.length : Int)) = true := decide_eq_true c16; clear c16; by_cases c17 : ((Op.bytesLess (((rd_T98 l0 (ji14)).f0).toList) (((rd_T98 l0 x3_1).f0).toList)) = true)
                          · rw [if_pos c17] at H; have c17b0 : (Op.bytesLess (((rd_T98 l0 (ji14)).f0).toList) (((rd_T98 l0 x3_1).f0).toList)) = true := c17; clear c17; have H' := Aside0.mk H; clear H; have p105 : 0 ≤ (x3_1 : Int) := of_decide_eq_true (zq6); have q105 : x3_1 < (l0.length : Int) := of_decide_eq_true (zq6); obtain ⟨ad105, e105, hx105_0, hx105_1, hx105_2, hx105_3⟩ := at_T98 HR0.out x3_1 p105 q105; cases e105; replace hx105_0 := (HB.out.cell (World.block_lt_of_cell? w _ hx105_0)).trans hx105_0; replace hx105_1 := (HB.out.cell (World.block_lt_of_cell? w _ hx105_1)).trans hx105_1; replace hx105_2 := (HB.out.cell (World.block_lt_of_cell? w _ hx105_2)).trans hx105_2; replace hx105_3 := (HB.out.cell (World.block_lt_of_cell? w _ hx105_3)).trans hx105_3; replace p105 := eq_true p105; replace q105 := eq_true q105; have p106 : 0 ≤ ((ji14) : Int) := of_decide_eq_true (zq6); have q106 : (ji14) < (l0.length : Int) := of_decide_eq_true (zq6); obtain ⟨ad106, e106, hx106_0, hx106_1, hx106_2, hx106_3⟩ := at_T98 HR0.out (ji14) p106 q106; obtain rfl : ad105 = ad106 := (by injection e106); replace hx106_0 := (HB.out.cell (World.block_lt_of_cell? w _ hx106_0)).trans hx106_0; replace hx106_1 := (HB.out.cell (World.block_lt_of_cell? w _ hx106_1)).trans hx106_1; replace hx106_2 := (HB.out.cell (World.block_lt_of_cell? w _ hx106_2)).trans hx106_2; replace hx106_3 := (HB.out.cell (World.block_lt_of_cell? w _ hx106_3)).trans hx106_3; replace p106 := eq_true p106; replace q106 := eq_true q106; (go_wp2); (repeat (go_quiet (fail); try go_wp2)); (go_roundg kj3)
                            case measure => have := HK1.out; have := HJ3.out; omega
                            case rel => exact ⟨(wrap64 (x3_1 + 1)), (zq11), H', ⟨by have := HK1.out; have := HJ3.out; omega⟩, ⟨zq0⟩⟩
                          · rw [if_neg c17] at H; (have c17b0 : (Op.bytesLess (((rd_T98 l0 (ji14)).f0).toList) (((rd_T98 l0 x3_1).f0).toList)) = false := by simpa using c17); clear c17; obtain rfl := Option.some.inj H; have p105 : 0 ≤ (x3_1 : Int) := of_decide_eq_true (zq6); have q105 : x3_1 < (l0.length : Int) := of_decide_eq_true (zq6); obtain ⟨ad105, e105, hx105_0, hx105_1, hx105_2, hx105_3⟩ := at_T98 HR0.out x3_1 p105 q105; cases e105; replace hx105_0 := (HB.out.cell (World.block_lt_of_cell? w _ hx105_0)).trans hx105_0; replace hx105_1 := (HB.out.cell (World.block_lt_of_cell? w _ hx105_1)).trans hx105_1; replace hx105_2 := (HB.out.cell (World.block_lt_of_cell? w _ hx105_2)).trans hx105_2; replace hx105_3 := (HB.out.cell (World.block_lt_of_cell? w _ hx105_3)).trans hx105_3; replace p105 := eq_true p105; replace q105 := eq_true q105; have p106 : 0 ≤ ((ji14) : Int) := of_decide_eq_true (zq6); have q106 : (ji14) < (l0.length : Int) := of_decide_eq_true (zq6); obtain ⟨ad106, e106, hx106_0, hx106_1, hx106_2, hx106_3⟩ := at_T98 HR0.out (ji14) p106 q106; obtain rfl : ad105 = ad106 := (by injection e106); replace hx106_0 := (HB.out.cell (World.block_lt_of_cell? w _ hx106_0)).trans hx106_0; replace hx106_1 := (HB.out.cell (World.block_lt_of_cell? w _ hx106_1)).trans hx106_1; replace hx106_2 := (HB.out.cell (World.block_lt_of_cell? w _ hx106_2)).trans hx106_2; replace hx106_3 := (HB.out.cell (World.block_lt_of_cell? w _ hx106_3)).trans hx106_3; replace p106 := eq_true p106; replace q106 := eq_true q106; (go_wp2); (repeat (go_quiet (fail); try go_wp2)); (go_ret); exact ⟨by first | rfl | (simp [errW_none, errW_some] <;> rfl) | (simp only [← hji14]; first | rfl | (simp [errW_none, errW_some] <;> rfl)) | (simp [*, errW_none, errW_some] <;> rfl), zq0⟩
                        · rw [if_neg c16] at H; exact absurd H (by simp)
                      · rw [if_neg c15] at H; exact absurd H (by simp)
                    · rw [if_neg c13] at H; exact absurd H (by simp)
                  · rw [if_neg c12] at H; exact absurd H (by simp)
                · rw [if_neg c11] at H; have c11b0 : decide (0 < x3_1) = false := decide_eq_false c11; clear c11; have H' := Aside0.mk H; clear H; (go_wp2); (repeat (go_quiet (fail); try go_wp2)); (go_roundg kj3)
                  case measure => have := HK1.out; have := HJ3.out; omega
                  case rel => exact ⟨(wrap64 (x3_1 + 1)), (zq11), H', ⟨by have := HK1.out; have := HJ3.out; omega⟩, ⟨zq0⟩⟩
        · rw [if_neg c3] at H; have c3b0 : decide (x3_1 < (l0.length : Int)) = false := decide_eq_false c3; clear c3; obtain rfl := Option.some.inj H; (go_wp2); (repeat (go_quiet (fail); try go_wp2)); (go_ret); exact ⟨zq5, zq0⟩

end Go.Proofs.Ytmnadajjgnniaaa.MA
end
section
namespace Go.Proofs.Ytmnadajjgnniaaa.MA
open Go.RowKit Go.Proofs.YtmnadajjgnniaaaW.PrintWords Go.Proofs.YtmnadajjgnniaaaW.PrintLast Go.Proofs.YtmnadajjgnniaaaW.PrintMore
attribute [local go_sem] max2_int min2_int max_two min_two max_three min_three max_four min_four

def pleachref05_Row.l0 : Nat → List ByteArray → Int → Option (Int)
  | 0, _, _ => none
  | k + 1, x0, x3 => if x3 < (x0.length : Int) then (if 0 ≤ x3 then ((pleachref05_Is.f k (rdOf ByteArray.empty x0 x3)).bind fun t102 => (if t102 = true then (if x3 > 0 then (if 0 ≤ (wrap64 (x3 - 1)) then (if (wrap64 (x3 - 1)) < (x0.length : Int) then (if ((Op.bytesLess ((rdOf ByteArray.empty x0 (wrap64 (x3 - 1))).toList) ((rdOf ByteArray.empty x0 x3).toList)) = true) then (pleachref05_Row.l0 k x0 (wrap64 (x3 + 1))) else (some 4)) else (none)) else (none)) else (pleachref05_Row.l0 k x0 (wrap64 (x3 + 1)))) else (some 2))) else (none)) else (some 0)
def pleachref05_Row.f (k : Nat) (l0 : List ByteArray) : Option (Int) := pleachref05_Row.l0 k l0 0
theorem pleachref05_Row.mono_l : ∀ k, (∀ y0 y1, LeO (pleachref05_Row.l0 k y0 y1) (pleachref05_Row.l0 (k + 1) y0 y1))
  | 0 => fun _ _ r h => by simp [pleachref05_Row.l0] at h
  | k + 1 => by
    have ih0 := pleachref05_Row.mono_l k
    · intro y0 y1; unfold pleachref05_Row.l0
      repeat' first
      | (with_reducible exact ih0 _ _)
      | (with_reducible exact pleachref05_Is.mono _ _)
      | (with_reducible exact LeO.refl _)
      | (with_reducible exact LeO.none _)
      | (with_reducible refine LeO.ite ?_ ?_)
      | (with_reducible refine LeO.bind ?_ (fun _ => ?_))
      | exact ih0 _ _
      | exact pleachref05_Is.mono _ _
      | exact LeO.none _
      | refine LeO.ite ?_ ?_
      | refine LeO.bind ?_ (fun _ => ?_)
theorem pleachref05_Row.mono : ∀ a0 k, LeO (pleachref05_Row.f k a0) (pleachref05_Row.f (k + 1) a0) := by
  intro a0 k; have ih0 := pleachref05_Row.mono_l k; unfold pleachref05_Row.f
  repeat' first
      | (with_reducible exact ih0 _ _)
      | (with_reducible exact pleachref05_Is.mono _ _)
      | (with_reducible exact LeO.refl _)
      | (with_reducible exact LeO.none _)
      | (with_reducible refine LeO.ite ?_ ?_)
      | (with_reducible refine LeO.bind ?_ (fun _ => ?_))
      | exact ih0 _ _
      | exact pleachref05_Is.mono _ _
      | exact LeO.none _
      | refine LeO.ite ?_ ?_
      | refine LeO.bind ?_ (fun _ => ?_)
set_option maxHeartbeats 8000000 in
set_option maxRecDepth 100000 in
theorem pleachref05_Row.calls (k : Nat) (A0 : Option Addr) (c0 : Nat) (l0 : List ByteArray) (r : Int) (w : World) (hr0 : Kd.C Kd.string w A0 l0.length l0) (hc0 : l0.length ≤ c0) (h : pleachref05_Row.f k l0 = some r) :
    Calls Try.prog 83 #[.slice A0 l0.length c0] w fun e w' => e = .returned (.int .i64 r) ∧ Drawn0 w w' := by
  have HR0 := Aside0.mk hr0; have HC0 := Aside0.mk hc0; clear hr0 hc0; have H : (pleachref05_Row.l0 k l0 0) = some r := h; clear h; have H' := Aside0.mk H; clear H; go_enter Try.func83, Try.ntmps83; (go_wp2); (repeat (go_quiet (fail); try go_wp2)); (go_loopg [3] k (fun kq v3 w' => ∃ (x3_1 : Int), v3 = .int .i64 x3_1 ∧ Aside0 (pleachref05_Row.l0 kq l0 x3_1 = some r) ∧ Aside0 (kq ≤ k) ∧ Drawn0 w w'))
  case atStart => exact ⟨(0), (zq11), H', ⟨Nat.le_refl _⟩, zq16⟩
  case round =>
    clear H'; obtain ⟨x3_1, rfl, HA, HK1, ⟨m1, rfl⟩⟩ := hrel
    cases gk with
    | zero => exact absurd HA.out (by simp [pleachref05_Row.l0])
    | succ k1 =>
      have H := HA.out; clear HA; simp only [pleachref05_Row.l0] at H; by_cases c2 : x3_1 < (l0.length : Int)
      · rw [if_pos c2] at H; have c2b0 : decide (x3_1 < (l0.length : Int)) = true := decide_eq_true c2; clear c2; by_cases c3 : 0 ≤ x3_1
        · rw [if_pos c3] at H; have c3b0 : decide (0 ≤ x3_1) = true := decide_eq_true c3; clear c3; replace H := Option.bind_eq_some_iff.mp H; obtain ⟨t102, A40, H⟩ := H; replace H : (if t102 = true then (if x3_1 > 0 then (if 0 ≤ (wrap64 (x3_1 - 1)) then (if (wrap64 (x3_1 - 1)) < (l0.length : Int) then (if ((Op.bytesLess ((rdOf ByteArray.empty l0 (wrap64 (x3_1 - 1))).toList) ((rdOf ByteArray.empty l0 x3_1).toList)) = true) then (pleachref05_Row.l0 k1 l0 (wrap64 (x3_1 + 1))) else (some 4)) else (none)) else (none)) else (pleachref05_Row.l0 k1 l0 (wrap64 (x3_1 + 1)))) else (some 2)) = some r := H; have A4 := Aside0.mk A40; clear A40; by_cases c5 : t102 = true
          · subst c5; (have H1 : (if x3_1 > 0 then (if 0 ≤ (wrap64 (x3_1 - 1)) then (if (wrap64 (x3_1 - 1)) < (l0.length : Int) then (if ((Op.bytesLess ((rdOf ByteArray.empty l0 (wrap64 (x3_1 - 1))).toList) ((rdOf ByteArray.empty l0 x3_1).toList)) = true) then (pleachref05_Row.l0 k1 l0 (wrap64 (x3_1 + 1))) else (some 4)) else (none)) else (none)) else (pleachref05_Row.l0 k1 l0 (wrap64 (x3_1 + 1)))) = some r := by rw [if_pos rfl] at H; exact H); clear H; have H := H1; clear H1; by_cases c6 : x3_1 > 0
            · rw [if_pos c6] at H; have c6b0 : decide (0 < x3_1) = true := decide_eq_true c6; clear c6; obtain ⟨ji7, hji7⟩ : ∃ j_ : Int, (wrap64 (x3_1 - 1)) = j_ := ⟨_, rfl⟩; (replace H : (if 0 ≤ (ji7) then (if (ji7) < (l0.length : Int) then (if ((Op.bytesLess ((rdOf ByteArray.empty l0 (ji7)).toList) ((rdOf ByteArray.empty l0 x3_1).toList)) = true) then (pleachref05_Row.l0 k1 l0 (wrap64 (x3_1 + 1))) else (some 4)) else (none)) else (none)) = some r := by first | (rw [hji7] at H; exact H) | (simp only [hji7] at H ⊢; exact H)); (try rw [hji7] at A4); have hji7w : (IntKind.i64.wrap (x3_1 - 1)) = ji7 := (i64_w _).trans hji7; by_cases c8 : 0 ≤ (ji7)
              · rw [if_pos c8] at H; have c8b0 : decide (0 ≤ (ji7)) = true := decide_eq_true c8; clear c8; by_cases c9 : (ji7) < (l0.length : Int)
                · rw [if_pos c9] at H; have c9b0 : decide ((ji7) < (l0.length : Int)) = true := decide_eq_true c9; clear c9; by_cases c10 : ((Op.bytesLess ((rdOf ByteArray.empty l0 (ji7)).toList) ((rdOf ByteArray.empty l0 x3_1).toList)) = true)
                  · rw [if_pos c10] at H; have c10b0 : (Op.bytesLess ((rdOf ByteArray.empty l0 (ji7)).toList) ((rdOf ByteArray.empty l0 x3_1).toList)) = true := c10; clear c10; have H' := Aside0.mk H; clear H; have p101 : 0 ≤ (x3_1 : Int) := of_decide_eq_true (zq6); have q101 : x3_1 < (l0.length : Int) := of_decide_eq_true (zq6); obtain ⟨ad101, e101, hx101_0⟩ := Kd.at_string HR0.out x3_1 p101 q101; cases e101; replace p101 := eq_true p101; replace q101 := eq_true q101; go_wp2_with (first | (go_at_call 54; (with_reducible refine (pleachref05_Is.calls k1 (rdOf ByteArray.empty l0 x3_1) true _ A4.out).mono ?_); rintro e w' ⟨rfl, ⟨nd, rfl⟩⟩; (try first | exact ⟨rfl, _, World.drewN_drewN _ _ _⟩ | exact ⟨rfl, _, Eq.trans (World.drewN_drewN _ _ _) (congrArg (World.drewN _) (Nat.add_assoc _ _ _))⟩); have p103 : 0 ≤ (x3_1 : Int) := of_decide_eq_true (zq6); have q103 : x3_1 < (l0.length : Int) := of_decide_eq_true (zq6); obtain ⟨ad103, e103, hx103_0⟩ := Kd.at_string HR0.out x3_1 p103 q103; obtain rfl : ad101 = ad103 := (by injection e103); replace p103 := eq_true p103; replace q103 := eq_true q103; have p104 : 0 ≤ ((ji7) : Int) := of_decide_eq_true (zq6); have q104 : (ji7) < (l0.length : Int) := of_decide_eq_true (zq6); obtain ⟨ad104, e104, hx104_0⟩ := Kd.at_string HR0.out (ji7) p104 q104; obtain rfl : ad101 = ad104 := (by injection e104); replace p104 := eq_true p104; replace q104 := eq_true q104)); (repeat (go_quiet (first | (go_at_call 54; (with_reducible refine (pleachref05_Is.calls k1 (rdOf ByteArray.empty l0 x3_1) true _ A4.out).mono ?_); rintro e w' ⟨rfl, ⟨nd, rfl⟩⟩; (try first | exact ⟨rfl, _, World.drewN_drewN _ _ _⟩ | exact ⟨rfl, _, Eq.trans (World.drewN_drewN _ _ _) (congrArg (World.drewN _) (Nat.add_assoc _ _ _))⟩); have p103 : 0 ≤ (x3_1 : Int) := of_decide_eq_true (zq6); have q103 : x3_1 < (l0.length : Int) := of_decide_eq_true (zq6); obtain ⟨ad103, e103, hx103_0⟩ := Kd.at_string HR0.out x3_1 p103 q103; obtain rfl : ad101 = ad103 := (by injection e103); replace p103 := eq_true p103; replace q103 := eq_true q103; have p104 : 0 ≤ ((ji7) : Int) := of_decide_eq_true (zq6); have q104 : (ji7) < (l0.length : Int) := of_decide_eq_true (zq6); obtain ⟨ad104, e104, hx104_0⟩ := Kd.at_string HR0.out (ji7) p104 q104; obtain rfl : ad101 = ad104 := (by injection e104); replace p104 := eq_true p104; replace q104 := eq_true q104)); try go_wp2_with (first | (go_at_call 54; (with_reducible refine (pleachref05_Is.calls k1 (rdOf ByteArray.empty l0 x3_1) true _ A4.out).mono ?_); rintro e w' ⟨rfl, ⟨nd, rfl⟩⟩; (try first | exact ⟨rfl, _, World.drewN_drewN _ _ _⟩ | exact ⟨rfl, _, Eq.trans (World.drewN_drewN _ _ _) (congrArg (World.drewN _) (Nat.add_assoc _ _ _))⟩); have p103 : 0 ≤ (x3_1 : Int) := of_decide_eq_true (zq6); have q103 : x3_1 < (l0.length : Int) := of_decide_eq_true (zq6); obtain ⟨ad103, e103, hx103_0⟩ := Kd.at_string HR0.out x3_1 p103 q103; obtain rfl : ad101 = ad103 := (by injection e103); replace p103 := eq_true p103; replace q103 := eq_true q103; have p104 : 0 ≤ ((ji7) : Int) := of_decide_eq_true (zq6); have q104 : (ji7) < (l0.length : Int) := of_decide_eq_true (zq6); obtain ⟨ad104, e104, hx104_0⟩ := Kd.at_string HR0.out (ji7) p104 q104; obtain rfl : ad101 = ad104 := (by injection e104); replace p104 := eq_true p104; replace q104 := eq_true q104)))); (go_roundg k1)
                    case measure => have := HK1.out; omega
                    case rel => exact ⟨(wrap64 (x3_1 + 1)), (zq11), H', ⟨by have := HK1.out; omega⟩, zq16⟩
                  · rw [if_neg c10] at H; (have c10b0 : (Op.bytesLess ((rdOf ByteArray.empty l0 (ji7)).toList) ((rdOf ByteArray.empty l0 x3_1).toList)) = false := by simpa using c10); clear c10; obtain rfl := Option.some.inj H; have p101 : 0 ≤ (x3_1 : Int) := of_decide_eq_true (zq6); have q101 : x3_1 < (l0.length : Int) := of_decide_eq_true (zq6); obtain ⟨ad101, e101, hx101_0⟩ := Kd.at_string HR0.out x3_1 p101 q101; cases e101; replace p101 := eq_true p101; replace q101 := eq_true q101; go_wp2_with (first | (go_at_call 54; (with_reducible refine (pleachref05_Is.calls k1 (rdOf ByteArray.empty l0 x3_1) true _ A4.out).mono ?_); rintro e w' ⟨rfl, ⟨nd, rfl⟩⟩; (try first | exact ⟨rfl, _, World.drewN_drewN _ _ _⟩ | exact ⟨rfl, _, Eq.trans (World.drewN_drewN _ _ _) (congrArg (World.drewN _) (Nat.add_assoc _ _ _))⟩); have p103 : 0 ≤ (x3_1 : Int) := of_decide_eq_true (zq6); have q103 : x3_1 < (l0.length : Int) := of_decide_eq_true (zq6); obtain ⟨ad103, e103, hx103_0⟩ := Kd.at_string HR0.out x3_1 p103 q103; obtain rfl : ad101 = ad103 := (by injection e103); replace p103 := eq_true p103; replace q103 := eq_true q103; have p104 : 0 ≤ ((ji7) : Int) := of_decide_eq_true (zq6); have q104 : (ji7) < (l0.length : Int) := of_decide_eq_true (zq6); obtain ⟨ad104, e104, hx104_0⟩ := Kd.at_string HR0.out (ji7) p104 q104; obtain rfl : ad101 = ad104 := (by injection e104); replace p104 := eq_true p104; replace q104 := eq_true q104)); (repeat (go_quiet (first | (go_at_call 54; (with_reducible refine (pleachref05_Is.calls k1 (rdOf ByteArray.empty l0 x3_1) true _ A4.out).mono ?_); rintro e w' ⟨rfl, ⟨nd, rfl⟩⟩; (try first | exact ⟨rfl, _, World.drewN_drewN _ _ _⟩ | exact ⟨rfl, _, Eq.trans (World.drewN_drewN _ _ _) (congrArg (World.drewN _) (Nat.add_assoc _ _ _))⟩); have p103 : 0 ≤ (x3_1 : Int) := of_decide_eq_true (zq6); have q103 : x3_1 < (l0.length : Int) := of_decide_eq_true (zq6); obtain ⟨ad103, e103, hx103_0⟩ := Kd.at_string HR0.out x3_1 p103 q103; obtain rfl : ad101 = ad103 := (by injection e103); replace p103 := eq_true p103; replace q103 := eq_true q103; have p104 : 0 ≤ ((ji7) : Int) := of_decide_eq_true (zq6); have q104 : (ji7) < (l0.length : Int) := of_decide_eq_true (zq6); obtain ⟨ad104, e104, hx104_0⟩ := Kd.at_string HR0.out (ji7) p104 q104; obtain rfl : ad101 = ad104 := (by injection e104); replace p104 := eq_true p104; replace q104 := eq_true q104)); try go_wp2_with (first | (go_at_call 54; (with_reducible refine (pleachref05_Is.calls k1 (rdOf ByteArray.empty l0 x3_1) true _ A4.out).mono ?_); rintro e w' ⟨rfl, ⟨nd, rfl⟩⟩; (try first | exact ⟨rfl, _, World.drewN_drewN _ _ _⟩ | exact ⟨rfl, _, Eq.trans (World.drewN_drewN _ _ _) (congrArg (World.drewN _) (Nat.add_assoc _ _ _))⟩); have p103 : 0 ≤ (x3_1 : Int) := of_decide_eq_true (zq6); have q103 : x3_1 < (l0.length : Int) := of_decide_eq_true (zq6); obtain ⟨ad103, e103, hx103_0⟩ := Kd.at_string HR0.out x3_1 p103 q103; obtain rfl : ad101 = ad103 := (by injection e103); replace p103 := eq_true p103; replace q103 := eq_true q103; have p104 : 0 ≤ ((ji7) : Int) := of_decide_eq_true (zq6); have q104 : (ji7) < (l0.length : Int) := of_decide_eq_true (zq6); obtain ⟨ad104, e104, hx104_0⟩ := Kd.at_string HR0.out (ji7) p104 q104; obtain rfl : ad101 = ad104 := (by injection e104); replace p104 := eq_true p104; replace q104 := eq_true q104)))); (go_ret); exact ⟨by first | rfl | (simp; done) | (simp only [← hji7] <;> (first | rfl | simp)) | (simp [*]; done), zq16⟩
                · rw [if_neg c9] at H; exact absurd H (by simp)
              · rw [if_neg c8] at H; exact absurd H (by simp)
            · rw [if_neg c6] at H; have c6b0 : decide (0 < x3_1) = false := decide_eq_false c6; clear c6; have H' := Aside0.mk H; clear H; have p101 : 0 ≤ (x3_1 : Int) := of_decide_eq_true (zq6); have q101 : x3_1 < (l0.length : Int) := of_decide_eq_true (zq6); obtain ⟨ad101, e101, hx101_0⟩ := Kd.at_string HR0.out x3_1 p101 q101; cases e101; replace p101 := eq_true p101; replace q101 := eq_true q101; go_wp2_with (first | (go_at_call 54; (with_reducible refine (pleachref05_Is.calls k1 (rdOf ByteArray.empty l0 x3_1) true _ A4.out).mono ?_); rintro e w' ⟨rfl, ⟨nd, rfl⟩⟩; (try first | exact ⟨rfl, _, World.drewN_drewN _ _ _⟩ | exact ⟨rfl, _, Eq.trans (World.drewN_drewN _ _ _) (congrArg (World.drewN _) (Nat.add_assoc _ _ _))⟩))); (repeat (go_quiet (first | (go_at_call 54; (with_reducible refine (pleachref05_Is.calls k1 (rdOf ByteArray.empty l0 x3_1) true _ A4.out).mono ?_); rintro e w' ⟨rfl, ⟨nd, rfl⟩⟩; (try first | exact ⟨rfl, _, World.drewN_drewN _ _ _⟩ | exact ⟨rfl, _, Eq.trans (World.drewN_drewN _ _ _) (congrArg (World.drewN _) (Nat.add_assoc _ _ _))⟩))); try go_wp2_with (first | (go_at_call 54; (with_reducible refine (pleachref05_Is.calls k1 (rdOf ByteArray.empty l0 x3_1) true _ A4.out).mono ?_); rintro e w' ⟨rfl, ⟨nd, rfl⟩⟩; (try first | exact ⟨rfl, _, World.drewN_drewN _ _ _⟩ | exact ⟨rfl, _, Eq.trans (World.drewN_drewN _ _ _) (congrArg (World.drewN _) (Nat.add_assoc _ _ _))⟩))))); (go_roundg k1)
              case measure => have := HK1.out; omega
              case rel => exact ⟨(wrap64 (x3_1 + 1)), (zq11), H', ⟨by have := HK1.out; omega⟩, zq16⟩
          · replace c5 := Bool.eq_false_iff.mpr c5; subst c5; (have H1 : (some 2) = some r := by rw [if_neg (show ¬ (false = true) by decide)] at H; exact H); clear H; have H := H1; clear H1; obtain rfl := Option.some.inj H; have p101 : 0 ≤ (x3_1 : Int) := of_decide_eq_true (zq6); have q101 : x3_1 < (l0.length : Int) := of_decide_eq_true (zq6); obtain ⟨ad101, e101, hx101_0⟩ := Kd.at_string HR0.out x3_1 p101 q101; cases e101; replace p101 := eq_true p101; replace q101 := eq_true q101; go_wp2_with (first | (go_at_call 54; (with_reducible refine (pleachref05_Is.calls k1 (rdOf ByteArray.empty l0 x3_1) false _ A4.out).mono ?_); rintro e w' ⟨rfl, ⟨nd, rfl⟩⟩; (try first | exact ⟨rfl, _, World.drewN_drewN _ _ _⟩ | exact ⟨rfl, _, Eq.trans (World.drewN_drewN _ _ _) (congrArg (World.drewN _) (Nat.add_assoc _ _ _))⟩))); (repeat (go_quiet (first | (go_at_call 54; (with_reducible refine (pleachref05_Is.calls k1 (rdOf ByteArray.empty l0 x3_1) false _ A4.out).mono ?_); rintro e w' ⟨rfl, ⟨nd, rfl⟩⟩; (try first | exact ⟨rfl, _, World.drewN_drewN _ _ _⟩ | exact ⟨rfl, _, Eq.trans (World.drewN_drewN _ _ _) (congrArg (World.drewN _) (Nat.add_assoc _ _ _))⟩))); try go_wp2_with (first | (go_at_call 54; (with_reducible refine (pleachref05_Is.calls k1 (rdOf ByteArray.empty l0 x3_1) false _ A4.out).mono ?_); rintro e w' ⟨rfl, ⟨nd, rfl⟩⟩; (try first | exact ⟨rfl, _, World.drewN_drewN _ _ _⟩ | exact ⟨rfl, _, Eq.trans (World.drewN_drewN _ _ _) (congrArg (World.drewN _) (Nat.add_assoc _ _ _))⟩))))); (go_ret); exact ⟨zq11, zq16⟩
        · rw [if_neg c3] at H; exact absurd H (by simp)
      · rw [if_neg c2] at H; have c2b0 : decide (x3_1 < (l0.length : Int)) = false := decide_eq_false c2; clear c2; obtain rfl := Option.some.inj H; (go_wp2); (repeat (go_quiet (fail); try go_wp2)); (go_ret); exact ⟨zq11, zq16⟩

end Go.Proofs.Ytmnadajjgnniaaa.MA
end
section
namespace Go.Proofs.Ytmnadajjgnniaaa.MA
open Go.RowKit Go.Proofs.YtmnadajjgnniaaaW.PrintWords Go.Proofs.YtmnadajjgnniaaaW.PrintLast Go.Proofs.YtmnadajjgnniaaaW.PrintMore
attribute [local go_sem] max2_int min2_int max_two min_two max_three min_three max_four min_four

def pleachref25_rest.f (k : Nat) (l0 : List ByteArray) (l1 : List (S98)) : Option (Int) := if (l0.length : Int) > 8 then (some 5) else ((pleachref05_Row.f k l0).bind fun t101 => (if t101 = 0 then ((pleachref25_Props.f k l1).bind fun t102 => (some t102)) else (some t101)))
theorem pleachref25_rest.mono : ∀ a0 a1 k, LeO (pleachref25_rest.f k a0 a1) (pleachref25_rest.f (k + 1) a0 a1) := by
  intro a0 a1 k; unfold pleachref25_rest.f
  repeat' first
      | (with_reducible exact pleachref05_Row.mono _ _)
      | (with_reducible exact pleachref25_Props.mono _ _)
      | (with_reducible exact LeO.refl _)
      | (with_reducible exact LeO.none _)
      | (with_reducible refine LeO.ite ?_ ?_)
      | (with_reducible refine LeO.bind ?_ (fun _ => ?_))
      | exact pleachref05_Row.mono _ _
      | exact pleachref25_Props.mono _ _
      | exact LeO.none _
      | refine LeO.ite ?_ ?_
      | refine LeO.bind ?_ (fun _ => ?_)
set_option maxHeartbeats 8000000 in
set_option maxRecDepth 100000 in
theorem pleachref25_rest.calls (k : Nat) (A0 : Option Addr) (c0 : Nat) (l0 : List ByteArray) (A1 : Option Addr) (c1 : Nat) (l1 : List (S98)) (r : Int) (w : World) (hr0 : Kd.C Kd.string w A0 l0.length l0) (hc0 : l0.length ≤ c0) (hr1 : Kd.C k98 w A1 l1.length l1) (hc1 : l1.length ≤ c1) (h : pleachref25_rest.f k l0 l1 = some r) :
    Calls Try.prog 55 #[.slice A0 l0.length c0, .slice A1 l1.length c1] w fun e w' => e = .returned (.int .i64 r) ∧ Below w.heap.size w w' := by
  have HR0 := Aside0.mk hr0; have HC0 := Aside0.mk hc0; clear hr0 hc0; have HR1 := Aside0.mk hr1; have HC1 := Aside0.mk hc1; clear hr1 hc1; have HB := zm (Below.refl w.heap.size w); have H : (if (l0.length : Int) > 8 then (some 5) else ((pleachref05_Row.f k l0).bind fun t101 => (if t101 = 0 then ((pleachref25_Props.f k l1).bind fun t102 => (some t102)) else (some t101)))) = some r := h; clear h; by_cases c3 : (l0.length : Int) > 8
  · rw [if_pos c3] at H; have c3b0 : decide (8 < (l0.length : Int)) = true := decide_eq_true c3; have c3b1 : decide (8 < l0.length) = true := decide_eq_true (by omega); clear c3; obtain rfl := Option.some.inj H; go_enter Try.func55, Try.ntmps55; (go_wp2); (go_ret); exact ⟨zq5, zq0⟩
  · rw [if_neg c3] at H; have c3b0 : decide (8 < (l0.length : Int)) = false := decide_eq_false c3; have c3b1 : decide (8 < l0.length) = false := decide_eq_false (by omega); clear c3; replace H := Option.bind_eq_some_iff.mp H; obtain ⟨t101, A40, H⟩ := H; replace H : (if t101 = 0 then ((pleachref25_Props.f k l1).bind fun t102 => (some t102)) else (some t101)) = some r := H; have A4 := Aside0.mk A40; clear A40; by_cases c5 : t101 = 0
    · rw [if_pos c5] at H; have c5b0 : (t101 == 0) = true := beq_iff_eq.mpr c5; have c5b1 : (t101 != 0) = false := bne_eq_false_iff_eq.mpr c5; clear c5; replace H := Option.bind_eq_some_iff.mp H; obtain ⟨t102, A60, H⟩ := H; replace H : (some t102) = some r := H; have A6 := Aside0.mk A60; clear A60; obtain rfl := Option.some.inj H; go_enter Try.func55, Try.ntmps55; go_wp2_with (first | ((with_reducible refine gate_callee (f := 83) rfl ?_); refine goesL_ (some 10) rfl rfl Try.func83 (by kernel_rfl) rfl #[.slice A0 l0.length c0] rfl (zq2) ?_; (with_reducible refine (pleachref05_Row.calls k _ _ l0 t101 _ ?side1 ?side2 A4.out).mono ?_); (case side1 => repeat (first | exact HR0.out | (with_reducible refine Kd.C_alloc ?_ _) | (with_reducible refine Kd.C_drewN ?_ _) | (with_reducible refine Kd.C_drew ?_))); (case side2 => exact HC0.out); rintro e w' ⟨rfl, ⟨nd, rfl⟩⟩; refine ⟨_, rfl, ?_⟩) | ((with_reducible refine gate_callee (f := 17) rfl ?_); refine goesL_ (some 15) rfl rfl Try.func17 (by kernel_rfl) rfl #[.slice A1 l1.length c1] rfl (zq2) ?_; (with_reducible refine (pleachref25_Props.calls k _ _ l1 t102 _ ?side1 ?side2 A6.out).mono ?_); (case side1 => repeat (first | exact HR1.out | (with_reducible refine Kd.C_alloc ?_ _) | (with_reducible refine Kd.C_drewN ?_ _) | (with_reducible refine Kd.C_drew ?_))); (case side2 => exact HC1.out); rintro e w7 ⟨rfl, hb⟩; refine ⟨_, rfl, ?_⟩; have n0_ := zm (below_step (zq0) hb); clear HB; revert n0_; intro HB; (try clear hb); (try clear hb2); (try clear hk); (try clear hi))); (go_ret); exact ⟨zq5, zq0⟩
    · rw [if_neg c5] at H; have c5b0 : (t101 == 0) = false := beq_eq_false_iff_ne.mpr c5; have c5b1 : (t101 != 0) = true := bne_iff_ne.mpr c5; obtain rfl := Option.some.inj H; go_enter Try.func55, Try.ntmps55; go_wp2_with (first | ((with_reducible refine gate_callee (f := 83) rfl ?_); refine goesL_ (some 10) rfl rfl Try.func83 (by kernel_rfl) rfl #[.slice A0 l0.length c0] rfl (zq2) ?_; (with_reducible refine (pleachref05_Row.calls k _ _ l0 t101 _ ?side1 ?side2 A4.out).mono ?_); (case side1 => repeat (first | exact HR0.out | (with_reducible refine Kd.C_alloc ?_ _) | (with_reducible refine Kd.C_drewN ?_ _) | (with_reducible refine Kd.C_drew ?_))); (case side2 => exact HC0.out); rintro e w' ⟨rfl, ⟨nd, rfl⟩⟩; refine ⟨_, rfl, ?_⟩)); (go_ret); exact ⟨zq5, zq0⟩

end Go.Proofs.Ytmnadajjgnniaaa.MA
end
section
namespace Go.Proofs.Ytmnadajjgnniaaa.MA
open Go.RowKit Go.Proofs.YtmnadajjgnniaaaW.PrintWords Go.Proofs.YtmnadajjgnniaaaW.PrintLast Go.Proofs.YtmnadajjgnniaaaW.PrintMore
attribute [local go_sem] max2_int min2_int max_two min_two max_three min_three max_four min_four

def pleachref25_Node.f (k : Nat) (a0_0 : ByteArray) (l0_1 : List ByteArray) (l0_2 : List (S98)) : Option (Int) := (pleachref05_Is.f k a0_0).bind fun t102 => (if t102 = true then ((pleachref25_rest.f k l0_1 l0_2).bind fun t103 => (some t103)) else (some 2))
theorem pleachref25_Node.mono : ∀ a0 a1 a2 k, LeO (pleachref25_Node.f k a0 a1 a2) (pleachref25_Node.f (k + 1) a0 a1 a2) := by
  intro a0 a1 a2 k; unfold pleachref25_Node.f
  repeat' first
      | (with_reducible exact pleachref05_Is.mono _ _)
      | (with_reducible exact pleachref25_rest.mono _ _ _)
      | (with_reducible exact LeO.refl _)
      | (with_reducible exact LeO.none _)
      | (with_reducible refine LeO.ite ?_ ?_)
      | (with_reducible refine LeO.bind ?_ (fun _ => ?_))
      | exact pleachref05_Is.mono _ _
      | exact pleachref25_rest.mono _ _ _
      | exact LeO.none _
      | refine LeO.ite ?_ ?_
      | refine LeO.bind ?_ (fun _ => ?_)
set_option maxHeartbeats 8000000 in
set_option maxRecDepth 100000 in
theorem pleachref25_Node.calls (k : Nat) (a0_0 : ByteArray) (A0_1 : Option Addr) (c0_1 : Nat) (l0_1 : List ByteArray) (A0_2 : Option Addr) (c0_2 : Nat) (l0_2 : List (S98)) (r : Int) (w : World) (hr0_1 : Kd.C Kd.string w A0_1 l0_1.length l0_1) (hc0_1 : l0_1.length ≤ c0_1) (hr0_2 : Kd.C k98 w A0_2 l0_2.length l0_2) (hc0_2 : l0_2.length ≤ c0_2) (h : pleachref25_Node.f k a0_0 l0_1 l0_2 = some r) :
    Calls Try.prog 14 #[.agg #[.string a0_0, .slice A0_1 l0_1.length c0_1, .slice A0_2 l0_2.length c0_2]] w fun e w' => e = .returned (.int .i64 r) ∧ Below w.heap.size w w' := by
  have hu25 := Try.underlying25; have HR0_1 := Aside0.mk hr0_1; have HC0_1 := Aside0.mk hc0_1; clear hr0_1 hc0_1; have HR0_2 := Aside0.mk hr0_2; have HC0_2 := Aside0.mk hc0_2; clear hr0_2 hc0_2; have HB := zm (Below.refl w.heap.size w); have H : ((pleachref05_Is.f k a0_0).bind fun t102 => (if t102 = true then ((pleachref25_rest.f k l0_1 l0_2).bind fun t103 => (some t103)) else (some 2))) = some r := h; clear h; replace H := Option.bind_eq_some_iff.mp H; obtain ⟨t102, A20, H⟩ := H; replace H : (if t102 = true then ((pleachref25_rest.f k l0_1 l0_2).bind fun t103 => (some t103)) else (some 2)) = some r := H; have A2 := Aside0.mk A20; clear A20; by_cases c3 : t102 = true
  · subst c3; (have H1 : ((pleachref25_rest.f k l0_1 l0_2).bind fun t103 => (some t103)) = some r := by rw [if_pos rfl] at H; exact H); clear H; have H := H1; clear H1; replace H := Option.bind_eq_some_iff.mp H; obtain ⟨t103, A40, H⟩ := H; replace H : (some t103) = some r := H; have A4 := Aside0.mk A40; clear A40; obtain rfl := Option.some.inj H; go_enter Try.func14, Try.ntmps14; go_wp2_with (first | ((with_reducible refine gate_dst (N := 1) rfl ?_); refine box_event ?hg (N := 1) ?hd (cs := #[.string a0_0, .slice A0_1 l0_1.length c0_1, .slice A0_2 l0_2.length c0_2]) (t := 25) ?hr ?_; (case hd => rfl); (case hg => rfl); (case hr => first | (go_simp; done) | (go_simp; rfl)); intro gb101 hg w5 hbox hb; have n0_ := zm (below_step (zq0) hb); have n1_ := zm (hbox); have n2_ := zm ((by rw [hg]; exact (below_size (zq0)) : w.heap.size ≤ gb101)); have n3_ := zm ((by rw [hg]; exact (below_size (zq0)) : w.heap.size ≤ gb101)); clear HB; revert n0_ n1_ n2_ n3_; intro HB BK101 GW101 GE101; clear hb hbox hg; have hcz6_0 : w5.cell? ⟨gb101, 0, none⟩ = some (.string a0_0) := (blk_cell BK101.out 0).trans rfl; have hcz6_1 : w5.cell? ⟨gb101, 1, none⟩ = some (.slice A0_1 l0_1.length c0_1) := (blk_cell BK101.out 1).trans rfl; have hcz6_2 : w5.cell? ⟨gb101, 2, none⟩ = some (.slice A0_2 l0_2.length c0_2) := (blk_cell BK101.out 2).trans rfl; have hfz6_0 := blk_frozen BK101.out 0; have hfz6_1 := blk_frozen BK101.out 1; have hfz6_2 := blk_frozen BK101.out 2) | ((with_reducible refine gate_callee (f := 54) rfl ?_); refine goesL_ (some 5) rfl rfl Try.func54 (by kernel_rfl) rfl #[.string a0_0] rfl (zq2) ?_; (with_reducible refine (pleachref05_Is.calls k a0_0 true _ A2.out).mono ?_); rintro e w' ⟨rfl, ⟨nd, rfl⟩⟩; refine ⟨_, rfl, ?_⟩) | ((with_reducible refine gate_callee (f := 55) rfl ?_); refine goesL_ (some 11) rfl rfl Try.func55 (by kernel_rfl) rfl #[.slice A0_1 l0_1.length c0_1, .slice A0_2 l0_2.length c0_2] rfl (zq2) ?_; (with_reducible refine (pleachref25_rest.calls k _ _ l0_1 _ _ l0_2 t103 _ ?side1 ?side2 ?side3 ?side4 A4.out).mono ?_); (case side1 => repeat (first | exact (Kd.C_below HR0_1.out (zq1)) | (with_reducible refine Kd.C_alloc ?_ _) | (with_reducible refine Kd.C_drewN ?_ _) | (with_reducible refine Kd.C_drew ?_))); (case side2 => exact HC0_1.out); (case side3 => repeat (first | exact (Kd.C_below HR0_2.out (zq1)) | (with_reducible refine Kd.C_alloc ?_ _) | (with_reducible refine Kd.C_drewN ?_ _) | (with_reducible refine Kd.C_drew ?_))); (case side4 => exact HC0_2.out); rintro e w7 ⟨rfl, hb⟩; refine ⟨_, rfl, ?_⟩; have n0_ := zm (blk_below (g := gb101) (o := .cells #[.string a0_0, .slice A0_1 l0_1.length c0_1, .slice A0_2 l0_2.length c0_2] 25 (0, 0)) (zq3) hb); have n1_ := zm (below_step (zq1) hb); clear BK101 HB; revert n0_ n1_; intro BK101 HB; (try clear hb); (try clear hb2); (try clear hk); (try clear hi))); (go_ret); exact ⟨zq5, zq1⟩
  · replace c3 := Bool.eq_false_iff.mpr c3; subst c3; (have H1 : (some 2) = some r := by rw [if_neg (show ¬ (false = true) by decide)] at H; exact H); clear H; have H := H1; clear H1; obtain rfl := Option.some.inj H; go_enter Try.func14, Try.ntmps14; go_wp2_with (first | ((with_reducible refine gate_dst (N := 1) rfl ?_); refine box_event ?hg (N := 1) ?hd (cs := #[.string a0_0, .slice A0_1 l0_1.length c0_1, .slice A0_2 l0_2.length c0_2]) (t := 25) ?hr ?_; (case hd => rfl); (case hg => rfl); (case hr => first | (go_simp; done) | (go_simp; rfl)); intro gb101 hg w8 hbox hb; have n0_ := zm (below_step (zq0) hb); have n1_ := zm (hbox); have n2_ := zm ((by rw [hg]; exact (below_size (zq0)) : w.heap.size ≤ gb101)); have n3_ := zm ((by rw [hg]; exact (below_size (zq0)) : w.heap.size ≤ gb101)); clear HB; revert n0_ n1_ n2_ n3_; intro HB BK101 GW101 GE101; clear hb hbox hg; have hcz9_0 : w8.cell? ⟨gb101, 0, none⟩ = some (.string a0_0) := (blk_cell BK101.out 0).trans rfl; have hcz9_1 : w8.cell? ⟨gb101, 1, none⟩ = some (.slice A0_1 l0_1.length c0_1) := (blk_cell BK101.out 1).trans rfl; have hcz9_2 : w8.cell? ⟨gb101, 2, none⟩ = some (.slice A0_2 l0_2.length c0_2) := (blk_cell BK101.out 2).trans rfl; have hfz9_0 := blk_frozen BK101.out 0; have hfz9_1 := blk_frozen BK101.out 1; have hfz9_2 := blk_frozen BK101.out 2) | ((with_reducible refine gate_callee (f := 54) rfl ?_); refine goesL_ (some 5) rfl rfl Try.func54 (by kernel_rfl) rfl #[.string a0_0] rfl (zq2) ?_; (with_reducible refine (pleachref05_Is.calls k a0_0 false _ A2.out).mono ?_); rintro e w' ⟨rfl, ⟨nd, rfl⟩⟩; refine ⟨_, rfl, ?_⟩)); (go_ret); exact ⟨zq5, zq1⟩

end Go.Proofs.Ytmnadajjgnniaaa.MA
end
section
namespace Go.Proofs.Ytmnadajjgnniaaa.MA
open Go.RowKit Go.Proofs.YtmnadajjgnniaaaW.PrintWords Go.Proofs.YtmnadajjgnniaaaW.PrintLast Go.Proofs.YtmnadajjgnniaaaW.PrintMore
attribute [local go_sem] max2_int min2_int max_two min_two max_three min_three max_four min_four

def pleachref01_Digits.l0 : Nat → Int → List Int → Option (List Int)
  | 0, _, _ => none
  | k + 1, x0, x3 => if x0 > 0 then (if x3.length < 17592186044416 then (pleachref01_Digits.l0 k (IntKind.u64.wrap (Int.tdiv x0 128)) (x3 ++ [wrap64 (Int.tmod x0 128)])) else (none)) else (some x3)
def pleachref01_Digits.f (k : Nat) (a0 : Int) : Option (List Int) := pleachref01_Digits.l0 k (IntKind.u64.wrap (Int.tdiv a0 128)) (([wrap64 (Int.tmod a0 128)] : List Int))
theorem pleachref01_Digits.mono_l : ∀ k, (∀ y0 y1, LeO (pleachref01_Digits.l0 k y0 y1) (pleachref01_Digits.l0 (k + 1) y0 y1))
  | 0 => fun _ _ r h => by simp [pleachref01_Digits.l0] at h
  | k + 1 => by
    have ih0 := pleachref01_Digits.mono_l k
    · intro y0 y1; unfold pleachref01_Digits.l0
      repeat' first
      | (with_reducible exact ih0 _ _)
      | (with_reducible exact LeO.refl _)
      | (with_reducible exact LeO.none _)
      | (with_reducible refine LeO.ite ?_ ?_)
      | (with_reducible refine LeO.bind ?_ (fun _ => ?_))
      | exact ih0 _ _
      | exact LeO.none _
      | refine LeO.ite ?_ ?_
      | refine LeO.bind ?_ (fun _ => ?_)
theorem pleachref01_Digits.mono : ∀ a0 k, LeO (pleachref01_Digits.f k a0) (pleachref01_Digits.f (k + 1) a0) := by
  intro a0 k; have ih0 := pleachref01_Digits.mono_l k; unfold pleachref01_Digits.f
  repeat' first
      | (with_reducible exact ih0 _ _)
      | (with_reducible exact LeO.refl _)
      | (with_reducible exact LeO.none _)
      | (with_reducible refine LeO.ite ?_ ?_)
      | (with_reducible refine LeO.bind ?_ (fun _ => ?_))
      | exact ih0 _ _
      | exact LeO.none _
      | refine LeO.ite ?_ ?_
      | refine LeO.bind ?_ (fun _ => ?_)
set_option maxHeartbeats 8000000 in
set_option maxRecDepth 100000 in
theorem pleachref01_Digits.calls (k : Nat) (a0 : Int) (r : List Int) (w : World) (h : pleachref01_Digits.f k a0 = some r) :
    Calls Try.prog 108 #[.int .u64 a0] w fun e w' => ∃ v0_ : Value, e = .returned (v0_) ∧ Kd.R (Kd.int .i64) 3 w' w.heap.size (fun _ => True) v0_ r ∧ Below w.heap.size w w' := by
  have HB := zm (Below.refl w.heap.size w); have H : (pleachref01_Digits.l0 k (IntKind.u64.wrap (Int.tdiv a0 128)) (([wrap64 (Int.tmod a0 128)] : List Int))) = some r := h; clear h; obtain ⟨y101, hy101⟩ : ∃ y_ : List Int, y_ = (([wrap64 (Int.tmod a0 128)] : List Int)) := ⟨_, rfl⟩; (replace H : (pleachref01_Digits.l0 k (IntKind.u64.wrap (Int.tdiv a0 128)) y101) = some r := by first | (rw [hy101]; with_reducible exact H) | (have H2_ := (Option.bind_some _ _).symm.trans H; rw [hy101]; with_reducible exact H2_) | (have H2_ := (Option.bind_some _ _).symm.trans H; with_reducible exact H2_) | with_reducible exact H | (rw [hy101]; exact H) | exact H); have Ny101 := Aside0.mk hy101; clear hy101; have H' := Aside0.mk H; clear H; go_enter Try.func108, Try.ntmps108; go_wp2_with (first | ((with_reducible refine gate_dst (N := 7) rfl ?_); refine Kd.R_lit (Kd.int .i64) _ 3 ?hg (N := 7) ?hd (xs := ([wrap64 (Int.tmod a0 128)] : List Int)) (inner := [.int .i64 (wrap64 (Int.tmod a0 128))]) (ok := fun _ => True) (okp := fun _ => True) ?hr ?hp (fun _ hk => hk) trivial (Below.refl _ _) (Nat.le_refl _) (by simp) ?_; (case hd => rfl); (case hg => rfl); (case hr => first | (go_simp; done) | (go_simp; rfl)); (case hp => exact (Reps.one (show Kd.M (Kd.int .i64) _ _ _ (wrap64 (Int.tmod a0 128)) [.int .i64 (wrap64 (Int.tmod a0 128))] from rfl) (Reps.none _ _))); intro v102 w2 ho3 hb hg_ hnew_; clear hg_ hnew_; (first | rw [← Ny101.out] at ho3 | (simp only [Int.reduceToNat] at ho3; rw [← Ny101.out] at ho3)); have n0_ := zm (Kd.R_lower ho3 (below_size (zq0))); have n1_ := zm (below_step (zq0) hb); clear HB; revert n0_ n1_; intro HO103 HB; clear hb ho3)); (go_loopg [0, 3] k (fun kq v0 v3 w' => ∃ (x0_1 : Int) (x3_1 : List Int), v0 = .int .u64 x0_1 ∧ Aside0 (pleachref01_Digits.l0 kq x0_1 x3_1 = some r) ∧ Aside0 (kq ≤ k) ∧ Aside0 (Kd.R (Kd.int .i64) 3 w' w.heap.size (fun _ => True) v3 x3_1) ∧ Aside0 (Below w.heap.size w w')))
  case atStart => exact ⟨(IntKind.u64.wrap (Int.tdiv a0 128)), (y101), (zq11), H', ⟨Nat.le_refl _⟩, ⟨by (with_reducible repeat (first | apply Kd.R_alloc | apply Kd.R_drewN | apply Kd.R_drew)); exact HO103.out⟩, ⟨zq0⟩⟩
  case round =>
    clear H'; (try clear c1); (try clear p2); obtain ⟨x0_1, x3_1, rfl, HA, HK1, HO_3, HB⟩ := hrel
    cases gk with
    | zero => exact absurd HA.out (by simp [pleachref01_Digits.l0])
    | succ k1 =>
      have H := HA.out; clear HA; simp only [pleachref01_Digits.l0] at H; by_cases c4 : x0_1 > 0
      · rw [if_pos c4] at H; have c4b0 : decide (0 < x0_1) = true := decide_eq_true c4; clear c4; by_cases c5 : x3_1.length < 17592186044416
        · rw [if_pos c5] at H; have LMc5 := Aside0.mk c5; clear c5; obtain ⟨y104, hy104⟩ : ∃ y_ : List Int, y_ = (x3_1 ++ [wrap64 (Int.tmod x0_1 128)]) := ⟨_, rfl⟩; (replace H : (pleachref01_Digits.l0 k1 (IntKind.u64.wrap (Int.tdiv x0_1 128)) y104) = some r := by first | (rw [hy104]; with_reducible exact H) | (have H2_ := (Option.bind_some _ _).symm.trans H; rw [hy104]; with_reducible exact H2_) | (have H2_ := (Option.bind_some _ _).symm.trans H; with_reducible exact H2_) | with_reducible exact H | (rw [hy104]; exact H) | exact H); have Ny104 := Aside0.mk hy104; clear hy104; have H' := Aside0.mk H; clear H; go_wp2_with (first | ((with_reducible refine gate_builtin (b := .append) (xs := #[.tmp 12, .tmp 16]) rfl ?_); at_builtin; refine Kd.R_append (Kd.int .i64) (w0 := w) w.heap.size rfl (.tmp 12) (.tmp 16) 159 3 (.int .i64 0) 8 rfl Try.underlying159 info3 rfl (by decide) (by omega) u3 x3_1 (wrap64 (Int.tmod x0_1 128)) [.int .i64 (wrap64 (Int.tmod x0_1 128))] (fun _ => True) (fun _ => False) rfl rfl ?aP (fun _ hk => hk.elim) ?aF ?aO ?aB ?aS ?aL ?_; (case aP => exact rfl); (case aB => exact (zq0)); (case aF => exact (fun _ _ => trivial)); (case aO => exact (zq67)); (case aS => exact (below_size (zq0))); (case aL => have := LMc5.out; omega); intro v105 w6 ho hb hg hat; rw [← Ny104.out] at ho; have n0_ := zm (hb); have n1_ := zm (ho); clear HB HO_3; revert n0_ n1_; intro HB HO106; clear ho hb hg hat)); (go_roundg k1)
          case measure => have := HK1.out; omega
          case rel => exact ⟨(IntKind.u64.wrap (Int.tdiv x0_1 128)), (y104), (zq11), H', ⟨by have := HK1.out; omega⟩, ⟨by (with_reducible repeat (first | apply Kd.R_alloc | apply Kd.R_drewN | apply Kd.R_drew)); exact HO106.out⟩, ⟨zq0⟩⟩
        · rw [if_neg c5] at H; exact absurd H (by simp)
      · rw [if_neg c4] at H; have c4b0 : decide (0 < x0_1) = false := decide_eq_false c4; clear c4; obtain rfl := Option.some.inj H; (go_wp2); (go_ret); exact ⟨_, zq5, zq67, zq0⟩

end Go.Proofs.Ytmnadajjgnniaaa.MA
end
section
namespace Go.Proofs.Ytmnadajjgnniaaa.MA
open Go.RowKit Go.Proofs.YtmnadajjgnniaaaW.PrintWords Go.Proofs.YtmnadajjgnniaaaW.PrintLast Go.Proofs.YtmnadajjgnniaaaW.PrintMore
attribute [local go_sem] max2_int min2_int max_two min_two max_three min_three max_four min_four

def pleachref01_Put.l0 : Nat → List Int → ByteArray → Int → Option (ByteArray)
  | 0, _, _, _ => none
  | k + 1, x3, x4, x5 => if x5 < (x3.length : Int) then (if 0 ≤ x5 then (if (wrap64 (x5 + 1)) < (x3.length : Int) then ((some (([(wrap64 ((rd x3 x5) + 128)) % 256] : List Int) : List Int)).bind fun y105 => (if x4.size + (strOfNums y105).size ≤ 9223372036854775807 then (pleachref01_Put.l0 k x3 (x4 ++ (strOfNums y105)) (wrap64 (x5 + 1))) else (none))) else ((some (([(rd x3 x5) % 256] : List Int) : List Int)).bind fun y108 => (if x4.size + (strOfNums y108).size ≤ 9223372036854775807 then (pleachref01_Put.l0 k x3 (x4 ++ (strOfNums y108)) (wrap64 (x5 + 1))) else (none)))) else (none)) else (some x4)
def pleachref01_Put.f (k : Nat) (a0 : Int) : Option (ByteArray) := (pleachref01_Digits.f k a0).bind fun t101 => (pleachref01_Put.l0 k t101 (⟨#[]⟩ : ByteArray) 0)
theorem pleachref01_Put.mono_l : ∀ k, (∀ y0 y1 y2, LeO (pleachref01_Put.l0 k y0 y1 y2) (pleachref01_Put.l0 (k + 1) y0 y1 y2))
  | 0 => fun _ _ _ r h => by simp [pleachref01_Put.l0] at h
  | k + 1 => by
    have ih0 := pleachref01_Put.mono_l k
    · intro y0 y1 y2; unfold pleachref01_Put.l0
      repeat' first
      | (with_reducible exact ih0 _ _ _)
      | (with_reducible exact pleachref01_Digits.mono _ _)
      | (with_reducible exact LeO.refl _)
      | (with_reducible exact LeO.none _)
      | (with_reducible refine LeO.ite ?_ ?_)
      | (with_reducible refine LeO.bind ?_ (fun _ => ?_))
      | exact ih0 _ _ _
      | exact pleachref01_Digits.mono _ _
      | exact LeO.none _
      | refine LeO.ite ?_ ?_
      | refine LeO.bind ?_ (fun _ => ?_)
theorem pleachref01_Put.mono : ∀ a0 k, LeO (pleachref01_Put.f k a0) (pleachref01_Put.f (k + 1) a0) := by
  intro a0 k; have ih0 := pleachref01_Put.mono_l k; unfold pleachref01_Put.f
  repeat' first
      | (with_reducible exact ih0 _ _ _)
      | (with_reducible exact pleachref01_Digits.mono _ _)
      | (with_reducible exact LeO.refl _)
      | (with_reducible exact LeO.none _)
      | (with_reducible refine LeO.ite ?_ ?_)
      | (with_reducible refine LeO.bind ?_ (fun _ => ?_))
      | exact ih0 _ _ _
      | exact pleachref01_Digits.mono _ _
      | exact LeO.none _
      | refine LeO.ite ?_ ?_
      | refine LeO.bind ?_ (fun _ => ?_)
set_option maxHeartbeats 8000000 in
set_option maxRecDepth 100000 in
theorem pleachref01_Put.calls (k : Nat) (a0 : Int) (r : ByteArray) (w : World) (h : pleachref01_Put.f k a0 = some r) :
    Calls Try.prog 87 #[.int .u64 a0] w fun e w' => e = .returned (.string r) ∧ Below w.heap.size w w' := by
  have HB := zm (Below.refl w.heap.size w); have H : ((pleachref01_Digits.f k a0).bind fun t101 => (pleachref01_Put.l0 k t101 (⟨#[]⟩ : ByteArray) 0)) = some r := h; clear h; replace H := Option.bind_eq_some_iff.mp H; obtain ⟨t101, A20, H⟩ := H; replace H : (pleachref01_Put.l0 k t101 (⟨#[]⟩ : ByteArray) 0) = some r := H; have A2 := Aside0.mk A20; clear A20; have H' := Aside0.mk H; clear H; go_enter Try.func87, Try.ntmps87; go_wp2_with (first | ((with_reducible refine gate_callee (f := 108) rfl ?_); refine goesL_ (some 8) rfl rfl Try.func108 (by kernel_rfl) rfl #[.int .u64 a0] rfl (zq2) ?_; (with_reducible refine (pleachref01_Digits.calls k a0 t101 _ A2.out).mono ?_); rintro e w3 ⟨v102, rfl, ho0, hb⟩; refine ⟨_, rfl, ?_⟩; have n0_ := zm (Kd.R_lower ho0 (below_size (zq0))); have n1_ := zm (below_step (zq0) hb); clear HB; revert n0_ n1_; intro HO103 HB; (try clear hb); (try clear hb2); (try clear hk); (try clear hi); (try clear ho0))); (go_loopg [4, 5] k (fun kq v4 v5 w' => ∃ (x4_1 : ByteArray) (x5_1 : Int), v4 = .string x4_1 ∧ v5 = .int .i64 x5_1 ∧ Aside0 (pleachref01_Put.l0 kq t101 x4_1 x5_1 = some r) ∧ Aside0 (kq ≤ k) ∧ Aside0 (Kd.R (Kd.int .i64) 3 w' w.heap.size (fun _ => True) v102 t101) ∧ Aside0 (Below w.heap.size w w')))
  case atStart => exact ⟨((⟨#[]⟩ : ByteArray)), (0), (zq11), (zq11), H', ⟨Nat.le_refl _⟩, ⟨by (with_reducible repeat (first | apply Kd.R_alloc | apply Kd.R_drewN | apply Kd.R_drew)); exact HO103.out⟩, ⟨zq0⟩⟩
  case round =>
    clear H'; (try clear c1); (try clear p2); obtain ⟨x4_1, x5_1, rfl, rfl, HA, HK1, HO_3, HB⟩ := hrel
    cases gk with
    | zero => exact absurd HA.out (by simp [pleachref01_Put.l0])
    | succ k1 =>
      have H := HA.out; clear HA; simp only [pleachref01_Put.l0] at H; by_cases c4 : x5_1 < (t101.length : Int)
      · rw [if_pos c4] at H; have c4b0 : decide (x5_1 < (t101.length : Int)) = true := decide_eq_true c4; clear c4; by_cases c5 : 0 ≤ x5_1
        · rw [if_pos c5] at H; have c5b0 : decide (0 ≤ x5_1) = true := decide_eq_true c5; clear c5; by_cases c6 : (wrap64 (x5_1 + 1)) < (t101.length : Int)
          · rw [if_pos c6] at H; have c6b0 : decide ((wrap64 (x5_1 + 1)) < (t101.length : Int)) = true := decide_eq_true c6; clear c6; obtain ⟨y105, hy105⟩ : ∃ y_ : List Int, y_ = (([(wrap64 ((rd t101 x5_1) + 128)) % 256] : List Int)) := ⟨_, rfl⟩; (replace H : (if x4_1.size + (strOfNums y105).size ≤ 9223372036854775807 then (pleachref01_Put.l0 k1 t101 (x4_1 ++ (strOfNums y105)) (wrap64 (x5_1 + 1))) else (none)) = some r := by first | (rw [hy105]; with_reducible exact H) | (have H2_ := (Option.bind_some _ _).symm.trans H; rw [hy105]; with_reducible exact H2_) | (have H2_ := (Option.bind_some _ _).symm.trans H; with_reducible exact H2_) | with_reducible exact H | (rw [hy105]; exact H) | exact H); have Ny105 := Aside0.mk hy105; clear hy105; by_cases c7 : x4_1.size + (strOfNums y105).size ≤ 9223372036854775807
            · rw [if_pos c7] at H; have c7b0 := eq_true c7; have c7b1 : decide (x4_1.size + (strOfNums y105).size ≤ 9223372036854775807) = true := decide_eq_true c7; (try have c7b2 : (9223372036854775807 < x4_1.size + (strOfNums y105).size) = False := eq_false (Nat.not_lt.2 c7)); have H' := Aside0.mk H; clear H; obtain ⟨Ao8, co8, eo8⟩ := Kd.R_slice HO_3.out; subst eo8; have p104 : 0 ≤ (x5_1 : Int) := of_decide_eq_true (zq6); have q104 : x5_1 < (t101.length : Int) := of_decide_eq_true (zq6); obtain ⟨ad104, e104, hx104_0⟩ := Kd.at_int (Kd.R_reads' HO_3.out).2.2 x5_1 p104 q104; cases e104; replace p104 := eq_true p104; replace q104 := eq_true q104; go_wp2_with (first | ((with_reducible refine gate_dst (N := 29) rfl ?_); refine Kd.R_lit (Kd.int .u8) _ 5 ?hg (N := 29) ?hd (xs := ([(wrap64 ((rd t101 x5_1) + 128)) % 256] : List Int)) (inner := [.int .u8 ((wrap64 ((rd t101 x5_1) + 128)) % 256)]) (ok := fun _ => True) (okp := fun _ => True) ?hr ?hp (fun _ hk => hk) trivial (Below.refl _ _) (Nat.le_refl _) (by simp) ?_; (case hd => rfl); (case hg => rfl); (case hr => first | (go_simp; done) | (go_simp; rfl)); (case hp => exact (Reps.one (show Kd.M (Kd.int .u8) _ _ _ ((wrap64 ((rd t101 x5_1) + 128)) % 256) [.int .u8 ((wrap64 ((rd t101 x5_1) + 128)) % 256)] from rfl) (Reps.none _ _))); intro v106 w9 ho10 hb hg_ hnew_; clear hg_ hnew_; (first | rw [← Ny105.out] at ho10 | (simp only [Int.reduceToNat] at ho10; rw [← Ny105.out] at ho10)); have n0_ := zm (Kd.R_below (zq67) hb); have n1_ := zm (Kd.R_lower ho10 (below_size (zq0))); have n2_ := zm (below_step (zq0) hb); clear HO_3 HB; revert n0_ n1_ n2_; intro HO_3 HO107 HB; clear hb ho10; have hcv11 := own_string (P := Try.prog) Try.underlying155 Try.underlying5 Try.underlying9 (Kd.own_of_R HO107.out))); (go_roundg k1)
              case measure => have := HK1.out; omega
              case rel => exact ⟨(x4_1 ++ (strOfNums y105)), (wrap64 (x5_1 + 1)), (zq11), (zq11), H', ⟨by have := HK1.out; omega⟩, ⟨zq67⟩, ⟨zq0⟩⟩
            · rw [if_neg c7] at H; exact absurd H (by simp)
          · rw [if_neg c6] at H; have c6b0 : decide ((wrap64 (x5_1 + 1)) < (t101.length : Int)) = false := decide_eq_false c6; clear c6; obtain ⟨y108, hy108⟩ : ∃ y_ : List Int, y_ = (([(rd t101 x5_1) % 256] : List Int)) := ⟨_, rfl⟩; (replace H : (if x4_1.size + (strOfNums y108).size ≤ 9223372036854775807 then (pleachref01_Put.l0 k1 t101 (x4_1 ++ (strOfNums y108)) (wrap64 (x5_1 + 1))) else (none)) = some r := by first | (rw [hy108]; with_reducible exact H) | (have H2_ := (Option.bind_some _ _).symm.trans H; rw [hy108]; with_reducible exact H2_) | (have H2_ := (Option.bind_some _ _).symm.trans H; with_reducible exact H2_) | with_reducible exact H | (rw [hy108]; exact H) | exact H); have Ny108 := Aside0.mk hy108; clear hy108; by_cases c12 : x4_1.size + (strOfNums y108).size ≤ 9223372036854775807
            · rw [if_pos c12] at H; have c12b0 := eq_true c12; have c12b1 : decide (x4_1.size + (strOfNums y108).size ≤ 9223372036854775807) = true := decide_eq_true c12; (try have c12b2 : (9223372036854775807 < x4_1.size + (strOfNums y108).size) = False := eq_false (Nat.not_lt.2 c12)); have H' := Aside0.mk H; clear H; obtain ⟨Ao13, co13, eo13⟩ := Kd.R_slice HO_3.out; subst eo13; have p104 : 0 ≤ (x5_1 : Int) := of_decide_eq_true (zq6); have q104 : x5_1 < (t101.length : Int) := of_decide_eq_true (zq6); obtain ⟨ad104, e104, hx104_0⟩ := Kd.at_int (Kd.R_reads' HO_3.out).2.2 x5_1 p104 q104; cases e104; replace p104 := eq_true p104; replace q104 := eq_true q104; go_wp2_with (first | ((with_reducible refine gate_dst (N := 29) rfl ?_); refine Kd.R_lit (Kd.int .u8) _ 5 ?hg (N := 29) ?hd (xs := ([(rd t101 x5_1) % 256] : List Int)) (inner := [.int .u8 ((rd t101 x5_1) % 256)]) (ok := fun _ => True) (okp := fun _ => True) ?hr ?hp (fun _ hk => hk) trivial (Below.refl _ _) (Nat.le_refl _) (by simp) ?_; (case hd => rfl); (case hg => rfl); (case hr => first | (go_simp; done) | (go_simp; rfl)); (case hp => exact (Reps.one (show Kd.M (Kd.int .u8) _ _ _ ((rd t101 x5_1) % 256) [.int .u8 ((rd t101 x5_1) % 256)] from rfl) (Reps.none _ _))); intro v109 w14 ho15 hb hg_ hnew_; clear hg_ hnew_; (first | rw [← Ny108.out] at ho15 | (simp only [Int.reduceToNat] at ho15; rw [← Ny108.out] at ho15)); have n0_ := zm (Kd.R_below (zq67) hb); have n1_ := zm (Kd.R_lower ho15 (below_size (zq0))); have n2_ := zm (below_step (zq0) hb); clear HO_3 HB; revert n0_ n1_ n2_; intro HO_3 HO110 HB; clear hb ho15; have hcv16 := own_string (P := Try.prog) Try.underlying155 Try.underlying5 Try.underlying9 (Kd.own_of_R HO110.out))); (go_roundg k1)
              case measure => have := HK1.out; omega
              case rel => exact ⟨(x4_1 ++ (strOfNums y108)), (wrap64 (x5_1 + 1)), (zq11), (zq11), H', ⟨by have := HK1.out; omega⟩, ⟨zq67⟩, ⟨zq0⟩⟩
            · rw [if_neg c12] at H; exact absurd H (by simp)
        · rw [if_neg c5] at H; exact absurd H (by simp)
      · rw [if_neg c4] at H; have c4b0 : decide (x5_1 < (t101.length : Int)) = false := decide_eq_false c4; clear c4; obtain rfl := Option.some.inj H; obtain ⟨Ao17, co17, eo17⟩ := Kd.R_slice HO_3.out; subst eo17; (go_wp2); (go_ret); exact ⟨zq5, zq0⟩

end Go.Proofs.Ytmnadajjgnniaaa.MA
end
section
namespace Go.Proofs.Ytmnadajjgnniaaa.MA
open Go.RowKit Go.Proofs.YtmnadajjgnniaaaW.PrintWords Go.Proofs.YtmnadajjgnniaaaW.PrintLast Go.Proofs.YtmnadajjgnniaaaW.PrintMore
attribute [local go_sem] max2_int min2_int max_two min_two max_three min_three max_four min_four

def pleachref04_PutText.f (k : Nat) (a0 : ByteArray) : Option (ByteArray) := if a0.size ≤ 9223372036854775807 then ((pleachref01_Put.f k (a0.size : Int)).bind fun t101 => (if t101.size + a0.size ≤ 9223372036854775807 then (some (t101 ++ a0)) else (none))) else (none)
theorem pleachref04_PutText.mono : ∀ a0 k, LeO (pleachref04_PutText.f k a0) (pleachref04_PutText.f (k + 1) a0) := by
  intro a0 k; unfold pleachref04_PutText.f
  repeat' first
      | (with_reducible exact pleachref01_Put.mono _ _)
      | (with_reducible exact LeO.refl _)
      | (with_reducible exact LeO.none _)
      | (with_reducible refine LeO.ite ?_ ?_)
      | (with_reducible refine LeO.bind ?_ (fun _ => ?_))
      | exact pleachref01_Put.mono _ _
      | exact LeO.none _
      | refine LeO.ite ?_ ?_
      | refine LeO.bind ?_ (fun _ => ?_)
set_option maxHeartbeats 8000000 in
set_option maxRecDepth 100000 in
theorem pleachref04_PutText.calls (k : Nat) (a0 : ByteArray) (r : ByteArray) (w : World) (h : pleachref04_PutText.f k a0 = some r) :
    Calls Try.prog 61 #[.string a0] w fun e w' => e = .returned (.string r) ∧ Below w.heap.size w w' := by
  have HB := zm (Below.refl w.heap.size w); have H : (if a0.size ≤ 9223372036854775807 then ((pleachref01_Put.f k (a0.size : Int)).bind fun t101 => (if t101.size + a0.size ≤ 9223372036854775807 then (some (t101 ++ a0)) else (none))) else (none)) = some r := h; clear h; by_cases c2 : a0.size ≤ 9223372036854775807
  · rw [if_pos c2] at H; have c2b0 := eq_true c2; have c2b1 : decide (a0.size ≤ 9223372036854775807) = true := decide_eq_true c2; (try have c2b2 : (9223372036854775807 < a0.size) = False := eq_false (Nat.not_lt.2 c2)); clear c2; replace H := Option.bind_eq_some_iff.mp H; obtain ⟨t101, A30, H⟩ := H; replace H : (if t101.size + a0.size ≤ 9223372036854775807 then (some (t101 ++ a0)) else (none)) = some r := H; have A3 := Aside0.mk A30; clear A30; by_cases c4 : t101.size + a0.size ≤ 9223372036854775807
    · rw [if_pos c4] at H; have c4b0 := eq_true c4; have c4b1 : decide (t101.size + a0.size ≤ 9223372036854775807) = true := decide_eq_true c4; (try have c4b2 : (9223372036854775807 < t101.size + a0.size) = False := eq_false (Nat.not_lt.2 c4)); obtain rfl := Option.some.inj H; go_enter Try.func61, Try.ntmps61; go_wp2_with (first | ((with_reducible refine gate_callee (f := 87) rfl ?_); refine goesL_ (some 6) rfl rfl Try.func87 (by kernel_rfl) rfl #[.int .u64 (a0.size : Int)] rfl (zq2) ?_; (with_reducible refine (pleachref01_Put.calls k (a0.size : Int) t101 _ A3.out).mono ?_); rintro e w5 ⟨rfl, hb⟩; refine ⟨_, rfl, ?_⟩; have n0_ := zm (below_step (zq0) hb); clear HB; revert n0_; intro HB; (try clear hb); (try clear hb2); (try clear hk); (try clear hi))); (go_ret); exact ⟨zq5, zq0⟩
    · rw [if_neg c4] at H; exact absurd H (by simp)
  · rw [if_neg c2] at H; exact absurd H (by simp)

end Go.Proofs.Ytmnadajjgnniaaa.MA
end
section
namespace Go.Proofs.Ytmnadajjgnniaaa.MA
open Go.RowKit Go.Proofs.YtmnadajjgnniaaaW.PrintWords Go.Proofs.YtmnadajjgnniaaaW.PrintLast Go.Proofs.YtmnadajjgnniaaaW.PrintMore
attribute [local go_sem] max2_int min2_int max_two min_two max_three min_three max_four min_four

def pleachref04_PutNum.f (k : Nat) (a0 : Int) : Option (ByteArray) := if a0 < 0 then ((pleachref01_Put.f k 0).bind fun t101 => (some t101)) else ((pleachref01_Put.f k (IntKind.u64.wrap (a0))).bind fun t102 => (some t102))
theorem pleachref04_PutNum.mono : ∀ a0 k, LeO (pleachref04_PutNum.f k a0) (pleachref04_PutNum.f (k + 1) a0) := by
  intro a0 k; unfold pleachref04_PutNum.f
  repeat' first
      | (with_reducible exact pleachref01_Put.mono _ _)
      | (with_reducible exact LeO.refl _)
      | (with_reducible exact LeO.none _)
      | (with_reducible refine LeO.ite ?_ ?_)
      | (with_reducible refine LeO.bind ?_ (fun _ => ?_))
      | exact pleachref01_Put.mono _ _
      | exact LeO.none _
      | refine LeO.ite ?_ ?_
      | refine LeO.bind ?_ (fun _ => ?_)
set_option maxHeartbeats 8000000 in
set_option maxRecDepth 100000 in
theorem pleachref04_PutNum.calls (k : Nat) (a0 : Int) (r : ByteArray) (w : World) (h : pleachref04_PutNum.f k a0 = some r) :
    Calls Try.prog 81 #[.int .i64 a0] w fun e w' => e = .returned (.string r) ∧ Below w.heap.size w w' := by
  have HB := zm (Below.refl w.heap.size w); have H : (if a0 < 0 then ((pleachref01_Put.f k 0).bind fun t101 => (some t101)) else ((pleachref01_Put.f k (IntKind.u64.wrap (a0))).bind fun t102 => (some t102))) = some r := h; clear h; by_cases c2 : a0 < 0
  · rw [if_pos c2] at H; have c2b0 : decide (a0 < 0) = true := decide_eq_true c2; clear c2; replace H := Option.bind_eq_some_iff.mp H; obtain ⟨t101, A30, H⟩ := H; replace H : (some t101) = some r := H; have A3 := Aside0.mk A30; clear A30; obtain rfl := Option.some.inj H; go_enter Try.func81, Try.ntmps81; go_wp2_with (first | ((with_reducible refine gate_callee (f := 87) rfl ?_); refine goesL_ (some 7) rfl rfl Try.func87 (by kernel_rfl) rfl #[.int .u64 0] rfl (zq2) ?_; (with_reducible refine (pleachref01_Put.calls k 0 t101 _ A3.out).mono ?_); rintro e w4 ⟨rfl, hb⟩; refine ⟨_, rfl, ?_⟩; have n0_ := zm (below_step (zq0) hb); clear HB; revert n0_; intro HB; (try clear hb); (try clear hb2); (try clear hk); (try clear hi))); (go_ret); exact ⟨zq5, zq0⟩
  · rw [if_neg c2] at H; have c2b0 : decide (a0 < 0) = false := decide_eq_false c2; clear c2; replace H := Option.bind_eq_some_iff.mp H; obtain ⟨t102, A50, H⟩ := H; replace H : (some t102) = some r := H; have A5 := Aside0.mk A50; clear A50; obtain rfl := Option.some.inj H; go_enter Try.func81, Try.ntmps81; go_wp2_with (first | ((with_reducible refine gate_callee (f := 87) rfl ?_); refine goesL_ (some 7) rfl rfl Try.func87 (by kernel_rfl) rfl #[.int .u64 (IntKind.u64.wrap (a0))] rfl (zq2) ?_; (with_reducible refine (pleachref01_Put.calls k (IntKind.u64.wrap (a0)) t102 _ A5.out).mono ?_); rintro e w6 ⟨rfl, hb⟩; refine ⟨_, rfl, ?_⟩; have n0_ := zm (below_step (zq0) hb); clear HB; revert n0_; intro HB; (try clear hb); (try clear hb2); (try clear hk); (try clear hi))); (go_ret); exact ⟨zq5, zq0⟩

end Go.Proofs.Ytmnadajjgnniaaa.MA
end
section
namespace Go.Proofs.Ytmnadajjgnniaaa.MA
open Go.RowKit Go.Proofs.YtmnadajjgnniaaaW.PrintWords Go.Proofs.YtmnadajjgnniaaaW.PrintLast Go.Proofs.YtmnadajjgnniaaaW.PrintMore
attribute [local go_sem] max2_int min2_int max_two min_two max_three min_three max_four min_four

def pleachref01_Zig.f (a0 : Int) : Option (Int) := if a0 ≥ 0 then (some (IntKind.u64.wrap ((IntKind.u64.wrap (a0)) * 2))) else (some (IntKind.u64.wrap ((IntKind.u64.wrap ((IntKind.u64.wrap (wrap64 (-(wrap64 (a0 + 1))))) * 2)) + 1)))
set_option maxHeartbeats 8000000 in
set_option maxRecDepth 100000 in
theorem pleachref01_Zig.calls (a0 : Int) (r : Int) (w : World) (h : pleachref01_Zig.f a0 = some r) :
    Calls Try.prog 107 #[.int .i64 a0] w fun e w' => e = .returned (.int .u64 r) ∧ Drawn0 w w' := by
  have H : (if a0 ≥ 0 then (some (IntKind.u64.wrap ((IntKind.u64.wrap (a0)) * 2))) else (some (IntKind.u64.wrap ((IntKind.u64.wrap ((IntKind.u64.wrap (wrap64 (-(wrap64 (a0 + 1))))) * 2)) + 1)))) = some r := h; clear h; by_cases c2 : a0 ≥ 0
  · rw [if_pos c2] at H; have c2b0 : decide (0 ≤ a0) = true := decide_eq_true c2; clear c2; obtain rfl := Option.some.inj H; go_enter Try.func107, Try.ntmps107; (go_wp2); (go_ret); exact ⟨zq11, zq16⟩
  · rw [if_neg c2] at H; have c2b0 : decide (0 ≤ a0) = false := decide_eq_false c2; clear c2; obtain rfl := Option.some.inj H; go_enter Try.func107, Try.ntmps107; (go_wp2); (go_ret); exact ⟨zq11, zq16⟩

end Go.Proofs.Ytmnadajjgnniaaa.MA
end
section
namespace Go.Proofs.Ytmnadajjgnniaaa.MA
open Go.RowKit Go.Proofs.YtmnadajjgnniaaaW.PrintWords Go.Proofs.YtmnadajjgnniaaaW.PrintLast Go.Proofs.YtmnadajjgnniaaaW.PrintMore
attribute [local go_sem] max2_int min2_int max_two min_two max_three min_three max_four min_four

def pleachref06_Put.f (k : Nat) (a0_0 : Int) (a0_1 : Int) (a0_2 : ByteArray) : Option (ByteArray) := (pleachref06_Is.f a0_0 a0_1 a0_2).bind fun t102 => (if t102 = true then (if a0_0 = 1 then (some (strOfNums (([1, (a0_1) % 256] : List Int)))) else (if a0_0 = 2 then ((pleachref01_Zig.f a0_1).bind fun t106 => ((pleachref01_Put.f k t106).bind fun t107 => (if 1 + t107.size ≤ 9223372036854775807 then (some ((⟨#[2]⟩ : ByteArray) ++ t107)) else (none)))) else ((pleachref04_PutText.f k a0_2).bind fun t108 => (if 1 + t108.size ≤ 9223372036854775807 then (some ((⟨#[3]⟩ : ByteArray) ++ t108)) else (none))))) else (some (⟨#[]⟩ : ByteArray)))
theorem pleachref06_Put.mono : ∀ a0 a1 a2 k, LeO (pleachref06_Put.f k a0 a1 a2) (pleachref06_Put.f (k + 1) a0 a1 a2) := by
  intro a0 a1 a2 k; unfold pleachref06_Put.f
  repeat' first
      | (with_reducible exact pleachref01_Put.mono _ _)
      | (with_reducible exact pleachref04_PutText.mono _ _)
      | (with_reducible exact LeO.refl _)
      | (with_reducible exact LeO.none _)
      | (with_reducible refine LeO.ite ?_ ?_)
      | (with_reducible refine LeO.bind ?_ (fun _ => ?_))
      | exact pleachref01_Put.mono _ _
      | exact pleachref04_PutText.mono _ _
      | exact LeO.none _
      | refine LeO.ite ?_ ?_
      | refine LeO.bind ?_ (fun _ => ?_)
set_option maxHeartbeats 8000000 in
set_option maxRecDepth 100000 in
theorem pleachref06_Put.calls (k : Nat) (a0_0 : Int) (a0_1 : Int) (a0_2 : ByteArray) (r : ByteArray) (w : World) (h : pleachref06_Put.f k a0_0 a0_1 a0_2 = some r) :
    Calls Try.prog 82 #[.agg #[.int .i64 a0_0, .int .i64 a0_1, .string a0_2]] w fun e w' => e = .returned (.string r) ∧ Below w.heap.size w w' := by
  have hu80 := Try.underlying80; have HB := zm (Below.refl w.heap.size w); have H : ((pleachref06_Is.f a0_0 a0_1 a0_2).bind fun t102 => (if t102 = true then (if a0_0 = 1 then (some (strOfNums (([1, (a0_1) % 256] : List Int)))) else (if a0_0 = 2 then ((pleachref01_Zig.f a0_1).bind fun t106 => ((pleachref01_Put.f k t106).bind fun t107 => (if 1 + t107.size ≤ 9223372036854775807 then (some ((⟨#[2]⟩ : ByteArray) ++ t107)) else (none)))) else ((pleachref04_PutText.f k a0_2).bind fun t108 => (if 1 + t108.size ≤ 9223372036854775807 then (some ((⟨#[3]⟩ : ByteArray) ++ t108)) else (none))))) else (some (⟨#[]⟩ : ByteArray)))) = some r := h; clear h; replace H := Option.bind_eq_some_iff.mp H; obtain ⟨t102, A20, H⟩ := H; replace H : (if t102 = true then (if a0_0 = 1 then (some (strOfNums (([1, (a0_1) % 256] : List Int)))) else (if a0_0 = 2 then ((pleachref01_Zig.f a0_1).bind fun t106 => ((pleachref01_Put.f k t106).bind fun t107 => (if 1 + t107.size ≤ 9223372036854775807 then (some ((⟨#[2]⟩ : ByteArray) ++ t107)) else (none)))) else ((pleachref04_PutText.f k a0_2).bind fun t108 => (if 1 + t108.size ≤ 9223372036854775807 then (some ((⟨#[3]⟩ : ByteArray) ++ t108)) else (none))))) else (some (⟨#[]⟩ : ByteArray))) = some r := H; have A2 := Aside0.mk A20; clear A20; by_cases c3 : t102 = true
  · subst c3; (have H1 : (if a0_0 = 1 then (some (strOfNums (([1, (a0_1) % 256] : List Int)))) else (if a0_0 = 2 then ((pleachref01_Zig.f a0_1).bind fun t106 => ((pleachref01_Put.f k t106).bind fun t107 => (if 1 + t107.size ≤ 9223372036854775807 then (some ((⟨#[2]⟩ : ByteArray) ++ t107)) else (none)))) else ((pleachref04_PutText.f k a0_2).bind fun t108 => (if 1 + t108.size ≤ 9223372036854775807 then (some ((⟨#[3]⟩ : ByteArray) ++ t108)) else (none))))) = some r := by rw [if_pos rfl] at H; exact H); clear H; have H := H1; clear H1; by_cases c4 : a0_0 = 1
    · rw [if_pos c4] at H; have c4b0 : (a0_0 == 1) = true := beq_iff_eq.mpr c4; have c4b1 : (a0_0 != 1) = false := bne_eq_false_iff_eq.mpr c4; clear c4; obtain ⟨y103, hy103⟩ : ∃ y_ : List Int, y_ = (([1, (a0_1) % 256] : List Int)) := ⟨_, rfl⟩; (replace H : (some (strOfNums y103)) = some r := by first | (rw [hy103]; with_reducible exact H) | (have H2_ := (Option.bind_some _ _).symm.trans H; rw [hy103]; with_reducible exact H2_) | (have H2_ := (Option.bind_some _ _).symm.trans H; with_reducible exact H2_) | with_reducible exact H | (rw [hy103]; exact H) | exact H); have Ny103 := Aside0.mk hy103; clear hy103; obtain rfl := Option.some.inj H; go_enter Try.func82, Try.ntmps82; go_wp2_with (first | ((with_reducible refine gate_dst (N := 1) rfl ?_); refine box_event ?hg (N := 1) ?hd (cs := #[.int .i64 a0_0, .int .i64 a0_1, .string a0_2]) (t := 80) ?hr ?_; (case hd => rfl); (case hg => rfl); (case hr => first | (go_simp; done) | (go_simp; rfl)); intro gb101 hg w5 hbox hb; have n0_ := zm (below_step (zq0) hb); have n1_ := zm (hbox); have n2_ := zm ((by rw [hg]; exact (below_size (zq0)) : w.heap.size ≤ gb101)); have n3_ := zm ((by rw [hg]; exact (below_size (zq0)) : w.heap.size ≤ gb101)); clear HB; revert n0_ n1_ n2_ n3_; intro HB BK101 GW101 GE101; clear hb hbox hg; have hcz6_0 : w5.cell? ⟨gb101, 0, none⟩ = some (.int .i64 a0_0) := (blk_cell BK101.out 0).trans rfl; have hcz6_1 : w5.cell? ⟨gb101, 1, none⟩ = some (.int .i64 a0_1) := (blk_cell BK101.out 1).trans rfl; have hcz6_2 : w5.cell? ⟨gb101, 2, none⟩ = some (.string a0_2) := (blk_cell BK101.out 2).trans rfl; have hfz6_0 := blk_frozen BK101.out 0; have hfz6_1 := blk_frozen BK101.out 1; have hfz6_2 := blk_frozen BK101.out 2) | ((with_reducible refine gate_callee (f := 59) rfl ?_); refine goesL_ (some 4) rfl rfl Try.func59 (by kernel_rfl) rfl #[.agg #[.int .i64 a0_0, .int .i64 a0_1, .string a0_2]] rfl (zq2) ?_; (with_reducible refine (pleachref06_Is.calls a0_0 a0_1 a0_2 true _ A2.out).mono ?_); rintro e w7 ⟨rfl, hb⟩; refine ⟨_, rfl, ?_⟩; have n0_ := zm (blk_below (g := gb101) (o := .cells #[.int .i64 a0_0, .int .i64 a0_1, .string a0_2] 80 (0, 0)) (zq3) hb); have n1_ := zm (below_step (zq1) hb); clear BK101 HB; revert n0_ n1_; intro BK101 HB; (try clear hb); (try clear hb2); (try clear hk); (try clear hi); have hcz8_0 : w7.cell? ⟨gb101, 0, none⟩ = some (.int .i64 a0_0) := (blk_cell BK101.out 0).trans rfl; have hcz8_1 : w7.cell? ⟨gb101, 1, none⟩ = some (.int .i64 a0_1) := (blk_cell BK101.out 1).trans rfl; have hcz8_2 : w7.cell? ⟨gb101, 2, none⟩ = some (.string a0_2) := (blk_cell BK101.out 2).trans rfl; have hfz8_0 := blk_frozen BK101.out 0; have hfz8_1 := blk_frozen BK101.out 1; have hfz8_2 := blk_frozen BK101.out 2) | ((with_reducible refine gate_dst (N := 12) rfl ?_); refine Kd.R_lit (Kd.int .u8) _ 5 ?hg (N := 12) ?hd (xs := ([1, (a0_1) % 256] : List Int)) (inner := [.int .u8 1, .int .u8 ((a0_1) % 256)]) (ok := fun _ => True) (okp := fun _ => True) ?hr ?hp (fun _ hk => hk) trivial (Below.refl _ _) (Nat.le_refl _) (by simp) ?_; (case hd => rfl); (case hg => rfl); (case hr => first | (go_simp; done) | (go_simp; rfl)); (case hp => exact (Reps.one (show Kd.M (Kd.int .u8) _ _ _ 1 [.int .u8 1] from rfl) (Reps.one (show Kd.M (Kd.int .u8) _ _ _ ((a0_1) % 256) [.int .u8 ((a0_1) % 256)] from rfl) (Reps.none _ _)))); intro v104 w9 ho10 hb hg_ hnew_; clear hg_ hnew_; (first | rw [← Ny103.out] at ho10 | (simp only [Int.reduceToNat] at ho10; rw [← Ny103.out] at ho10)); have n0_ := zm (Kd.R_lower ho10 (below_size (zq1))); have n1_ := zm (blk_below (g := gb101) (o := .cells #[.int .i64 a0_0, .int .i64 a0_1, .string a0_2] 80 (0, 0)) (zq3) hb); have n2_ := zm (below_step (zq1) hb); clear BK101 HB; revert n0_ n1_ n2_; intro HO105 BK101 HB; clear hb ho10; have hcv11 := own_string (P := Try.prog) Try.underlying155 Try.underlying5 Try.underlying9 (Kd.own_of_R HO105.out))); (go_ret); exact ⟨zq5, zq1⟩
    · rw [if_neg c4] at H; have c4b0 : (a0_0 == 1) = false := beq_eq_false_iff_ne.mpr c4; have c4b1 : (a0_0 != 1) = true := bne_iff_ne.mpr c4; by_cases c12 : a0_0 = 2
      · rw [if_pos c12] at H; have c12b0 : (a0_0 == 2) = true := beq_iff_eq.mpr c12; have c12b1 : (a0_0 != 2) = false := bne_eq_false_iff_eq.mpr c12; clear c12; replace H := Option.bind_eq_some_iff.mp H; obtain ⟨t106, A130, H⟩ := H; replace H : ((pleachref01_Put.f k t106).bind fun t107 => (if 1 + t107.size ≤ 9223372036854775807 then (some ((⟨#[2]⟩ : ByteArray) ++ t107)) else (none))) = some r := H; have A13 := Aside0.mk A130; clear A130; replace H := Option.bind_eq_some_iff.mp H; obtain ⟨t107, A140, H⟩ := H; replace H : (if 1 + t107.size ≤ 9223372036854775807 then (some ((⟨#[2]⟩ : ByteArray) ++ t107)) else (none)) = some r := H; have A14 := Aside0.mk A140; clear A140; by_cases c15 : 1 + t107.size ≤ 9223372036854775807
        · rw [if_pos c15] at H; have c15b0 := eq_true c15; have c15b1 : decide (1 + t107.size ≤ 9223372036854775807) = true := decide_eq_true c15; (try have c15b2 : (9223372036854775807 < 1 + t107.size) = False := eq_false (Nat.not_lt.2 c15)); obtain rfl := Option.some.inj H; go_enter Try.func82, Try.ntmps82; go_wp2_with (first | ((with_reducible refine gate_dst (N := 1) rfl ?_); refine box_event ?hg (N := 1) ?hd (cs := #[.int .i64 a0_0, .int .i64 a0_1, .string a0_2]) (t := 80) ?hr ?_; (case hd => rfl); (case hg => rfl); (case hr => first | (go_simp; done) | (go_simp; rfl)); intro gb101 hg w16 hbox hb; have n0_ := zm (below_step (zq0) hb); have n1_ := zm (hbox); have n2_ := zm ((by rw [hg]; exact (below_size (zq0)) : w.heap.size ≤ gb101)); have n3_ := zm ((by rw [hg]; exact (below_size (zq0)) : w.heap.size ≤ gb101)); clear HB; revert n0_ n1_ n2_ n3_; intro HB BK101 GW101 GE101; clear hb hbox hg; have hcz17_0 : w16.cell? ⟨gb101, 0, none⟩ = some (.int .i64 a0_0) := (blk_cell BK101.out 0).trans rfl; have hcz17_1 : w16.cell? ⟨gb101, 1, none⟩ = some (.int .i64 a0_1) := (blk_cell BK101.out 1).trans rfl; have hcz17_2 : w16.cell? ⟨gb101, 2, none⟩ = some (.string a0_2) := (blk_cell BK101.out 2).trans rfl; have hfz17_0 := blk_frozen BK101.out 0; have hfz17_1 := blk_frozen BK101.out 1; have hfz17_2 := blk_frozen BK101.out 2) | ((with_reducible refine gate_callee (f := 59) rfl ?_); refine goesL_ (some 4) rfl rfl Try.func59 (by kernel_rfl) rfl #[.agg #[.int .i64 a0_0, .int .i64 a0_1, .string a0_2]] rfl (zq2) ?_; (with_reducible refine (pleachref06_Is.calls a0_0 a0_1 a0_2 true _ A2.out).mono ?_); rintro e w18 ⟨rfl, hb⟩; refine ⟨_, rfl, ?_⟩; have n0_ := zm (blk_below (g := gb101) (o := .cells #[.int .i64 a0_0, .int .i64 a0_1, .string a0_2] 80 (0, 0)) (zq3) hb); have n1_ := zm (below_step (zq1) hb); clear BK101 HB; revert n0_ n1_; intro BK101 HB; (try clear hb); (try clear hb2); (try clear hk); (try clear hi); have hcz19_0 : w18.cell? ⟨gb101, 0, none⟩ = some (.int .i64 a0_0) := (blk_cell BK101.out 0).trans rfl; have hcz19_1 : w18.cell? ⟨gb101, 1, none⟩ = some (.int .i64 a0_1) := (blk_cell BK101.out 1).trans rfl; have hcz19_2 : w18.cell? ⟨gb101, 2, none⟩ = some (.string a0_2) := (blk_cell BK101.out 2).trans rfl; have hfz19_0 := blk_frozen BK101.out 0; have hfz19_1 := blk_frozen BK101.out 1; have hfz19_2 := blk_frozen BK101.out 2) | ((with_reducible refine gate_callee (f := 107) rfl ?_); refine goesL_ (some 19) rfl rfl Try.func107 (by kernel_rfl) rfl #[.int .i64 a0_1] rfl (zq2) ?_; (with_reducible refine (pleachref01_Zig.calls a0_1 t106 _ A13.out).mono ?_); rintro e w' ⟨rfl, ⟨nd, rfl⟩⟩; refine ⟨_, rfl, ?_⟩) | ((with_reducible refine gate_callee (f := 87) rfl ?_); refine goesL_ (some 20) rfl rfl Try.func87 (by kernel_rfl) rfl #[.int .u64 t106] rfl (zq2) ?_; (with_reducible refine (pleachref01_Put.calls k t106 t107 _ A14.out).mono ?_); rintro e w20 ⟨rfl, hb⟩; refine ⟨_, rfl, ?_⟩; have n0_ := zm (blk_below (g := gb101) (o := .cells #[.int .i64 a0_0, .int .i64 a0_1, .string a0_2] 80 (0, 0)) (zq3) hb); have n1_ := zm (below_step (zq1) hb); clear BK101 HB; revert n0_ n1_; intro BK101 HB; (try clear hb); (try clear hb2); (try clear hk); (try clear hi))); (go_ret); exact ⟨zq5, zq1⟩
        · rw [if_neg c15] at H; exact absurd H (by simp)
      · rw [if_neg c12] at H; have c12b0 : (a0_0 == 2) = false := beq_eq_false_iff_ne.mpr c12; have c12b1 : (a0_0 != 2) = true := bne_iff_ne.mpr c12; replace H := Option.bind_eq_some_iff.mp H; obtain ⟨t108, A210, H⟩ := H; replace H : (if 1 + t108.size ≤ 9223372036854775807 then (some ((⟨#[3]⟩ : ByteArray) ++ t108)) else (none)) = some r := H; have A21 := Aside0.mk A210; clear A210; by_cases c22 : 1 + t108.size ≤ 9223372036854775807
        · rw [if_pos c22] at H; have c22b0 := eq_true c22; have c22b1 : decide (1 + t108.size ≤ 9223372036854775807) = true := decide_eq_true c22; (try have c22b2 : (9223372036854775807 < 1 + t108.size) = False := eq_false (Nat.not_lt.2 c22)); obtain rfl := Option.some.inj H; go_enter Try.func82, Try.ntmps82; go_wp2_with (first | ((with_reducible refine gate_dst (N := 1) rfl ?_); refine box_event ?hg (N := 1) ?hd (cs := #[.int .i64 a0_0, .int .i64 a0_1, .string a0_2]) (t := 80) ?hr ?_; (case hd => rfl); (case hg => rfl); (case hr => first | (go_simp; done) | (go_simp; rfl)); intro gb101 hg w23 hbox hb; have n0_ := zm (below_step (zq0) hb); have n1_ := zm (hbox); have n2_ := zm ((by rw [hg]; exact (below_size (zq0)) : w.heap.size ≤ gb101)); have n3_ := zm ((by rw [hg]; exact (below_size (zq0)) : w.heap.size ≤ gb101)); clear HB; revert n0_ n1_ n2_ n3_; intro HB BK101 GW101 GE101; clear hb hbox hg; have hcz24_0 : w23.cell? ⟨gb101, 0, none⟩ = some (.int .i64 a0_0) := (blk_cell BK101.out 0).trans rfl; have hcz24_1 : w23.cell? ⟨gb101, 1, none⟩ = some (.int .i64 a0_1) := (blk_cell BK101.out 1).trans rfl; have hcz24_2 : w23.cell? ⟨gb101, 2, none⟩ = some (.string a0_2) := (blk_cell BK101.out 2).trans rfl; have hfz24_0 := blk_frozen BK101.out 0; have hfz24_1 := blk_frozen BK101.out 1; have hfz24_2 := blk_frozen BK101.out 2) | ((with_reducible refine gate_callee (f := 59) rfl ?_); refine goesL_ (some 4) rfl rfl Try.func59 (by kernel_rfl) rfl #[.agg #[.int .i64 a0_0, .int .i64 a0_1, .string a0_2]] rfl (zq2) ?_; (with_reducible refine (pleachref06_Is.calls a0_0 a0_1 a0_2 true _ A2.out).mono ?_); rintro e w25 ⟨rfl, hb⟩; refine ⟨_, rfl, ?_⟩; have n0_ := zm (blk_below (g := gb101) (o := .cells #[.int .i64 a0_0, .int .i64 a0_1, .string a0_2] 80 (0, 0)) (zq3) hb); have n1_ := zm (below_step (zq1) hb); clear BK101 HB; revert n0_ n1_; intro BK101 HB; (try clear hb); (try clear hb2); (try clear hk); (try clear hi); have hcz26_0 : w25.cell? ⟨gb101, 0, none⟩ = some (.int .i64 a0_0) := (blk_cell BK101.out 0).trans rfl; have hcz26_1 : w25.cell? ⟨gb101, 1, none⟩ = some (.int .i64 a0_1) := (blk_cell BK101.out 1).trans rfl; have hcz26_2 : w25.cell? ⟨gb101, 2, none⟩ = some (.string a0_2) := (blk_cell BK101.out 2).trans rfl; have hfz26_0 := blk_frozen BK101.out 0; have hfz26_1 := blk_frozen BK101.out 1; have hfz26_2 := blk_frozen BK101.out 2) | ((with_reducible refine gate_callee (f := 61) rfl ?_); refine goesL_ (some 24) rfl rfl Try.func61 (by kernel_rfl) rfl #[.string a0_2] rfl (zq2) ?_; (with_reducible refine (pleachref04_PutText.calls k a0_2 t108 _ A21.out).mono ?_); rintro e w27 ⟨rfl, hb⟩; refine ⟨_, rfl, ?_⟩; have n0_ := zm (blk_below (g := gb101) (o := .cells #[.int .i64 a0_0, .int .i64 a0_1, .string a0_2] 80 (0, 0)) (zq3) hb); have n1_ := zm (below_step (zq1) hb); clear BK101 HB; revert n0_ n1_; intro BK101 HB; (try clear hb); (try clear hb2); (try clear hk); (try clear hi))); (go_ret); exact ⟨zq5, zq1⟩
        · rw [if_neg c22] at H; exact absurd H (by simp)
  · replace c3 := Bool.eq_false_iff.mpr c3; subst c3; (have H1 : (some (⟨#[]⟩ : ByteArray)) = some r := by rw [if_neg (show ¬ (false = true) by decide)] at H; exact H); clear H; have H := H1; clear H1; obtain rfl := Option.some.inj H; go_enter Try.func82, Try.ntmps82; go_wp2_with (first | ((with_reducible refine gate_dst (N := 1) rfl ?_); refine box_event ?hg (N := 1) ?hd (cs := #[.int .i64 a0_0, .int .i64 a0_1, .string a0_2]) (t := 80) ?hr ?_; (case hd => rfl); (case hg => rfl); (case hr => first | (go_simp; done) | (go_simp; rfl)); intro gb101 hg w28 hbox hb; have n0_ := zm (below_step (zq0) hb); have n1_ := zm (hbox); have n2_ := zm ((by rw [hg]; exact (below_size (zq0)) : w.heap.size ≤ gb101)); have n3_ := zm ((by rw [hg]; exact (below_size (zq0)) : w.heap.size ≤ gb101)); clear HB; revert n0_ n1_ n2_ n3_; intro HB BK101 GW101 GE101; clear hb hbox hg; have hcz29_0 : w28.cell? ⟨gb101, 0, none⟩ = some (.int .i64 a0_0) := (blk_cell BK101.out 0).trans rfl; have hcz29_1 : w28.cell? ⟨gb101, 1, none⟩ = some (.int .i64 a0_1) := (blk_cell BK101.out 1).trans rfl; have hcz29_2 : w28.cell? ⟨gb101, 2, none⟩ = some (.string a0_2) := (blk_cell BK101.out 2).trans rfl; have hfz29_0 := blk_frozen BK101.out 0; have hfz29_1 := blk_frozen BK101.out 1; have hfz29_2 := blk_frozen BK101.out 2) | ((with_reducible refine gate_callee (f := 59) rfl ?_); refine goesL_ (some 4) rfl rfl Try.func59 (by kernel_rfl) rfl #[.agg #[.int .i64 a0_0, .int .i64 a0_1, .string a0_2]] rfl (zq2) ?_; (with_reducible refine (pleachref06_Is.calls a0_0 a0_1 a0_2 false _ A2.out).mono ?_); rintro e w30 ⟨rfl, hb⟩; refine ⟨_, rfl, ?_⟩; have n0_ := zm (blk_below (g := gb101) (o := .cells #[.int .i64 a0_0, .int .i64 a0_1, .string a0_2] 80 (0, 0)) (zq3) hb); have n1_ := zm (below_step (zq1) hb); clear BK101 HB; revert n0_ n1_; intro BK101 HB; (try clear hb); (try clear hb2); (try clear hk); (try clear hi))); (go_ret); exact ⟨zq5, zq1⟩

end Go.Proofs.Ytmnadajjgnniaaa.MA
end
section
namespace Go.Proofs.Ytmnadajjgnniaaa.MA
open Go.RowKit Go.Proofs.YtmnadajjgnniaaaW.PrintWords Go.Proofs.YtmnadajjgnniaaaW.PrintLast Go.Proofs.YtmnadajjgnniaaaW.PrintMore
attribute [local go_sem] max2_int min2_int max_two min_two max_three min_three max_four min_four

mutual
def pleachref25_put.l0 : Nat → List ByteArray → List (S98) → ByteArray → Int → Option (ByteArray)
  | 0, _, _, _, _ => none
  | k + 1, x0, x1, x5, x6 => if x6 < (x0.length : Int) then (if 0 ≤ x6 then ((pleachref04_PutText.f k (rdOf ByteArray.empty x0 x6)).bind fun t103 => (if x5.size + t103.size ≤ 9223372036854775807 then (pleachref25_put.l0 k x0 x1 (x5 ++ t103) (wrap64 (x6 + 1))) else (none))) else (none)) else ((pleachref04_PutNum.f k (x1.length : Int)).bind fun t104 => (if x5.size + t104.size ≤ 9223372036854775807 then (pleachref25_put.l1 k x1 (x5 ++ t104) 0) else (none)))
def pleachref25_put.l1 : Nat → List (S98) → ByteArray → Int → Option (ByteArray)
  | 0, _, _, _ => none
  | k + 1, x1, x5, x7 => if x7 < (x1.length : Int) then (if 0 ≤ x7 then ((pleachref04_PutText.f k ((rd_T98 x1 x7).f0)).bind fun t106 => (if x5.size + t106.size ≤ 9223372036854775807 then ((pleachref06_Put.f k ((rd_T98 x1 x7).f1.f0) ((rd_T98 x1 x7).f1.f1) ((rd_T98 x1 x7).f1.f2)).bind fun t108 => (if x5.size + t106.size + t108.size ≤ 9223372036854775807 then (pleachref25_put.l1 k x1 ((x5 ++ t106) ++ t108) (wrap64 (x7 + 1))) else (none))) else (none))) else (none)) else (some x5)
end
def pleachref25_put.f (k : Nat) (l0 : List ByteArray) (l1 : List (S98)) : Option (ByteArray) := (pleachref04_PutNum.f k (l0.length : Int)).bind fun t101 => (pleachref25_put.l0 k l0 l1 t101 0)
theorem pleachref25_put.mono_l : ∀ k, (∀ y0 y1 y2 y3, LeO (pleachref25_put.l0 k y0 y1 y2 y3) (pleachref25_put.l0 (k + 1) y0 y1 y2 y3)) ∧ (∀ y0 y1 y2, LeO (pleachref25_put.l1 k y0 y1 y2) (pleachref25_put.l1 (k + 1) y0 y1 y2))
  | 0 => ⟨fun _ _ _ _ r h => by simp [pleachref25_put.l0] at h, fun _ _ _ r h => by simp [pleachref25_put.l1] at h⟩
  | k + 1 => by
    obtain ⟨ih0, ih1⟩ := pleachref25_put.mono_l k; refine ⟨?_, ?_⟩
    · intro y0 y1 y2 y3; unfold pleachref25_put.l0
      repeat' first
      | (with_reducible exact ih0 _ _ _ _)
      | (with_reducible exact ih1 _ _ _)
      | (with_reducible exact pleachref04_PutNum.mono _ _)
      | (with_reducible exact pleachref04_PutText.mono _ _)
      | (with_reducible exact pleachref06_Put.mono _ _ _ _)
      | (with_reducible exact LeO.refl _)
      | (with_reducible exact LeO.none _)
      | (with_reducible refine LeO.ite ?_ ?_)
      | (with_reducible refine LeO.bind ?_ (fun _ => ?_))
      | exact ih0 _ _ _ _
      | exact ih1 _ _ _
      | exact pleachref04_PutNum.mono _ _
      | exact pleachref04_PutText.mono _ _
      | exact pleachref06_Put.mono _ _ _ _
      | exact LeO.none _
      | refine LeO.ite ?_ ?_
      | refine LeO.bind ?_ (fun _ => ?_)
    · intro y0 y1 y2; unfold pleachref25_put.l1
      repeat' first
      | (with_reducible exact ih0 _ _ _ _)
      | (with_reducible exact ih1 _ _ _)
      | (with_reducible exact pleachref04_PutNum.mono _ _)
      | (with_reducible exact pleachref04_PutText.mono _ _)
      | (with_reducible exact pleachref06_Put.mono _ _ _ _)
      | (with_reducible exact LeO.refl _)
      | (with_reducible exact LeO.none _)
      | (with_reducible refine LeO.ite ?_ ?_)
      | (with_reducible refine LeO.bind ?_ (fun _ => ?_))
      | exact ih0 _ _ _ _
      | exact ih1 _ _ _
      | exact pleachref04_PutNum.mono _ _
      | exact pleachref04_PutText.mono _ _
      | exact pleachref06_Put.mono _ _ _ _
      | exact LeO.none _
      | refine LeO.ite ?_ ?_
      | refine LeO.bind ?_ (fun _ => ?_)
theorem pleachref25_put.mono : ∀ a0 a1 k, LeO (pleachref25_put.f k a0 a1) (pleachref25_put.f (k + 1) a0 a1) := by
  intro a0 a1 k; obtain ⟨ih0, ih1⟩ := pleachref25_put.mono_l k; unfold pleachref25_put.f
  repeat' first
      | (with_reducible exact ih0 _ _ _ _)
      | (with_reducible exact ih1 _ _ _)
      | (with_reducible exact pleachref04_PutNum.mono _ _)
      | (with_reducible exact pleachref04_PutText.mono _ _)
      | (with_reducible exact pleachref06_Put.mono _ _ _ _)
      | (with_reducible exact LeO.refl _)
      | (with_reducible exact LeO.none _)
      | (with_reducible refine LeO.ite ?_ ?_)
      | (with_reducible refine LeO.bind ?_ (fun _ => ?_))
      | exact ih0 _ _ _ _
      | exact ih1 _ _ _
      | exact pleachref04_PutNum.mono _ _
      | exact pleachref04_PutText.mono _ _
      | exact pleachref06_Put.mono _ _ _ _
      | exact LeO.none _
      | refine LeO.ite ?_ ?_
      | refine LeO.bind ?_ (fun _ => ?_)
def pleachref25_put.T10 : Bool × List (List Nat × List Nat) := (true, [([], []), ([], []), ([], []), ([1, 2], [1, 2]), ([3], [3]), ([4], [4]), ([5], [5]), ([0, 6], [0, 6]), ([], []), ([], []), ([8, 9], [8, 9]), ([10], [10]), ([11], [11]), ([12, 6], [12]), ([7, 13], [7, 13]), ([14, 13, 0, 1, 2, 3, 4, 5, 6, 7, 8, 9, 10, 11, 12, 13, 14], [0, 14])])
def pleachref25_put.B10 : List Nat := [0, 0, 0, 6, 14, 30, 62, 127, 0, 0, 768, 1792, 3840, 8062, 16383, 32767]
theorem pleachref25_put.tab10 : rtab .any (opsOf Try.f53 10) = pleachref25_put.T10 := by kernel_rfl
theorem pleachref25_put.bits10 : waitsOk pleachref25_put.T10.2 pleachref25_put.B10 = true := by kernel_rfl
set_option maxHeartbeats 8000000 in
set_option maxRecDepth 100000 in
theorem pleachref25_put.calls (k : Nat) (A0 : Option Addr) (c0 : Nat) (l0 : List ByteArray) (A1 : Option Addr) (c1 : Nat) (l1 : List (S98)) (r : ByteArray) (w : World) (hr0 : Kd.C Kd.string w A0 l0.length l0) (hc0 : l0.length ≤ c0) (hr1 : Kd.C k98 w A1 l1.length l1) (hc1 : l1.length ≤ c1) (h : pleachref25_put.f k l0 l1 = some r) :
    Calls Try.prog 53 #[.slice A0 l0.length c0, .slice A1 l1.length c1] w fun e w' => e = .returned (.string r) ∧ Below w.heap.size w w' := by
  have hu80 := Try.underlying80; have HR0 := Aside0.mk hr0; have HC0 := Aside0.mk hc0; clear hr0 hc0; have HR1 := Aside0.mk hr1; have HC1 := Aside0.mk hc1; clear hr1 hc1; have HB := zm (Below.refl w.heap.size w); have H : ((pleachref04_PutNum.f k (l0.length : Int)).bind fun t101 => (pleachref25_put.l0 k l0 l1 t101 0)) = some r := h; clear h; replace H := Option.bind_eq_some_iff.mp H; obtain ⟨t101, A30, H⟩ := H; replace H : (pleachref25_put.l0 k l0 l1 t101 0) = some r := H; have A3 := Aside0.mk A30; clear A30; have H' := Aside0.mk H; clear H; go_enter Try.func53, Try.ntmps53; go_wp2_with (first | ((with_reducible refine gate_callee (f := 81) rfl ?_); refine goesL_ (some 10) rfl rfl Try.func81 (by kernel_rfl) rfl #[.int .i64 (l0.length : Int)] rfl (zq2) ?_; (with_reducible refine (pleachref04_PutNum.calls k (l0.length : Int) t101 _ A3.out).mono ?_); rintro e w4 ⟨rfl, hb⟩; refine ⟨_, rfl, ?_⟩; have n0_ := zm (below_step (zq0) hb); clear HB; revert n0_; intro HB; (try clear hb); (try clear hb2); (try clear hk); (try clear hi))); (go_loopg [5, 6] k (fun kq v5 v6 w' => ∃ (x5_1 : ByteArray) (x6_1 : Int), v5 = .string x5_1 ∧ v6 = .int .i64 x6_1 ∧ Aside0 (pleachref25_put.l0 kq l0 l1 x5_1 x6_1 = some r) ∧ Aside0 (kq ≤ k) ∧ Aside0 (Below w.heap.size w w')))
  case atStart => exact ⟨(t101), (0), (zq11), (zq11), H', ⟨Nat.le_refl _⟩, ⟨zq0⟩⟩
  case round =>
    clear H'; (try clear c1); (try clear p2); obtain ⟨x5_1, x6_1, rfl, rfl, HA, HK1, HB⟩ := hrel
    cases gk with
    | zero => exact absurd HA.out (by simp [pleachref25_put.l0])
    | succ k1 =>
      have H := HA.out; clear HA; simp only [pleachref25_put.l0] at H; by_cases c5 : x6_1 < (l0.length : Int)
      · rw [if_pos c5] at H; have c5b0 : decide (x6_1 < (l0.length : Int)) = true := decide_eq_true c5; clear c5; by_cases c6 : 0 ≤ x6_1
        · rw [if_pos c6] at H; have c6b0 : decide (0 ≤ x6_1) = true := decide_eq_true c6; clear c6; replace H := Option.bind_eq_some_iff.mp H; obtain ⟨t103, A70, H⟩ := H; replace H : (if x5_1.size + t103.size ≤ 9223372036854775807 then (pleachref25_put.l0 k1 l0 l1 (x5_1 ++ t103) (wrap64 (x6_1 + 1))) else (none)) = some r := H; have A7 := Aside0.mk A70; clear A70; by_cases c8 : x5_1.size + t103.size ≤ 9223372036854775807
          · rw [if_pos c8] at H; have c8b0 := eq_true c8; have c8b1 : decide (x5_1.size + t103.size ≤ 9223372036854775807) = true := decide_eq_true c8; (try have c8b2 : (9223372036854775807 < x5_1.size + t103.size) = False := eq_false (Nat.not_lt.2 c8)); have H' := Aside0.mk H; clear H; have p102 : 0 ≤ (x6_1 : Int) := of_decide_eq_true (zq6); have q102 : x6_1 < (l0.length : Int) := of_decide_eq_true (zq6); obtain ⟨ad102, e102, hx102_0⟩ := Kd.at_string HR0.out x6_1 p102 q102; cases e102; replace hx102_0 := (HB.out.cell (World.block_lt_of_cell? w _ hx102_0)).trans hx102_0; replace p102 := eq_true p102; replace q102 := eq_true q102; go_wp2_with (first | ((with_reducible refine gate_callee (f := 61) rfl ?_); refine goesL_ (some 22) rfl rfl Try.func61 (by kernel_rfl) rfl #[.string (rdOf ByteArray.empty l0 x6_1)] rfl (zq2) ?_; (with_reducible refine (pleachref04_PutText.calls k1 (rdOf ByteArray.empty l0 x6_1) t103 _ A7.out).mono ?_); rintro e w9 ⟨rfl, hb⟩; refine ⟨_, rfl, ?_⟩; have n0_ := zm (below_step (zq0) hb); clear HB; revert n0_; intro HB; (try clear hb); (try clear hb2); (try clear hk); (try clear hi))); (go_roundg k1)
            case measure => have := HK1.out; omega
            case rel => exact ⟨(x5_1 ++ t103), (wrap64 (x6_1 + 1)), (zq11), (zq11), H', ⟨by have := HK1.out; omega⟩, ⟨zq0⟩⟩
          · rw [if_neg c8] at H; exact absurd H (by simp)
        · rw [if_neg c6] at H; exact absurd H (by simp)
      · rw [if_neg c5] at H; have c5b0 : decide (x6_1 < (l0.length : Int)) = false := decide_eq_false c5; clear c5; replace H := Option.bind_eq_some_iff.mp H; obtain ⟨t104, A100, H⟩ := H; replace H : (if x5_1.size + t104.size ≤ 9223372036854775807 then (pleachref25_put.l1 k1 l1 (x5_1 ++ t104) 0) else (none)) = some r := H; have A10 := Aside0.mk A100; clear A100; by_cases c11 : x5_1.size + t104.size ≤ 9223372036854775807
        · rw [if_pos c11] at H; have c11b0 := eq_true c11; have c11b1 : decide (x5_1.size + t104.size ≤ 9223372036854775807) = true := decide_eq_true c11; (try have c11b2 : (9223372036854775807 < x5_1.size + t104.size) = False := eq_false (Nat.not_lt.2 c11)); have H' := Aside0.mk H; clear H; go_wp2_with (first | ((with_reducible refine gate_callee (f := 81) rfl ?_); refine goesL_ (some 27) rfl rfl Try.func81 (by kernel_rfl) rfl #[.int .i64 (l1.length : Int)] rfl (zq2) ?_; (with_reducible refine (pleachref04_PutNum.calls k1 (l1.length : Int) t104 _ A10.out).mono ?_); rintro e w12 ⟨rfl, hb⟩; refine ⟨_, rfl, ?_⟩; have n0_ := zm (below_step (zq0) hb); clear HB; revert n0_; intro HB; (try clear hb); (try clear hb2); (try clear hk); (try clear hi))); (go_loopg [5, 7] k1 (fun kq v5 v7 w' => ∃ (x5_2 : ByteArray) (x7_2 : Int), v5 = .string x5_2 ∧ v7 = .int .i64 x7_2 ∧ Aside0 (pleachref25_put.l1 kq l1 x5_2 x7_2 = some r) ∧ Aside0 (kq ≤ k1) ∧ Aside0 (Below w.heap.size w w')))
          case atStart => exact ⟨(x5_1 ++ t104), (0), (zq11), (zq11), H', ⟨Nat.le_refl _⟩, ⟨zq0⟩⟩
          case round =>
            clear H'; (try clear c1); (try clear p1); (try clear q1); (try clear hx1); (try clear p2); (try clear c5); (try clear c5b0); (try clear c6); (try clear c6b0); (try clear p6); (try clear c8); (try clear c8b0); (try clear c8b1); (try clear c8b2); (try clear p10); (try clear q10); (try clear hx10); (try clear c11); (try clear c11b0); (try clear c11b1); (try clear c11b2); (try clear hx102_0); (try clear p102); (try clear p2); (try clear q102); obtain ⟨x5_2, x7_2, rfl, rfl, HA, HK2, HB⟩ := hrel
            cases gk with
            | zero => exact absurd HA.out (by simp [pleachref25_put.l1])
            | succ k2 =>
              have H := HA.out; clear HA; simp only [pleachref25_put.l1] at H; by_cases c13 : x7_2 < (l1.length : Int)
              · rw [if_pos c13] at H; have c13b0 : decide (x7_2 < (l1.length : Int)) = true := decide_eq_true c13; clear c13; by_cases c14 : 0 ≤ x7_2
                · rw [if_pos c14] at H; have c14b0 : decide (0 ≤ x7_2) = true := decide_eq_true c14; clear c14; replace H := Option.bind_eq_some_iff.mp H; obtain ⟨t106, A150, H⟩ := H; replace H : (if x5_2.size + t106.size ≤ 9223372036854775807 then ((pleachref06_Put.f k2 ((rd_T98 l1 x7_2).f1.f0) ((rd_T98 l1 x7_2).f1.f1) ((rd_T98 l1 x7_2).f1.f2)).bind fun t108 => (if x5_2.size + t106.size + t108.size ≤ 9223372036854775807 then (pleachref25_put.l1 k2 l1 ((x5_2 ++ t106) ++ t108) (wrap64 (x7_2 + 1))) else (none))) else (none)) = some r := H; have A15 := Aside0.mk A150; clear A150; by_cases c16 : x5_2.size + t106.size ≤ 9223372036854775807
                  · rw [if_pos c16] at H; have c16b0 := eq_true c16; have c16b1 : decide (x5_2.size + t106.size ≤ 9223372036854775807) = true := decide_eq_true c16; (try have c16b2 : (9223372036854775807 < x5_2.size + t106.size) = False := eq_false (Nat.not_lt.2 c16)); replace H := Option.bind_eq_some_iff.mp H; obtain ⟨t108, A170, H⟩ := H; replace H : (if x5_2.size + t106.size + t108.size ≤ 9223372036854775807 then (pleachref25_put.l1 k2 l1 ((x5_2 ++ t106) ++ t108) (wrap64 (x7_2 + 1))) else (none)) = some r := H; have A17 := Aside0.mk A170; clear A170; by_cases c18 : x5_2.size + t106.size + t108.size ≤ 9223372036854775807
                    · rw [if_pos c18] at H; have c18b0 := eq_true c18; have c18b1 : decide (x5_2.size + t106.size + t108.size ≤ 9223372036854775807) = true := decide_eq_true c18; (try have c18b2 : (9223372036854775807 < x5_2.size + t106.size + t108.size) = False := eq_false (Nat.not_lt.2 c18)); have H' := Aside0.mk H; clear H; (try go_wp2); have n0_ := zm (below_drew1 HB.out); clear HB; revert n0_; intro HB; have p105 : 0 ≤ (x7_2 : Int) := of_decide_eq_true (zq6); have q105 : x7_2 < (l1.length : Int) := of_decide_eq_true (zq6); obtain ⟨ad105, e105, hx105_0, hx105_1, hx105_2, hx105_3⟩ := at_T98 HR1.out x7_2 p105 q105; have hw105_3 := hx105_3; have hw105_2 := hx105_2; have hw105_1 := hx105_1; have hw105_0 := hx105_0; cases e105; replace hx105_0 := (HB.out.cell (World.block_lt_of_cell? w _ hx105_0)).trans hx105_0; replace hx105_1 := (HB.out.cell (World.block_lt_of_cell? w _ hx105_1)).trans hx105_1; replace hx105_2 := (HB.out.cell (World.block_lt_of_cell? w _ hx105_2)).trans hx105_2; replace hx105_3 := (HB.out.cell (World.block_lt_of_cell? w _ hx105_3)).trans hx105_3; replace p105 := eq_true p105; replace q105 := eq_true q105; have p107 : 0 ≤ (x7_2 : Int) := of_decide_eq_true (zq6); have q107 : x7_2 < (l1.length : Int) := of_decide_eq_true (zq6); obtain ⟨ad107, e107, hx107_0, hx107_1, hx107_2, hx107_3⟩ := at_T98 HR1.out x7_2 p107 q107; have hw107_3 := hx107_3; have hw107_2 := hx107_2; have hw107_1 := hx107_1; have hw107_0 := hx107_0; obtain rfl : ad105 = ad107 := (by injection e107); replace hx107_0 := (HB.out.cell (World.block_lt_of_cell? w _ hx107_0)).trans hx107_0; replace hx107_1 := (HB.out.cell (World.block_lt_of_cell? w _ hx107_1)).trans hx107_1; replace hx107_2 := (HB.out.cell (World.block_lt_of_cell? w _ hx107_2)).trans hx107_2; replace hx107_3 := (HB.out.cell (World.block_lt_of_cell? w _ hx107_3)).trans hx107_3; replace p107 := eq_true p107; replace q107 := eq_true q107; refine start_ (n := 16) (S := fun w' => w'.cell? (ad105.add ((x7_2).toNat * 4)) = some (.string ((rd_T98 l1 x7_2).f0)) ∧ w'.cell? ⟨(ad105.add ((x7_2).toNat * 4)).block, (ad105.add ((x7_2).toNat * 4)).off + 1, none⟩ = some (.int .i64 ((rd_T98 l1 x7_2).f1.f0)) ∧ w'.cell? ⟨(ad105.add ((x7_2).toNat * 4)).block, (ad105.add ((x7_2).toNat * 4)).off + 2, none⟩ = some (.int .i64 ((rd_T98 l1 x7_2).f1.f1)) ∧ w'.cell? ⟨(ad105.add ((x7_2).toNat * 4)).block, (ad105.add ((x7_2).toNat * 4)).off + 3, none⟩ = some (.string ((rd_T98 l1 x7_2).f1.f2)) ∧ w'.cell? (ad105.add ((x7_2).toNat * 4)) = some (.string ((rd_T98 l1 x7_2).f0)) ∧ w'.cell? ⟨(ad105.add ((x7_2).toNat * 4)).block, (ad105.add ((x7_2).toNat * 4)).off + 1, none⟩ = some (.int .i64 ((rd_T98 l1 x7_2).f1.f0)) ∧ w'.cell? ⟨(ad105.add ((x7_2).toNat * 4)).block, (ad105.add ((x7_2).toNat * 4)).off + 2, none⟩ = some (.int .i64 ((rd_T98 l1 x7_2).f1.f1)) ∧ w'.cell? ⟨(ad105.add ((x7_2).toNat * 4)).block, (ad105.add ((x7_2).toNat * 4)).off + 3, none⟩ = some (.string ((rd_T98 l1 x7_2).f1.f2))) (ds := []) #[false, false, false, false, false, false, false, false, false, false, false, false, false, false, false, false] (by kernel_rfl) rfl rfl ⟨((HB.out.cell (World.block_lt_of_cell? w _ hw105_0)).trans hw105_0), ((HB.out.cell (World.block_lt_of_cell? w _ hw105_1)).trans hw105_1), ((HB.out.cell (World.block_lt_of_cell? w _ hw105_2)).trans hw105_2), ((HB.out.cell (World.block_lt_of_cell? w _ hw105_3)).trans hw105_3), ((HB.out.cell (World.block_lt_of_cell? w _ hw107_0)).trans hw107_0), ((HB.out.cell (World.block_lt_of_cell? w _ hw107_1)).trans hw107_1), ((HB.out.cell (World.block_lt_of_cell? w _ hw107_2)).trans hw107_2), ((HB.out.cell (World.block_lt_of_cell? w _ hw107_3)).trans hw107_3)⟩ (fun hHeld => ?_); refine with_tabW pleachref25_put.tab10 pleachref25_put.bits10 (fun HT_ HW_ => ?_); generalize wr.drew = w19 at HB hx105_0 hx105_1 hx105_2 hx105_3 hx107_0 hx107_1 hx107_2 hx107_3 hHeld ⊢; refine pure_ (i := 0) (N := some 35) (v := ?_) (a' := ?_) #[true, false, false, false, false, false, false, false, false, false, false, false, false, false, false, false] rfl rfl (any_of HT_.out (by kernel_rfl)) (fun _ _ _ h => h) (Or.inl ⟨by rfl, ?_⟩) ?_ ?_
                      rotate_left
                      · intro w'; (go_simp); (with_reducible rfl)
                      rotate_left
                      · simp only [Act.put, List.setIfInBounds_toArray, List.set_cons_zero, List.set_cons_succ, i64_w, i32_w]; (rfl)
                      refine pure_ (i := 1) (N := some 36) (v := ?_) (a' := ?_) #[true, true, false, false, false, false, false, false, false, false, false, false, false, false, false, false] rfl rfl (any_of HT_.out (by kernel_rfl)) (fun _ _ _ h => h) (Or.inl ⟨by rfl, ?_⟩) ?_ ?_
                      rotate_left
                      · intro w'; (go_simp); (with_reducible rfl)
                      rotate_left
                      · simp only [Act.put, List.setIfInBounds_toArray, List.set_cons_zero, List.set_cons_succ, i64_w, i32_w]; (rfl)
                      refine pure_ (i := 2) (N := some 37) (v := ?_) (a' := ?_) #[true, true, true, false, false, false, false, false, false, false, false, false, false, false, false, false] rfl rfl (any_of HT_.out (by kernel_rfl)) (fun _ _ _ h => h) (Or.inl ⟨by rfl, ?_⟩) ?_ ?_
                      rotate_left
                      · intro w'; (go_simp); (with_reducible rfl)
                      rotate_left
                      · simp only [Act.put, List.setIfInBounds_toArray, List.set_cons_zero, List.set_cons_succ, i64_w, i32_w]; (rfl)
                      refine pure_ (i := 3) (N := some 38) (v := ?_) (a' := ?_) #[true, true, true, true, false, false, false, false, false, false, false, false, false, false, false, false] rfl rfl (any_of HT_.out (by kernel_rfl)) (fun _ _ _ h => h) (Or.inl ⟨by rfl, ?_⟩) ?_ ?_
                      rotate_left
                      · intro w'; (go_simp); (with_reducible rfl)
                      rotate_left
                      · simp only [Act.put, List.setIfInBounds_toArray, List.set_cons_zero, List.set_cons_succ, i64_w, i32_w]; (rfl)
                      refine pure_ (i := 4) (N := some 39) (v := ?_) (a' := ?_) #[true, true, true, true, true, false, false, false, false, false, false, false, false, false, false, false] rfl rfl (any_of HT_.out (by kernel_rfl)) (fun _ _ _ h => h) (Or.inl ⟨by rfl, ?_⟩) ?_ ?_
                      rotate_left
                      · intro w'; (go_simp); (with_reducible rfl)
                      rotate_left
                      · simp only [Act.put, List.setIfInBounds_toArray, List.set_cons_zero, List.set_cons_succ, i64_w, i32_w]; (rfl)
                      refine pure_ (i := 8) (N := some 43) (v := ?_) (a' := ?_) #[true, true, true, true, true, false, false, false, true, false, false, false, false, false, false, false] rfl rfl (any_of HT_.out (by kernel_rfl)) (fun _ _ _ h => h) (Or.inl ⟨by rfl, ?_⟩) ?_ ?_
                      rotate_left
                      · intro w'; (go_simp); (with_reducible rfl)
                      rotate_left
                      · simp only [Act.put, List.setIfInBounds_toArray, List.set_cons_zero, List.set_cons_succ, i64_w, i32_w]; (rfl)
                      refine pure_ (i := 9) (N := some 44) (v := ?_) (a' := ?_) #[true, true, true, true, true, false, false, false, true, true, false, false, false, false, false, false] rfl rfl (any_of HT_.out (by kernel_rfl)) (fun _ _ _ h => h) (Or.inl ⟨by rfl, ?_⟩) ?_ ?_
                      rotate_left
                      · intro w'; (go_simp); (with_reducible rfl)
                      rotate_left
                      · simp only [Act.put, List.setIfInBounds_toArray, List.set_cons_zero, List.set_cons_succ, i64_w, i32_w]; (rfl)
                      refine pure_ (i := 10) (N := some 45) (v := ?_) (a' := ?_) #[true, true, true, true, true, false, false, false, true, true, true, false, false, false, false, false] rfl rfl (any_of HT_.out (by kernel_rfl)) (fun _ _ _ h => h) (Or.inl ⟨by rfl, ?_⟩) ?_ ?_
                      rotate_left
                      · intro w'; (go_simp); (with_reducible rfl)
                      rotate_left
                      · simp only [Act.put, List.setIfInBounds_toArray, List.set_cons_zero, List.set_cons_succ, i64_w, i32_w]; (rfl)
                      refine pure_ (i := 11) (N := some 46) (v := ?_) (a' := ?_) #[true, true, true, true, true, false, false, false, true, true, true, true, false, false, false, false] rfl rfl (any_of HT_.out (by kernel_rfl)) (fun _ _ _ h => h) (Or.inl ⟨by rfl, ?_⟩) ?_ ?_
                      rotate_left
                      · intro w'; (go_simp); (with_reducible rfl)
                      rotate_left
                      · simp only [Act.put, List.setIfInBounds_toArray, List.set_cons_zero, List.set_cons_succ, i64_w, i32_w]; (rfl)
                      refine take_ (i := 5) (N := some 40) (v := ?_) (a' := ?_) #[true, true, true, true, true, true, false, false, true, true, true, true, false, false, false, false] rfl rfl (take_ofW HT_.out HW_.out (by kernel_rfl)) (fun _ _ _ h => h) (Or.inl ⟨by rfl, ?_⟩) hHeld ?_ ?_
                      rotate_left
                      · rintro w' ⟨s0, s1, s2, s3, s4, s5, s6, s7⟩; (go_simp); (with_reducible rfl)
                      rotate_left
                      · simp only [Act.put, List.setIfInBounds_toArray, List.set_cons_zero, List.set_cons_succ, i64_w, i32_w]; (rfl)
                      refine take_ (i := 12) (N := some 47) (v := ?_) (a' := ?_) #[true, true, true, true, true, true, false, false, true, true, true, true, true, false, false, false] rfl rfl (take_ofW HT_.out HW_.out (by kernel_rfl)) (fun _ _ _ h => h) (Or.inl ⟨by rfl, ?_⟩) hHeld ?_ ?_
                      rotate_left
                      · rintro w' ⟨s0, s1, s2, s3, s4, s5, s6, s7⟩; (go_simp); (with_reducible rfl)
                      rotate_left
                      · simp only [Act.put, List.setIfInBounds_toArray, List.set_cons_zero, List.set_cons_succ, i64_w, i32_w]; (rfl)
                      refine one_ (i := 6) (N := some 41) #[true, true, true, true, true, true, true, false, true, true, true, true, true, false, false, false] rfl rfl (one_of HT_.out (by kernel_rfl)) (by decide) (fun K hK => ?_); refine goes_ Try.func61 (by kernel_rfl) rfl #[.string ((rd_T98 l1 x7_2).f0)] (by rfl) rfl rfl (zq2) ?_; (with_reducible refine (pleachref04_PutText.calls k2 ((rd_T98 l1 x7_2).f0) t106 _ A15.out).mono ?_); rintro e w20 ⟨rfl, hb⟩; refine ⟨_, rfl, ?_⟩; have n0_ := zm (below_step (zq0) hb); clear HB; revert n0_; intro HB; (try clear hb); (try clear hb2); (try clear hk); (try clear hi); refine hK.out _ _ ⟨((HB.out.cell (World.block_lt_of_cell? w _ hw105_0)).trans hw105_0), ((HB.out.cell (World.block_lt_of_cell? w _ hw105_1)).trans hw105_1), ((HB.out.cell (World.block_lt_of_cell? w _ hw105_2)).trans hw105_2), ((HB.out.cell (World.block_lt_of_cell? w _ hw105_3)).trans hw105_3), ((HB.out.cell (World.block_lt_of_cell? w _ hw107_0)).trans hw107_0), ((HB.out.cell (World.block_lt_of_cell? w _ hw107_1)).trans hw107_1), ((HB.out.cell (World.block_lt_of_cell? w _ hw107_2)).trans hw107_2), ((HB.out.cell (World.block_lt_of_cell? w _ hw107_3)).trans hw107_3)⟩ (fun hHeld => ?_); clear hK K; refine norm_ (a' := ?_) ?_ ?_
                      rotate_left
                      · (show Act.put _ (some 41) _ = _); simp only [Act.put, List.setIfInBounds_toArray, List.set_cons_zero, List.set_cons_succ, i64_w, i32_w]; (rfl)
                      refine pure_ (i := 7) (N := some 42) (v := ?_) (a' := ?_) #[true, true, true, true, true, true, true, true, true, true, true, true, true, false, false, false] rfl rfl (any_of HT_.out (by kernel_rfl)) (fun _ _ _ h => h) (Or.inl ⟨by rfl, ?_⟩) ?_ ?_
                      rotate_left
                      · intro w'; (go_simp); (with_reducible rfl)
                      rotate_left
                      · simp only [Act.put, List.setIfInBounds_toArray, List.set_cons_zero, List.set_cons_succ, i64_w, i32_w]; (rfl)
                      refine one_ (i := 13) (N := some 48) #[true, true, true, true, true, true, true, true, true, true, true, true, true, true, false, false] rfl rfl (one_of HT_.out (by kernel_rfl)) (by decide) (fun K hK => ?_); refine goes_ Try.func82 (by kernel_rfl) rfl #[.agg #[.int .i64 ((rd_T98 l1 x7_2).f1.f0), .int .i64 ((rd_T98 l1 x7_2).f1.f1), .string ((rd_T98 l1 x7_2).f1.f2)]] (by rfl) rfl rfl (zq2) ?_; (with_reducible refine (pleachref06_Put.calls k2 ((rd_T98 l1 x7_2).f1.f0) ((rd_T98 l1 x7_2).f1.f1) ((rd_T98 l1 x7_2).f1.f2) t108 _ A17.out).mono ?_); rintro e w21 ⟨rfl, hb⟩; refine ⟨_, rfl, ?_⟩; have n0_ := zm (below_step (zq0) hb); clear HB; revert n0_; intro HB; (try clear hb); (try clear hb2); (try clear hk); (try clear hi); refine hK.out _ _ ⟨((HB.out.cell (World.block_lt_of_cell? w _ hw105_0)).trans hw105_0), ((HB.out.cell (World.block_lt_of_cell? w _ hw105_1)).trans hw105_1), ((HB.out.cell (World.block_lt_of_cell? w _ hw105_2)).trans hw105_2), ((HB.out.cell (World.block_lt_of_cell? w _ hw105_3)).trans hw105_3), ((HB.out.cell (World.block_lt_of_cell? w _ hw107_0)).trans hw107_0), ((HB.out.cell (World.block_lt_of_cell? w _ hw107_1)).trans hw107_1), ((HB.out.cell (World.block_lt_of_cell? w _ hw107_2)).trans hw107_2), ((HB.out.cell (World.block_lt_of_cell? w _ hw107_3)).trans hw107_3)⟩ (fun hHeld => ?_); clear hK K; refine norm_ (a' := ?_) ?_ ?_
                      rotate_left
                      · (show Act.put _ (some 48) _ = _); simp only [Act.put, List.setIfInBounds_toArray, List.set_cons_zero, List.set_cons_succ, i64_w, i32_w]; (rfl)
                      refine pure_ (i := 14) (N := some 49) (v := ?_) (a' := ?_) #[true, true, true, true, true, true, true, true, true, true, true, true, true, true, true, false] rfl rfl (any_of HT_.out (by kernel_rfl)) (fun _ _ _ h => h) (Or.inl ⟨by rfl, ?_⟩) ?_ ?_
                      rotate_left
                      · intro w'; (go_simp); (with_reducible rfl)
                      rotate_left
                      · simp only [Act.put, List.setIfInBounds_toArray, List.set_cons_zero, List.set_cons_succ, i64_w, i32_w]; (rfl)
                      refine pure_ (i := 15) (N := some 5) (v := ?_) (a' := ?_) #[true, true, true, true, true, true, true, true, true, true, true, true, true, true, true, true] rfl rfl (any_of HT_.out (by kernel_rfl)) (fun _ _ _ h => h) (Or.inl ⟨by rfl, ?_⟩) ?_ ?_
                      rotate_left
                      · intro w'; (go_simp); (with_reducible rfl)
                      rotate_left
                      · simp only [Act.put, List.setIfInBounds_toArray, List.set_cons_zero, List.set_cons_succ, i64_w, i32_w]; (rfl)
                      refine done_ (done_of HT_.out (by kernel_rfl)) ?_; (try go_wp2); (go_roundg k2)
                      case measure => have := HK1.out; have := HK2.out; omega
                      case rel => exact ⟨((x5_2 ++ t106) ++ t108), (wrap64 (x7_2 + 1)), (zq11), (zq11), H', ⟨by have := HK1.out; have := HK2.out; omega⟩, ⟨zq0⟩⟩
                    · rw [if_neg c18] at H; exact absurd H (by simp)
                  · rw [if_neg c16] at H; exact absurd H (by simp)
                · rw [if_neg c14] at H; exact absurd H (by simp)
              · rw [if_neg c13] at H; have c13b0 : decide (x7_2 < (l1.length : Int)) = false := decide_eq_false c13; clear c13; obtain rfl := Option.some.inj H; (go_wp2); (go_ret); exact ⟨zq5, zq0⟩
        · rw [if_neg c11] at H; exact absurd H (by simp)

end Go.Proofs.Ytmnadajjgnniaaa.MA
end
section
namespace Go.Proofs.Ytmnadajjgnniaaa.MA
open Go.RowKit Go.Proofs.YtmnadajjgnniaaaW.PrintWords Go.Proofs.YtmnadajjgnniaaaW.PrintLast Go.Proofs.YtmnadajjgnniaaaW.PrintMore
attribute [local go_sem] max2_int min2_int max_two min_two max_three min_three max_four min_four

def pleachref25_PutNode.f (k : Nat) (a0_0 : ByteArray) (l0_1 : List ByteArray) (l0_2 : List (S98)) : Option (ByteArray) := (pleachref25_Node.f k a0_0 l0_1 l0_2).bind fun t102 => (if t102 = 0 then ((pleachref25_put.f k l0_1 l0_2).bind fun t103 => (some t103)) else (some (⟨#[]⟩ : ByteArray)))
theorem pleachref25_PutNode.mono : ∀ a0 a1 a2 k, LeO (pleachref25_PutNode.f k a0 a1 a2) (pleachref25_PutNode.f (k + 1) a0 a1 a2) := by
  intro a0 a1 a2 k; unfold pleachref25_PutNode.f
  repeat' first
      | (with_reducible exact pleachref25_Node.mono _ _ _ _)
      | (with_reducible exact pleachref25_put.mono _ _ _)
      | (with_reducible exact LeO.refl _)
      | (with_reducible exact LeO.none _)
      | (with_reducible refine LeO.ite ?_ ?_)
      | (with_reducible refine LeO.bind ?_ (fun _ => ?_))
      | exact pleachref25_Node.mono _ _ _ _
      | exact pleachref25_put.mono _ _ _
      | exact LeO.none _
      | refine LeO.ite ?_ ?_
      | refine LeO.bind ?_ (fun _ => ?_)
set_option maxHeartbeats 8000000 in
set_option maxRecDepth 100000 in
theorem pleachref25_PutNode.calls (k : Nat) (a0_0 : ByteArray) (A0_1 : Option Addr) (c0_1 : Nat) (l0_1 : List ByteArray) (A0_2 : Option Addr) (c0_2 : Nat) (l0_2 : List (S98)) (r : ByteArray) (w : World) (hr0_1 : Kd.C Kd.string w A0_1 l0_1.length l0_1) (hc0_1 : l0_1.length ≤ c0_1) (hr0_2 : Kd.C k98 w A0_2 l0_2.length l0_2) (hc0_2 : l0_2.length ≤ c0_2) (h : pleachref25_PutNode.f k a0_0 l0_1 l0_2 = some r) :
    Calls Try.prog 13 #[.agg #[.string a0_0, .slice A0_1 l0_1.length c0_1, .slice A0_2 l0_2.length c0_2]] w fun e w' => e = .returned (.string r) ∧ Below w.heap.size w w' := by
  have hu25 := Try.underlying25; have HR0_1 := Aside0.mk hr0_1; have HC0_1 := Aside0.mk hc0_1; clear hr0_1 hc0_1; have HR0_2 := Aside0.mk hr0_2; have HC0_2 := Aside0.mk hc0_2; clear hr0_2 hc0_2; have HB := zm (Below.refl w.heap.size w); have H : ((pleachref25_Node.f k a0_0 l0_1 l0_2).bind fun t102 => (if t102 = 0 then ((pleachref25_put.f k l0_1 l0_2).bind fun t103 => (some t103)) else (some (⟨#[]⟩ : ByteArray)))) = some r := h; clear h; replace H := Option.bind_eq_some_iff.mp H; obtain ⟨t102, A20, H⟩ := H; replace H : (if t102 = 0 then ((pleachref25_put.f k l0_1 l0_2).bind fun t103 => (some t103)) else (some (⟨#[]⟩ : ByteArray))) = some r := H; have A2 := Aside0.mk A20; clear A20; by_cases c3 : t102 = 0
  · rw [if_pos c3] at H; have c3b0 : (t102 == 0) = true := beq_iff_eq.mpr c3; have c3b1 : (t102 != 0) = false := bne_eq_false_iff_eq.mpr c3; clear c3; replace H := Option.bind_eq_some_iff.mp H; obtain ⟨t103, A40, H⟩ := H; replace H : (some t103) = some r := H; have A4 := Aside0.mk A40; clear A40; obtain rfl := Option.some.inj H; go_enter Try.func13, Try.ntmps13; go_wp2_with (first | ((with_reducible refine gate_dst (N := 1) rfl ?_); refine box_event ?hg (N := 1) ?hd (cs := #[.string a0_0, .slice A0_1 l0_1.length c0_1, .slice A0_2 l0_2.length c0_2]) (t := 25) ?hr ?_; (case hd => rfl); (case hg => rfl); (case hr => first | (go_simp; done) | (go_simp; rfl)); intro gb101 hg w5 hbox hb; have n0_ := zm (below_step (zq0) hb); have n1_ := zm (hbox); have n2_ := zm ((by rw [hg]; exact (below_size (zq0)) : w.heap.size ≤ gb101)); have n3_ := zm ((by rw [hg]; exact (below_size (zq0)) : w.heap.size ≤ gb101)); clear HB; revert n0_ n1_ n2_ n3_; intro HB BK101 GW101 GE101; clear hb hbox hg; have hcz6_0 : w5.cell? ⟨gb101, 0, none⟩ = some (.string a0_0) := (blk_cell BK101.out 0).trans rfl; have hcz6_1 : w5.cell? ⟨gb101, 1, none⟩ = some (.slice A0_1 l0_1.length c0_1) := (blk_cell BK101.out 1).trans rfl; have hcz6_2 : w5.cell? ⟨gb101, 2, none⟩ = some (.slice A0_2 l0_2.length c0_2) := (blk_cell BK101.out 2).trans rfl; have hfz6_0 := blk_frozen BK101.out 0; have hfz6_1 := blk_frozen BK101.out 1; have hfz6_2 := blk_frozen BK101.out 2) | ((with_reducible refine gate_callee (f := 14) rfl ?_); refine goesL_ (some 4) rfl rfl Try.func14 (by kernel_rfl) rfl #[.agg #[.string a0_0, .slice A0_1 l0_1.length c0_1, .slice A0_2 l0_2.length c0_2]] rfl (zq2) ?_; (with_reducible refine (pleachref25_Node.calls k a0_0 _ _ l0_1 _ _ l0_2 t102 _ ?side1 ?side2 ?side3 ?side4 A2.out).mono ?_); (case side1 => repeat (first | exact (Kd.C_below HR0_1.out HB.out) | (with_reducible refine Kd.C_alloc ?_ _) | (with_reducible refine Kd.C_drewN ?_ _) | (with_reducible refine Kd.C_drew ?_))); (case side2 => exact HC0_1.out); (case side3 => repeat (first | exact (Kd.C_below HR0_2.out HB.out) | (with_reducible refine Kd.C_alloc ?_ _) | (with_reducible refine Kd.C_drewN ?_ _) | (with_reducible refine Kd.C_drew ?_))); (case side4 => exact HC0_2.out); rintro e w7 ⟨rfl, hb⟩; refine ⟨_, rfl, ?_⟩; have n0_ := zm (blk_below (g := gb101) (o := .cells #[.string a0_0, .slice A0_1 l0_1.length c0_1, .slice A0_2 l0_2.length c0_2] 25 (0, 0)) (zq3) hb); have n1_ := zm (below_step (zq1) hb); clear BK101 HB; revert n0_ n1_; intro BK101 HB; (try clear hb); (try clear hb2); (try clear hk); (try clear hi); have hcz8_0 : w7.cell? ⟨gb101, 0, none⟩ = some (.string a0_0) := (blk_cell BK101.out 0).trans rfl; have hcz8_1 : w7.cell? ⟨gb101, 1, none⟩ = some (.slice A0_1 l0_1.length c0_1) := (blk_cell BK101.out 1).trans rfl; have hcz8_2 : w7.cell? ⟨gb101, 2, none⟩ = some (.slice A0_2 l0_2.length c0_2) := (blk_cell BK101.out 2).trans rfl; have hfz8_0 := blk_frozen BK101.out 0; have hfz8_1 := blk_frozen BK101.out 1; have hfz8_2 := blk_frozen BK101.out 2) | ((with_reducible refine gate_callee (f := 53) rfl ?_); refine goesL_ (some 10) rfl rfl Try.func53 (by kernel_rfl) rfl #[.slice A0_1 l0_1.length c0_1, .slice A0_2 l0_2.length c0_2] rfl (zq2) ?_; (with_reducible refine (pleachref25_put.calls k _ _ l0_1 _ _ l0_2 t103 _ ?side1 ?side2 ?side3 ?side4 A4.out).mono ?_); (case side1 => repeat (first | exact (Kd.C_below HR0_1.out HB.out) | (with_reducible refine Kd.C_alloc ?_ _) | (with_reducible refine Kd.C_drewN ?_ _) | (with_reducible refine Kd.C_drew ?_))); (case side2 => exact HC0_1.out); (case side3 => repeat (first | exact (Kd.C_below HR0_2.out HB.out) | (with_reducible refine Kd.C_alloc ?_ _) | (with_reducible refine Kd.C_drewN ?_ _) | (with_reducible refine Kd.C_drew ?_))); (case side4 => exact HC0_2.out); rintro e w9 ⟨rfl, hb⟩; refine ⟨_, rfl, ?_⟩; have n0_ := zm (blk_below (g := gb101) (o := .cells #[.string a0_0, .slice A0_1 l0_1.length c0_1, .slice A0_2 l0_2.length c0_2] 25 (0, 0)) (zq3) hb); have n1_ := zm (below_step (zq1) hb); clear BK101 HB; revert n0_ n1_; intro BK101 HB; (try clear hb); (try clear hb2); (try clear hk); (try clear hi))); (go_ret); exact ⟨zq5, zq1⟩
  · rw [if_neg c3] at H; have c3b0 : (t102 == 0) = false := beq_eq_false_iff_ne.mpr c3; have c3b1 : (t102 != 0) = true := bne_iff_ne.mpr c3; obtain rfl := Option.some.inj H; go_enter Try.func13, Try.ntmps13; go_wp2_with (first | ((with_reducible refine gate_dst (N := 1) rfl ?_); refine box_event ?hg (N := 1) ?hd (cs := #[.string a0_0, .slice A0_1 l0_1.length c0_1, .slice A0_2 l0_2.length c0_2]) (t := 25) ?hr ?_; (case hd => rfl); (case hg => rfl); (case hr => first | (go_simp; done) | (go_simp; rfl)); intro gb101 hg w10 hbox hb; have n0_ := zm (below_step (zq0) hb); have n1_ := zm (hbox); have n2_ := zm ((by rw [hg]; exact (below_size (zq0)) : w.heap.size ≤ gb101)); have n3_ := zm ((by rw [hg]; exact (below_size (zq0)) : w.heap.size ≤ gb101)); clear HB; revert n0_ n1_ n2_ n3_; intro HB BK101 GW101 GE101; clear hb hbox hg; have hcz11_0 : w10.cell? ⟨gb101, 0, none⟩ = some (.string a0_0) := (blk_cell BK101.out 0).trans rfl; have hcz11_1 : w10.cell? ⟨gb101, 1, none⟩ = some (.slice A0_1 l0_1.length c0_1) := (blk_cell BK101.out 1).trans rfl; have hcz11_2 : w10.cell? ⟨gb101, 2, none⟩ = some (.slice A0_2 l0_2.length c0_2) := (blk_cell BK101.out 2).trans rfl; have hfz11_0 := blk_frozen BK101.out 0; have hfz11_1 := blk_frozen BK101.out 1; have hfz11_2 := blk_frozen BK101.out 2) | ((with_reducible refine gate_callee (f := 14) rfl ?_); refine goesL_ (some 4) rfl rfl Try.func14 (by kernel_rfl) rfl #[.agg #[.string a0_0, .slice A0_1 l0_1.length c0_1, .slice A0_2 l0_2.length c0_2]] rfl (zq2) ?_; (with_reducible refine (pleachref25_Node.calls k a0_0 _ _ l0_1 _ _ l0_2 t102 _ ?side1 ?side2 ?side3 ?side4 A2.out).mono ?_); (case side1 => repeat (first | exact (Kd.C_below HR0_1.out HB.out) | (with_reducible refine Kd.C_alloc ?_ _) | (with_reducible refine Kd.C_drewN ?_ _) | (with_reducible refine Kd.C_drew ?_))); (case side2 => exact HC0_1.out); (case side3 => repeat (first | exact (Kd.C_below HR0_2.out HB.out) | (with_reducible refine Kd.C_alloc ?_ _) | (with_reducible refine Kd.C_drewN ?_ _) | (with_reducible refine Kd.C_drew ?_))); (case side4 => exact HC0_2.out); rintro e w12 ⟨rfl, hb⟩; refine ⟨_, rfl, ?_⟩; have n0_ := zm (blk_below (g := gb101) (o := .cells #[.string a0_0, .slice A0_1 l0_1.length c0_1, .slice A0_2 l0_2.length c0_2] 25 (0, 0)) (zq3) hb); have n1_ := zm (below_step (zq1) hb); clear BK101 HB; revert n0_ n1_; intro BK101 HB; (try clear hb); (try clear hb2); (try clear hk); (try clear hi))); (go_ret); exact ⟨zq5, zq1⟩

end Go.Proofs.Ytmnadajjgnniaaa.MA
end
section
namespace Go.Proofs.Ytmnadajjgnniaaa.MA
open Go.RowKit Go.Proofs.YtmnadajjgnniaaaW.PrintWords Go.Proofs.YtmnadajjgnniaaaW.PrintLast Go.Proofs.YtmnadajjgnniaaaW.PrintMore
attribute [local go_sem] max2_int min2_int max_two min_two max_three min_three max_four min_four

mutual
def pleachref01_Get.j1 : Nat → ByteArray → Int → Option (Int × Int × Bool)
  | 0, _, _ => none
  | k + 1, x0, x5 => if x5 ≥ (x0.size : Int) then (pleachref01_Get.j2 k x0 x5 true) else (pleachref01_Get.j2 k x0 x5 (decide (x5 > 9)))
def pleachref01_Get.j2 : Nat → ByteArray → Int → Bool → Option (Int × Int × Bool)
  | 0, _, _, _ => none
  | k + 1, x0, x5, x27 => if x27 = true then (some (0, 0, false)) else (pleachref01_Get.l1 k x0 x5 0 x5)
def pleachref01_Get.l1 : Nat → ByteArray → Int → Int → Int → Option (Int × Int × Bool)
  | 0, _, _, _, _ => none
  | k + 1, x0, x5, x6, x7 => if x7 ≥ 0 then (if 0 ≤ x7 then (if x7 < (x0.size : Int) then (pleachref01_Get.l1 k x0 x5 (IntKind.u64.wrap ((IntKind.u64.wrap (x6 * 128)) + (Int.tmod (IntKind.u64.wrap (bt x0 x7)) 128))) (wrap64 (x7 - 1))) else (none)) else (none)) else ((pleachref01_Put.f k x6).bind fun t101 => (if 0 ≤ (wrap64 (x5 + 1)) then (if (wrap64 (x5 + 1)) ≤ (x0.size : Int) then (if t101.toList = (x0.extract 0 ((wrap64 (x5 + 1)) : Int).toNat).toList then (some (x6, wrap64 (x5 + 1), true)) else (some (0, 0, false))) else (none)) else (none)))
def pleachref01_Get.l0 : Nat → ByteArray → Int → Option (Int × Int × Bool)
  | 0, _, _ => none
  | k + 1, x0, x5 => if x5 < (x0.size : Int) then (if 0 ≤ x5 then (if (bt x0 x5) ≥ 128 then (pleachref01_Get.l0 k x0 (wrap64 (x5 + 1))) else (pleachref01_Get.j1 k x0 x5)) else (none)) else (pleachref01_Get.j1 k x0 x5)
end
def pleachref01_Get.f (k : Nat) (a0 : ByteArray) : Option (Int × Int × Bool) := pleachref01_Get.l0 k a0 0
theorem pleachref01_Get.mono_l : ∀ k, (∀ y0 y1, LeO (pleachref01_Get.j1 k y0 y1) (pleachref01_Get.j1 (k + 1) y0 y1)) ∧ (∀ y0 y1 y2, LeO (pleachref01_Get.j2 k y0 y1 y2) (pleachref01_Get.j2 (k + 1) y0 y1 y2)) ∧ (∀ y0 y1 y2 y3, LeO (pleachref01_Get.l1 k y0 y1 y2 y3) (pleachref01_Get.l1 (k + 1) y0 y1 y2 y3)) ∧ (∀ y0 y1, LeO (pleachref01_Get.l0 k y0 y1) (pleachref01_Get.l0 (k + 1) y0 y1))
  | 0 => ⟨fun _ _ r h => by simp [pleachref01_Get.j1] at h, fun _ _ _ r h => by simp [pleachref01_Get.j2] at h, fun _ _ _ _ r h => by simp [pleachref01_Get.l1] at h, fun _ _ r h => by simp [pleachref01_Get.l0] at h⟩
  | k + 1 => by
    obtain ⟨ih0, ih1, ih2, ih3⟩ := pleachref01_Get.mono_l k; refine ⟨?_, ?_, ?_, ?_⟩
    · intro y0 y1; unfold pleachref01_Get.j1
      repeat' first
      | (with_reducible exact ih0 _ _)
      | (with_reducible exact ih1 _ _ _)
      | (with_reducible exact ih2 _ _ _ _)
      | (with_reducible exact ih3 _ _)
      | (with_reducible exact pleachref01_Put.mono _ _)
      | (with_reducible exact LeO.refl _)
      | (with_reducible exact LeO.none _)
      | (with_reducible refine LeO.ite ?_ ?_)
      | (with_reducible refine LeO.bind ?_ (fun _ => ?_))
      | exact ih0 _ _
      | exact ih1 _ _ _
      | exact ih2 _ _ _ _
      | exact ih3 _ _
      | exact pleachref01_Put.mono _ _
      | exact LeO.none _
      | refine LeO.ite ?_ ?_
      | refine LeO.bind ?_ (fun _ => ?_)
    · intro y0 y1 y2; unfold pleachref01_Get.j2
      repeat' first
      | (with_reducible exact ih0 _ _)
      | (with_reducible exact ih1 _ _ _)
      | (with_reducible exact ih2 _ _ _ _)
      | (with_reducible exact ih3 _ _)
      | (with_reducible exact pleachref01_Put.mono _ _)
      | (with_reducible exact LeO.refl _)
      | (with_reducible exact LeO.none _)
      | (with_reducible refine LeO.ite ?_ ?_)
      | (with_reducible refine LeO.bind ?_ (fun _ => ?_))
      | exact ih0 _ _
      | exact ih1 _ _ _
      | exact ih2 _ _ _ _
      | exact ih3 _ _
      | exact pleachref01_Put.mono _ _
      | exact LeO.none _
      | refine LeO.ite ?_ ?_
      | refine LeO.bind ?_ (fun _ => ?_)
    · intro y0 y1 y2 y3; unfold pleachref01_Get.l1
      repeat' first
      | (with_reducible exact ih0 _ _)
      | (with_reducible exact ih1 _ _ _)
      | (with_reducible exact ih2 _ _ _ _)
      | (with_reducible exact ih3 _ _)
      | (with_reducible exact pleachref01_Put.mono _ _)
      | (with_reducible exact LeO.refl _)
      | (with_reducible exact LeO.none _)
      | (with_reducible refine LeO.ite ?_ ?_)
      | (with_reducible refine LeO.bind ?_ (fun _ => ?_))
      | exact ih0 _ _
      | exact ih1 _ _ _
      | exact ih2 _ _ _ _
      | exact ih3 _ _
      | exact pleachref01_Put.mono _ _
      | exact LeO.none _
      | refine LeO.ite ?_ ?_
      | refine LeO.bind ?_ (fun _ => ?_)
    · intro y0 y1; unfold pleachref01_Get.l0
      repeat' first
      | (with_reducible exact ih0 _ _)
      | (with_reducible exact ih1 _ _ _)
      | (with_reducible exact ih2 _ _ _ _)
      | (with_reducible exact ih3 _ _)
      | (with_reducible exact pleachref01_Put.mono _ _)
      | (with_reducible exact LeO.refl _)
      | (with_reducible exact LeO.none _)
      | (with_reducible refine LeO.ite ?_ ?_)
      | (with_reducible refine LeO.bind ?_ (fun _ => ?_))
      | exact ih0 _ _
      | exact ih1 _ _ _
      | exact ih2 _ _ _ _
      | exact ih3 _ _
      | exact pleachref01_Put.mono _ _
      | exact LeO.none _
      | refine LeO.ite ?_ ?_
      | refine LeO.bind ?_ (fun _ => ?_)
theorem pleachref01_Get.mono : ∀ a0 k, LeO (pleachref01_Get.f k a0) (pleachref01_Get.f (k + 1) a0) := by
  intro a0 k; obtain ⟨ih0, ih1, ih2, ih3⟩ := pleachref01_Get.mono_l k; unfold pleachref01_Get.f
  repeat' first
      | (with_reducible exact ih0 _ _)
      | (with_reducible exact ih1 _ _ _)
      | (with_reducible exact ih2 _ _ _ _)
      | (with_reducible exact ih3 _ _)
      | (with_reducible exact pleachref01_Put.mono _ _)
      | (with_reducible exact LeO.refl _)
      | (with_reducible exact LeO.none _)
      | (with_reducible refine LeO.ite ?_ ?_)
      | (with_reducible refine LeO.bind ?_ (fun _ => ?_))
      | exact ih0 _ _
      | exact ih1 _ _ _
      | exact ih2 _ _ _ _
      | exact ih3 _ _
      | exact pleachref01_Put.mono _ _
      | exact LeO.none _
      | refine LeO.ite ?_ ?_
      | refine LeO.bind ?_ (fun _ => ?_)
set_option maxHeartbeats 8000000 in
set_option maxRecDepth 100000 in
theorem pleachref01_Get.calls (k : Nat) (a0 : ByteArray) (r1 : Int) (r2 : Int) (r3 : Bool) (w : World) (h : pleachref01_Get.f k a0 = some (r1, r2, r3)) :
    Calls Try.prog 110 #[.string a0] w fun e w' => e = .returned (.tuple #[.int .u64 r1, .int .i64 r2, .bool r3]) ∧ Below w.heap.size w w' := by
  have HB := zm (Below.refl w.heap.size w); have H : (pleachref01_Get.l0 k a0 0) = some (r1, r2, r3) := h; clear h; have HC2 := Aside0.mk H; clear H; go_enter Try.func110, Try.ntmps110; go_upto_block 0 with (fail); (go_cut [5] (fun v5 wc => ∃ (kq : Nat) (x5_1 : Int), v5 = .int .i64 x5_1 ∧ Aside0 (pleachref01_Get.j1 kq a0 x5_1 = some (r1, r2, r3)) ∧ Aside0 (kq ≤ k) ∧ Aside0 (Below w.heap.size w wc)))
  case first =>
    have H := HC2.out; clear HC2; have H' := Aside0.mk H; clear H; (go_wp2); (go_loopg [5] k (fun kq v5 w' => ∃ (x5_1 : Int), v5 = .int .i64 x5_1 ∧ Aside0 (pleachref01_Get.l0 kq a0 x5_1 = some (r1, r2, r3)) ∧ Aside0 (kq ≤ k) ∧ Aside0 (Below w.heap.size w w')))
    case atStart => exact ⟨(0), (zq11), H', ⟨Nat.le_refl _⟩, ⟨zq0⟩⟩
    case round =>
      clear H'; (try clear c1); (try clear p2); obtain ⟨x5_1, rfl, HA, HK1, HB⟩ := hrel
      cases gk with
      | zero => exact absurd HA.out (by simp [pleachref01_Get.l0])
      | succ k1 =>
        have H := HA.out; clear HA; simp only [pleachref01_Get.l0] at H; by_cases c3 : x5_1 < (a0.size : Int)
        · rw [if_pos c3] at H; have c3b0 : decide (x5_1 < (a0.size : Int)) = true := decide_eq_true c3; clear c3; (first | rw [c3b0] | (simp only [i64_w, i32_w]; rw [c3b0]) | skip); by_cases c4 : 0 ≤ x5_1
          · rw [if_pos c4] at H; have c4b0 : decide (0 ≤ x5_1) = true := decide_eq_true c4; clear c4; by_cases c6 : (bt a0 x5_1) ≥ 128
            · rw [if_pos c6] at H; have c6b0 : decide (128 ≤ (bt a0 x5_1)) = true := decide_eq_true c6; clear c6; have H' := Aside0.mk H; clear H; have p5 : 0 ≤ (x5_1 : Int) := of_decide_eq_true (zq6); have q5 : x5_1 < (a0.size : Int) := of_decide_eq_true (zq6); have hx5 := bt_at a0 x5_1; replace p5 := eq_true p5; replace q5 := eq_true q5; (go_wp2); (go_roundg k1)
              case measure => have := HK1.out; omega
              case rel => exact ⟨(wrap64 (x5_1 + 1)), (zq11), H', ⟨by have := HK1.out; omega⟩, ⟨zq0⟩⟩
            · rw [if_neg c6] at H; have c6b0 : decide (128 ≤ (bt a0 x5_1)) = false := decide_eq_false c6; clear c6; have H' := Aside0.mk H; clear H; have p5 : 0 ≤ (x5_1 : Int) := of_decide_eq_true (zq6); have q5 : x5_1 < (a0.size : Int) := of_decide_eq_true (zq6); have hx5 := bt_at a0 x5_1; replace p5 := eq_true p5; replace q5 := eq_true q5; (go_wp2); (go_meet)
              case rel => exact ⟨_, (x5_1), (zq11), H', ⟨zq121⟩, ⟨zq0⟩⟩
          · rw [if_neg c4] at H; exact absurd H (by simp)
        · rw [if_neg c3] at H; have c3b0 : decide (x5_1 < (a0.size : Int)) = false := decide_eq_false c3; clear c3; (first | rw [c3b0] | (simp only [i64_w, i32_w]; rw [c3b0]) | skip); have H' := Aside0.mk H; clear H; (go_wp2); (go_meet)
          case rel => exact ⟨_, (x5_1), (zq11), H', ⟨zq121⟩, ⟨zq0⟩⟩
  case rest =>
    clear HC2; (try clear c1); (try clear p2); (try clear c3); (try clear c3b0); (try clear c4); (try clear c4b0); (try clear p5); (try clear q5); (try clear hx5); (try clear c6); (try clear c6b0); (try clear p6); (try clear p2); (try clear p5); (try clear q5); obtain ⟨kq, x5_1, rfl, HA, HJ1, HB⟩ := hcut
    cases kq with
    | zero => exact absurd HA.out (by simp [pleachref01_Get.j1])
    | succ kj1 =>
      have H := HA.out; clear HA; simp only [pleachref01_Get.j1] at H; have HC7 := Aside0.mk H; clear H; go_upto_region 4 with (fail); (go_cut [27] (fun v27 wc => ∃ (kq : Nat) (x27_6 : Bool), v27 = .bool x27_6 ∧ Aside0 (pleachref01_Get.j2 kq a0 x5_1 x27_6 = some (r1, r2, r3)) ∧ Aside0 (kq ≤ kj1) ∧ Aside0 (Below w.heap.size w wc)))
      case first =>
        have H := HC7.out; clear HC7; by_cases c8 : x5_1 ≥ (a0.size : Int)
        · rw [if_pos c8] at H; have c8b0 : decide ((a0.size : Int) ≤ x5_1) = true := decide_eq_true c8; clear c8; (first | rw [c8b0] | (simp only [i64_w, i32_w]; rw [c8b0]) | skip); have H' := Aside0.mk H; clear H; (go_wp2); (go_meet)
          case rel => exact ⟨_, (true), (zq11), H', ⟨by have := HJ1.out; first | omega | exact Nat.le_refl _⟩, ⟨zq0⟩⟩
        · rw [if_neg c8] at H; have c8b0 : decide ((a0.size : Int) ≤ x5_1) = false := decide_eq_false c8; clear c8; (first | rw [c8b0] | (simp only [i64_w, i32_w]; rw [c8b0]) | skip); have H' := Aside0.mk H; clear H; (go_wp2); (go_meet)
          case rel => exact ⟨_, (decide (x5_1 > 9)), (zq11), H', ⟨by have := HJ1.out; first | omega | exact Nat.le_refl _⟩, ⟨zq0⟩⟩
      case rest =>
        clear HC7; (try clear c1); (try clear p2); (try clear c3); (try clear c3b0); (try clear c4); (try clear c4b0); (try clear p5); (try clear q5); (try clear hx5); (try clear c6); (try clear c6b0); (try clear p6); (try clear c8); (try clear c8b0); (try clear p2); (try clear p5); (try clear p6); (try clear q5); obtain ⟨kq, x27_6, rfl, HA, HJ6, HB⟩ := hcut
        cases kq with
        | zero => exact absurd HA.out (by simp [pleachref01_Get.j2])
        | succ kj6 =>
          have H := HA.out; clear HA; simp only [pleachref01_Get.j2] at H; by_cases c9 : x27_6 = true
          · subst c9; (have H1 : (some (0, 0, false)) = some (r1, r2, r3) := by rw [if_pos rfl] at H; exact H); clear H; have H := H1; clear H1; simp only [Option.some.injEq, Prod.mk.injEq] at H; obtain ⟨rfl, rfl, rfl⟩ := H; (go_wp2); (go_ret3); exact ⟨zq5, zq0⟩
          · replace c9 := Bool.eq_false_iff.mpr c9; subst c9; (have H1 : (pleachref01_Get.l1 kj6 a0 x5_1 0 x5_1) = some (r1, r2, r3) := by rw [if_neg (show ¬ (false = true) by decide)] at H; exact H); clear H; have H := H1; clear H1; have H' := Aside0.mk H; clear H; (go_wp2); (go_loopg [6, 7] kj6 (fun kq v6 v7 w' => ∃ (x6_3 : Int) (x7_3 : Int), v6 = .int .u64 x6_3 ∧ v7 = .int .i64 x7_3 ∧ Aside0 (pleachref01_Get.l1 kq a0 x5_1 x6_3 x7_3 = some (r1, r2, r3)) ∧ Aside0 (kq ≤ kj6) ∧ Aside0 (Below w.heap.size w w')))
            case atStart => exact ⟨(0), (x5_1), (zq11), (zq11), H', ⟨Nat.le_refl _⟩, ⟨zq0⟩⟩
            case round =>
              clear H'; (try clear c1); (try clear p2); (try clear c3); (try clear c3b0); (try clear c4); (try clear c4b0); (try clear p5); (try clear q5); (try clear hx5); (try clear c6); (try clear c6b0); (try clear p6); (try clear c8); (try clear c8b0); (try clear c9); (try clear p2); (try clear p5); (try clear p6); (try clear q5); obtain ⟨x6_3, x7_3, rfl, rfl, HA, HK3, HB⟩ := hrel
              cases gk with
              | zero => exact absurd HA.out (by simp [pleachref01_Get.l1])
              | succ k3 =>
                have H := HA.out; clear HA; simp only [pleachref01_Get.l1] at H; by_cases c10 : x7_3 ≥ 0
                · rw [if_pos c10] at H; have c10b0 : decide (0 ≤ x7_3) = true := decide_eq_true c10; clear c10; by_cases c11 : 0 ≤ x7_3
                  · rw [if_pos c11] at H; have c11b0 : decide (0 ≤ x7_3) = true := decide_eq_true c11; clear c11; by_cases c12 : x7_3 < (a0.size : Int)
                    · rw [if_pos c12] at H; have c12b0 : decide (x7_3 < (a0.size : Int)) = true := decide_eq_true c12; clear c12; have H' := Aside0.mk H; clear H; have p13 : 0 ≤ (x7_3 : Int) := of_decide_eq_true (zq6); have q13 : x7_3 < (a0.size : Int) := of_decide_eq_true (zq6); have hx13 := bt_at a0 x7_3; replace p13 := eq_true p13; replace q13 := eq_true q13; (go_wp2); (go_roundg k3)
                      case measure => have := HJ1.out; have := HJ6.out; have := HK3.out; omega
                      case rel => exact ⟨(IntKind.u64.wrap ((IntKind.u64.wrap (x6_3 * 128)) + (Int.tmod (IntKind.u64.wrap (bt a0 x7_3)) 128))), (wrap64 (x7_3 - 1)), (zq11), (zq11), H', ⟨by have := HJ1.out; have := HJ6.out; have := HK3.out; omega⟩, ⟨zq0⟩⟩
                    · rw [if_neg c12] at H; exact absurd H (by simp)
                  · rw [if_neg c11] at H; exact absurd H (by simp)
                · rw [if_neg c10] at H; have c10b0 : decide (0 ≤ x7_3) = false := decide_eq_false c10; clear c10; replace H := Option.bind_eq_some_iff.mp H; obtain ⟨t101, A140, H⟩ := H; replace H : (if 0 ≤ (wrap64 (x5_1 + 1)) then (if (wrap64 (x5_1 + 1)) ≤ (a0.size : Int) then (if t101.toList = (a0.extract 0 ((wrap64 (x5_1 + 1)) : Int).toNat).toList then (some (x6_3, wrap64 (x5_1 + 1), true)) else (some (0, 0, false))) else (none)) else (none)) = some (r1, r2, r3) := H; have A14 := Aside0.mk A140; clear A140; obtain ⟨ji15, hji15⟩ : ∃ j_ : Int, (wrap64 (x5_1 + 1)) = j_ := ⟨_, rfl⟩; (replace H : (if 0 ≤ (ji15) then (if (ji15) ≤ (a0.size : Int) then (if t101.toList = (a0.extract 0 ((ji15) : Int).toNat).toList then (some (x6_3, ji15, true)) else (some (0, 0, false))) else (none)) else (none)) = some (r1, r2, r3) := by first | (rw [hji15] at H; exact H) | (simp only [hji15] at H ⊢; exact H)); (try rw [hji15] at A14); have hji15w : (IntKind.i64.wrap (x5_1 + 1)) = ji15 := (i64_w _).trans hji15; by_cases c16 : 0 ≤ (ji15)
                  · rw [if_pos c16] at H; have c16b0 := eq_true c16; have c16b1 : decide (0 ≤ (ji15)) = true := decide_eq_true c16; clear c16; by_cases c17 : (ji15) ≤ (a0.size : Int)
                    · rw [if_pos c17] at H; have c17b0 := eq_true c17; have c17b1 : decide ((ji15) ≤ (a0.size : Int)) = true := decide_eq_true c17; clear c17; by_cases c18 : t101.toList = (a0.extract 0 ((ji15) : Int).toNat).toList
                      · rw [if_pos c18] at H; have c18b0 : (t101.toList == (a0.extract 0 ((ji15) : Int).toNat).toList) = true := beq_iff_eq.mpr c18; have c18b1 : (t101.toList != (a0.extract 0 ((ji15) : Int).toNat).toList) = false := bne_eq_false_iff_eq.mpr c18; clear c18; simp only [Option.some.injEq, Prod.mk.injEq] at H; obtain ⟨rfl, rfl, rfl⟩ := H; (try go_wp2); have n0_ := zm (below_drew1 HB.out); clear HB; revert n0_; intro HB; refine start_ (n := 7) (S := fun w' => True) (ds := []) #[false, false, false, false, false, false, false] (by kernel_rfl) rfl rfl trivial (fun hHeld => ?_); generalize wr.drew = w19 at HB hHeld ⊢; refine pure_ (i := 0) (N := some 41) (v := ?_) (a' := ?_) #[true, false, false, false, false, false, false] rfl rfl (by kernel_rfl) (fun _ _ _ h => h) (Or.inl ⟨by rfl, ?_⟩) ?_ ?_
                        rotate_left
                        · intro w'; (go_simp); (with_reducible rfl)
                        rotate_left
                        · simp only [Act.put, List.setIfInBounds_toArray, List.set_cons_zero, List.set_cons_succ, i64_w, i32_w]; (rfl)
                        refine pure_ (i := 2) (N := some 43) (v := ?_) (a' := ?_) #[true, false, true, false, false, false, false] rfl rfl (by kernel_rfl) (fun _ _ _ h => h) (Or.inl ⟨by rfl, ?_⟩) ?_ ?_
                        rotate_left
                        · intro w'; (go_simp); (with_reducible rfl)
                        rotate_left
                        · simp only [Act.put, List.setIfInBounds_toArray, List.set_cons_zero, List.set_cons_succ, i64_w, i32_w]; (rfl)
                        refine pure_ (i := 3) (N := some 44) (v := ?_) (a' := ?_) #[true, false, true, true, false, false, false] rfl rfl (by kernel_rfl) (fun _ _ _ h => h) (Or.inl ⟨by rfl, ?_⟩) ?_ ?_
                        rotate_left
                        · intro w'; (go_simp); (with_reducible rfl)
                        rotate_left
                        · simp only [Act.put, List.setIfInBounds_toArray, List.set_cons_zero, List.set_cons_succ, i64_w, i32_w]; (rfl)
                        refine pure_ (i := 4) (N := some 45) (v := ?_) (a' := ?_) #[true, false, true, true, true, false, false] rfl rfl (by kernel_rfl) (fun _ _ _ h => h) (Or.inl ⟨by rfl, ?_⟩) ?_ ?_
                        rotate_left
                        · intro w'; (go_simp); (with_reducible rfl)
                        rotate_left
                        · simp only [Act.put, List.setIfInBounds_toArray, List.set_cons_zero, List.set_cons_succ, i64_w, i32_w]; (rfl)
                        refine pure_ (i := 5) (N := some 46) (v := ?_) (a' := ?_) #[true, false, true, true, true, true, false] rfl rfl (by kernel_rfl) (fun _ _ _ h => h) (Or.inl ⟨by rfl, ?_⟩) ?_ ?_
                        rotate_left
                        · intro w'; (go_simp); (with_reducible rfl)
                        rotate_left
                        · simp only [Act.put, List.setIfInBounds_toArray, List.set_cons_zero, List.set_cons_succ, i64_w, i32_w]; (rfl)
                        refine one_ (i := 1) (N := some 42) #[true, true, true, true, true, true, false] rfl rfl (by kernel_rfl) (by decide) (fun K hK => ?_); refine goes_ Try.func87 (by kernel_rfl) rfl #[.int .u64 x6_3] (by rfl) rfl rfl (zq2) ?_; (with_reducible refine (pleachref01_Put.calls k3 x6_3 t101 _ A14.out).mono ?_); rintro e w20 ⟨rfl, hb⟩; refine ⟨_, rfl, ?_⟩; have n0_ := zm (below_step (zq0) hb); clear HB; revert n0_; intro HB; (try clear hb); (try clear hb2); (try clear hk); (try clear hi); refine hK.out _ _ trivial (fun hHeld => ?_); clear hK K; refine norm_ (a' := ?_) ?_ ?_
                        rotate_left
                        · (show Act.put _ (some 42) _ = _); simp only [Act.put, List.setIfInBounds_toArray, List.set_cons_zero, List.set_cons_succ, i64_w, i32_w]; (rfl)
                        refine pure_ (i := 6) (N := some 47) (v := ?_) (a' := ?_) #[true, true, true, true, true, true, true] rfl rfl (by kernel_rfl) (fun _ _ _ h => h) (Or.inl ⟨by rfl, ?_⟩) ?_ ?_
                        rotate_left
                        · intro w'; (go_simp); (with_reducible rfl)
                        rotate_left
                        · simp only [Act.put, List.setIfInBounds_toArray, List.set_cons_zero, List.set_cons_succ, i64_w, i32_w]; (rfl)
                        refine done_ (by kernel_rfl) ?_; (try go_wp2); (go_ret3); exact ⟨zq139, zq0⟩
                      · rw [if_neg c18] at H; have c18b0 : (t101.toList == (a0.extract 0 ((ji15) : Int).toNat).toList) = false := beq_eq_false_iff_ne.mpr c18; have c18b1 : (t101.toList != (a0.extract 0 ((ji15) : Int).toNat).toList) = true := bne_iff_ne.mpr c18; simp only [Option.some.injEq, Prod.mk.injEq] at H; obtain ⟨rfl, rfl, rfl⟩ := H; (try go_wp2); have n0_ := zm (below_drew1 HB.out); clear HB; revert n0_; intro HB; refine start_ (n := 7) (S := fun w' => True) (ds := []) #[false, false, false, false, false, false, false] (by kernel_rfl) rfl rfl trivial (fun hHeld => ?_); generalize wr.drew = w21 at HB hHeld ⊢; refine pure_ (i := 0) (N := some 41) (v := ?_) (a' := ?_) #[true, false, false, false, false, false, false] rfl rfl (by kernel_rfl) (fun _ _ _ h => h) (Or.inl ⟨by rfl, ?_⟩) ?_ ?_
                        rotate_left
                        · intro w'; (go_simp); (with_reducible rfl)
                        rotate_left
                        · simp only [Act.put, List.setIfInBounds_toArray, List.set_cons_zero, List.set_cons_succ, i64_w, i32_w]; (rfl)
                        refine pure_ (i := 2) (N := some 43) (v := ?_) (a' := ?_) #[true, false, true, false, false, false, false] rfl rfl (by kernel_rfl) (fun _ _ _ h => h) (Or.inl ⟨by rfl, ?_⟩) ?_ ?_
                        rotate_left
                        · intro w'; (go_simp); (with_reducible rfl)
                        rotate_left
                        · simp only [Act.put, List.setIfInBounds_toArray, List.set_cons_zero, List.set_cons_succ, i64_w, i32_w]; (rfl)
                        refine pure_ (i := 3) (N := some 44) (v := ?_) (a' := ?_) #[true, false, true, true, false, false, false] rfl rfl (by kernel_rfl) (fun _ _ _ h => h) (Or.inl ⟨by rfl, ?_⟩) ?_ ?_
                        rotate_left
                        · intro w'; (go_simp); (with_reducible rfl)
                        rotate_left
                        · simp only [Act.put, List.setIfInBounds_toArray, List.set_cons_zero, List.set_cons_succ, i64_w, i32_w]; (rfl)
                        refine pure_ (i := 4) (N := some 45) (v := ?_) (a' := ?_) #[true, false, true, true, true, false, false] rfl rfl (by kernel_rfl) (fun _ _ _ h => h) (Or.inl ⟨by rfl, ?_⟩) ?_ ?_
                        rotate_left
                        · intro w'; (go_simp); (with_reducible rfl)
                        rotate_left
                        · simp only [Act.put, List.setIfInBounds_toArray, List.set_cons_zero, List.set_cons_succ, i64_w, i32_w]; (rfl)
                        refine pure_ (i := 5) (N := some 46) (v := ?_) (a' := ?_) #[true, false, true, true, true, true, false] rfl rfl (by kernel_rfl) (fun _ _ _ h => h) (Or.inl ⟨by rfl, ?_⟩) ?_ ?_
                        rotate_left
                        · intro w'; (go_simp); (with_reducible rfl)
                        rotate_left
                        · simp only [Act.put, List.setIfInBounds_toArray, List.set_cons_zero, List.set_cons_succ, i64_w, i32_w]; (rfl)
                        refine one_ (i := 1) (N := some 42) #[true, true, true, true, true, true, false] rfl rfl (by kernel_rfl) (by decide) (fun K hK => ?_); refine goes_ Try.func87 (by kernel_rfl) rfl #[.int .u64 x6_3] (by rfl) rfl rfl (zq2) ?_; (with_reducible refine (pleachref01_Put.calls k3 x6_3 t101 _ A14.out).mono ?_); rintro e w22 ⟨rfl, hb⟩; refine ⟨_, rfl, ?_⟩; have n0_ := zm (below_step (zq0) hb); clear HB; revert n0_; intro HB; (try clear hb); (try clear hb2); (try clear hk); (try clear hi); refine hK.out _ _ trivial (fun hHeld => ?_); clear hK K; refine norm_ (a' := ?_) ?_ ?_
                        rotate_left
                        · (show Act.put _ (some 42) _ = _); simp only [Act.put, List.setIfInBounds_toArray, List.set_cons_zero, List.set_cons_succ, i64_w, i32_w]; (rfl)
                        refine pure_ (i := 6) (N := some 47) (v := ?_) (a' := ?_) #[true, true, true, true, true, true, true] rfl rfl (by kernel_rfl) (fun _ _ _ h => h) (Or.inl ⟨by rfl, ?_⟩) ?_ ?_
                        rotate_left
                        · intro w'; (go_simp); (with_reducible rfl)
                        rotate_left
                        · simp only [Act.put, List.setIfInBounds_toArray, List.set_cons_zero, List.set_cons_succ, i64_w, i32_w]; (rfl)
                        refine done_ (by kernel_rfl) ?_; (try go_wp2); (go_ret3); exact ⟨zq139, zq0⟩
                    · rw [if_neg c17] at H; exact absurd H (by simp)
                  · rw [if_neg c16] at H; exact absurd H (by simp)

end Go.Proofs.Ytmnadajjgnniaaa.MA
end
section
namespace Go.Proofs.Ytmnadajjgnniaaa.MA
open Go.RowKit Go.Proofs.YtmnadajjgnniaaaW.PrintWords Go.Proofs.YtmnadajjgnniaaaW.PrintLast Go.Proofs.YtmnadajjgnniaaaW.PrintMore
attribute [local go_sem] max2_int min2_int max_two min_two max_three min_three max_four min_four

set_option maxRecDepth 100000 in
theorem zl57x0 {P : Prop} (h : P := by go_enter Try.func89, Try.ntmps89; go_wp2_with (first | ((with_reducible refine gate_dst (N := 2) rfl ?_); refine box_event ?hg (N := 2) ?hd (cs := #[.string a0_0, .int .i64 a0_1, .int .i64 a0_2]) (t := 110) ?hr ?_; (case hd => rfl); (case hg => rfl); (case hr => first | (go_simp; done) | (go_simp; rfl)); intro gb101 hg w3001 hbox hb; have n0_ := zm (below_step (zq0) hb); have n1_ := zm (hbox); have n2_ := zm ((by rw [hg]; exact (below_size (zq0)) : w.heap.size ≤ gb101)); have n3_ := zm ((by rw [hg]; exact (below_size (zq0)) : w.heap.size ≤ gb101)); clear HB; revert n0_ n1_ n2_ n3_; intro HB BK101 GW101 GE101; clear hb hbox hg) | ((with_reducible refine gate_dst (N := 4) rfl ?_); refine box_event ?hg (N := 4) ?hd (cs := #[.string (⟨#[]⟩ : ByteArray), .int .i64 0, .int .i64 0]) (t := 110) ?hr ?_; (case hd => rfl); (case hg => rfl); (case hr => first | (go_simp; done) | (go_simp; rfl)); intro gb102 hg w3002 hbox hb; have n0_ := zm (blk_below (g := gb101) (o := .cells #[.string a0_0, .int .i64 a0_1, .int .i64 a0_2] 110 (0, 0)) (zq3) hb); have n1_ := zm (below_step (zq1) hb); have n2_ := zm (hbox); have n3_ := zm ((by rw [hg]; exact (below_size (zq1)) : w.heap.size ≤ gb102)); have n4_ := zm ((by rw [hg]; exact (below_size (zq1)) : w.heap.size ≤ gb102)); have n5_ := zm ((by rw [hg]; exact Nat.ne_of_lt (blk_lt (g := gb101) (o := .cells #[.string a0_0, .int .i64 a0_1, .int .i64 a0_2] 110 (0, 0)) (zq3)) : gb101 ≠ gb102)); have n6_ := zm ((by rw [hg]; exact Nat.ne_of_gt (blk_lt (g := gb101) (o := .cells #[.string a0_0, .int .i64 a0_1, .int .i64 a0_2] 110 (0, 0)) (zq3)) : gb102 ≠ gb101)); clear BK101 HB; revert n0_ n1_ n2_ n3_ n4_ n5_ n6_; intro BK101 HB BK102 GW102 GE102 NB101_102 NB102_101; clear hb hbox hg; have hnb3003 := NB101_102.out; have hnc3003 := NB102_101.out; have hcz3004_0 : w3002.cell? ⟨gb101, 0, none⟩ = some (.string a0_0) := (blk_cell BK101.out 0).trans rfl; have hcz3004_1 : w3002.cell? ⟨gb101, 1, none⟩ = some (.int .i64 a0_1) := (blk_cell BK101.out 1).trans rfl; have hcz3004_2 : w3002.cell? ⟨gb101, 2, none⟩ = some (.int .i64 a0_2) := (blk_cell BK101.out 2).trans rfl; have hfz3004_0 := blk_frozen BK101.out 0; have hfz3004_1 := blk_frozen BK101.out 1; have hfz3004_2 := blk_frozen BK101.out 2; have hcz3005_0 : w3002.cell? ⟨gb102, 0, none⟩ = some (.string (⟨#[]⟩ : ByteArray)) := (blk_cell BK102.out 0).trans rfl; have hcz3005_1 : w3002.cell? ⟨gb102, 1, none⟩ = some (.int .i64 0) := (blk_cell BK102.out 1).trans rfl; have hcz3005_2 : w3002.cell? ⟨gb102, 2, none⟩ = some (.int .i64 0) := (blk_cell BK102.out 2).trans rfl; have hfz3005_0 := blk_frozen BK102.out 0; have hfz3005_1 := blk_frozen BK102.out 1; have hfz3005_2 := blk_frozen BK102.out 2) | ((with_reducible refine gate_dst (N := 4) rfl ?_); refine box_event ?hg (N := 4) ?hd (cs := #[.string (⟨#[]⟩ : ByteArray), .int .i64 0, .int .i64 0]) (t := 110) ?hr ?_; (case hd => rfl); (case hg => rfl); (case hr => first | (go_simp; done) | (go_simp; rfl)); intro gb102 hg w3002 hbox hb; have n0_ := zm (blk_below (g := gb101) (o := .cells #[.string a0_0, .int .i64 a0_1, .int .i64 a0_2] 110 (0, 0)) (zq3) hb); have n1_ := zm (below_step (zq1) hb); have n2_ := zm (hbox); have n3_ := zm ((by rw [hg]; exact (below_size (zq1)) : w.heap.size ≤ gb102)); have n4_ := zm ((by rw [hg]; exact (below_size (zq1)) : w.heap.size ≤ gb102)); have n5_ := zm ((by rw [hg]; exact Nat.ne_of_lt (blk_lt (g := gb101) (o := .cells #[.string a0_0, .int .i64 a0_1, .int .i64 a0_2] 110 (0, 0)) (zq3)) : gb101 ≠ gb102)); have n6_ := zm ((by rw [hg]; exact Nat.ne_of_gt (blk_lt (g := gb101) (o := .cells #[.string a0_0, .int .i64 a0_1, .int .i64 a0_2] 110 (0, 0)) (zq3)) : gb102 ≠ gb101)); clear BK101 HB; revert n0_ n1_ n2_ n3_ n4_ n5_ n6_; intro BK101 HB BK102 GW102 GE102 NB101_102 NB102_101; clear hb hbox hg; have hnb3003 := NB101_102.out; have hnc3003 := NB102_101.out; have hcz3004_0 : w3002.cell? ⟨gb101, 0, none⟩ = some (.string a0_0) := (blk_cell BK101.out 0).trans rfl; have hcz3004_1 : w3002.cell? ⟨gb101, 1, none⟩ = some (.int .i64 a0_1) := (blk_cell BK101.out 1).trans rfl; have hcz3004_2 : w3002.cell? ⟨gb101, 2, none⟩ = some (.int .i64 a0_2) := (blk_cell BK101.out 2).trans rfl; have hfz3004_0 := blk_frozen BK101.out 0; have hfz3004_1 := blk_frozen BK101.out 1; have hfz3004_2 := blk_frozen BK101.out 2) | ((with_reducible refine gate_callee (f := 110) rfl ?_); refine goesL_ (some 19) rfl rfl Try.func110 (by kernel_rfl) rfl #[.string (a0_0.extract (a0_1 : Int).toNat a0_0.size)] rfl (zq2) ?_; (with_reducible refine (pleachref01_Get.calls k (a0_0.extract (a0_1 : Int).toNat a0_0.size) t103 t104 false _ A6.out).mono ?_); rintro e w3005 ⟨rfl, hb⟩; refine ⟨_, rfl, ?_⟩; have n0_ := zm (blk_below (g := gb101) (o := .cells #[.string a0_0, .int .i64 a0_1, .int .i64 a0_2] 110 (0, 0)) (zq3) hb); have n1_ := zm (blk_below (g := gb102) (o := .cells #[.string (⟨#[]⟩ : ByteArray), .int .i64 0, .int .i64 0] 110 (0, 0)) (zq13) hb); have n2_ := zm (below_step (zq7) hb); clear BK101 BK102 HB; revert n0_ n1_ n2_; intro BK101 BK102 HB; (try clear hb); (try clear hb2); (try clear hk); (try clear hi); have hcz3006_0 : w3005.cell? ⟨gb101, 0, none⟩ = some (.string a0_0) := (blk_cell BK101.out 0).trans rfl; have hcz3006_1 : w3005.cell? ⟨gb101, 1, none⟩ = some (.int .i64 a0_1) := (blk_cell BK101.out 1).trans rfl; have hcz3006_2 : w3005.cell? ⟨gb101, 2, none⟩ = some (.int .i64 a0_2) := (blk_cell BK101.out 2).trans rfl; have hfz3006_0 := blk_frozen BK101.out 0; have hfz3006_1 := blk_frozen BK101.out 1; have hfz3006_2 := blk_frozen BK101.out 2; have hcz3007_0 : w3005.cell? ⟨gb102, 0, none⟩ = some (.string (⟨#[]⟩ : ByteArray)) := (blk_cell BK102.out 0).trans rfl; have hcz3007_1 : w3005.cell? ⟨gb102, 1, none⟩ = some (.int .i64 0) := (blk_cell BK102.out 1).trans rfl; have hcz3007_2 : w3005.cell? ⟨gb102, 2, none⟩ = some (.int .i64 0) := (blk_cell BK102.out 2).trans rfl; have hfz3007_0 := blk_frozen BK102.out 0; have hfz3007_1 := blk_frozen BK102.out 1; have hfz3007_2 := blk_frozen BK102.out 2) | ((with_reducible refine gate_callee (f := 110) rfl ?_); refine goesL_ (some 19) rfl rfl Try.func110 (by kernel_rfl) rfl #[.string (a0_0.extract (a0_1 : Int).toNat a0_0.size)] rfl (zq2) ?_; (with_reducible refine (pleachref01_Get.calls k (a0_0.extract (a0_1 : Int).toNat a0_0.size) t103 t104 true _ A6.out).mono ?_); rintro e w3005 ⟨rfl, hb⟩; refine ⟨_, rfl, ?_⟩; have n0_ := zm (blk_below (g := gb101) (o := .cells #[.string a0_0, .int .i64 a0_1, .int .i64 a0_2] 110 (0, 0)) (zq3) hb); have n1_ := zm (blk_below (g := gb102) (o := .cells #[.string (⟨#[]⟩ : ByteArray), .int .i64 0, .int .i64 0] 110 (0, 0)) (zq13) hb); have n2_ := zm (below_step (zq7) hb); clear BK101 BK102 HB; revert n0_ n1_ n2_; intro BK101 BK102 HB; (try clear hb); (try clear hb2); (try clear hk); (try clear hi); have hcz3006_0 : w3005.cell? ⟨gb101, 0, none⟩ = some (.string a0_0) := (blk_cell BK101.out 0).trans rfl; have hcz3006_1 : w3005.cell? ⟨gb101, 1, none⟩ = some (.int .i64 a0_1) := (blk_cell BK101.out 1).trans rfl; have hcz3006_2 : w3005.cell? ⟨gb101, 2, none⟩ = some (.int .i64 a0_2) := (blk_cell BK101.out 2).trans rfl; have hfz3006_0 := blk_frozen BK101.out 0; have hfz3006_1 := blk_frozen BK101.out 1; have hfz3006_2 := blk_frozen BK101.out 2; have hcz3007_0 : w3005.cell? ⟨gb102, 0, none⟩ = some (.string (⟨#[]⟩ : ByteArray)) := (blk_cell BK102.out 0).trans rfl; have hcz3007_1 : w3005.cell? ⟨gb102, 1, none⟩ = some (.int .i64 0) := (blk_cell BK102.out 1).trans rfl; have hcz3007_2 : w3005.cell? ⟨gb102, 2, none⟩ = some (.int .i64 0) := (blk_cell BK102.out 2).trans rfl; have hfz3007_0 := blk_frozen BK102.out 0; have hfz3007_1 := blk_frozen BK102.out 1; have hfz3007_2 := blk_frozen BK102.out 2)); (first | (refine bodyPost_ret (results_ct rfl _ _ gb102 110 #[.string a0_0, .int .i64 a0_1, .int .i64 3] (0, 0) _ rfl (zq21) Try.underlying110 rfl (by kernel_rfl)) rfl ?_; exact ⟨zq5, zq7⟩) | (refine bodyPost_ret (results_ct rfl _ _ gb102 110 #[.string a0_0, .int .i64 a0_1, .int .i64 5] (0, 0) _ rfl (zq21) Try.underlying110 rfl (by kernel_rfl)) rfl ?_; exact ⟨zq5, zq7⟩) | (refine bodyPost_ret (results_ct rfl _ _ gb102 110 #[.string a0_0, .int .i64 (wrap64 (a0_1 + t104)), .int .i64 a0_2] (0, 0) _ rfl (by (with_reducible repeat (first | refine blk_drewN ?_ _ | refine blk_drew ?_ | refine blk_alloc ?_ _)); refine blk_put (cs := #[.string a0_0, .int .i64 (wrap64 (a0_1 + t104)), .int .i64 0]) ?_ 2 _ rfl; (with_reducible repeat (first | refine blk_drewN ?_ _ | refine blk_drew ?_ | refine blk_alloc ?_ _)); refine blk_put (cs := #[.string a0_0, .int .i64 0, .int .i64 0]) ?_ 1 _ rfl; (with_reducible repeat (first | refine blk_drewN ?_ _ | refine blk_drew ?_ | refine blk_alloc ?_ _)); refine blk_put (cs := #[.string (⟨#[]⟩ : ByteArray), .int .i64 0, .int .i64 0]) ?_ 0 _ rfl; (with_reducible repeat (first | refine blk_drewN ?_ _ | refine blk_drew ?_ | refine blk_alloc ?_ _)); refine blk_far ?_ NB102_101.out _; (with_reducible repeat (first | refine blk_drewN ?_ _ | refine blk_drew ?_ | refine blk_alloc ?_ _)); exact BK102.out) Try.underlying110 rfl (by kernel_rfl)) rfl ?_; exact ⟨zq5, zq7⟩) | (refine bodyPost_ret (results_ct rfl _ _ gb102 110 #[.string a0_0, .int .i64 a0_1, .int .i64 a0_2] (0, 0) _ rfl (zq46) Try.underlying110 rfl (by kernel_rfl)) rfl ?_; exact ⟨zq5, zq7⟩))) : P := h
def pleachref04_Num.f (k : Nat) (a0_0 : ByteArray) (a0_1 : Int) (a0_2 : Int) (a1 : Int) : Option (ByteArray × Int × Int × Int) := if a0_2 = 0 then (if 0 ≤ a0_1 then (if a0_1 ≤ (a0_0.size : Int) then ((pleachref01_Get.f k (a0_0.extract (a0_1 : Int).toNat a0_0.size)).bind fun bt103 => (if bt103.2.2 = true then (if a1 < 0 then (some (a0_0, a0_1, 5, 0)) else (if bt103.1 > (IntKind.u64.wrap (a1)) then (some (a0_0, a0_1, 5, 0)) else (some (a0_0, wrap64 (a0_1 + bt103.2.1), a0_2, wrap64 (bt103.1))))) else (some (a0_0, a0_1, 3, 0)))) else (none)) else (none)) else (some (a0_0, a0_1, a0_2, 0))
theorem pleachref04_Num.mono : ∀ a0 a1 a2 a3 k, LeO (pleachref04_Num.f k a0 a1 a2 a3) (pleachref04_Num.f (k + 1) a0 a1 a2 a3) := by
  intro a0 a1 a2 a3 k; unfold pleachref04_Num.f
  repeat' first
      | (with_reducible exact pleachref01_Get.mono _ _)
      | (with_reducible exact LeO.refl _)
      | (with_reducible exact LeO.none _)
      | (with_reducible refine LeO.ite ?_ ?_)
      | (with_reducible refine LeO.bind ?_ (fun _ => ?_))
      | exact pleachref01_Get.mono _ _
      | exact LeO.none _
      | refine LeO.ite ?_ ?_
      | refine LeO.bind ?_ (fun _ => ?_)
set_option maxHeartbeats 8000000 in
set_option maxRecDepth 100000 in
theorem pleachref04_Num.calls (k : Nat) (a0_0 : ByteArray) (a0_1 : Int) (a0_2 : Int) (a1 : Int) (r1 : ByteArray) (r2 : Int) (r3 : Int) (r4 : Int) (w : World) (h : pleachref04_Num.f k a0_0 a0_1 a0_2 a1 = some (r1, r2, r3, r4)) :
    Calls Try.prog 89 #[.agg #[.string a0_0, .int .i64 a0_1, .int .i64 a0_2], .int .i64 a1] w fun e w' => e = .returned (.tuple #[.agg #[.string r1, .int .i64 r2, .int .i64 r3], .int .i64 r4]) ∧ Below w.heap.size w w' := by
  have hu110 := Try.underlying110; have HB := zm (Below.refl w.heap.size w); have H : (if a0_2 = 0 then (if 0 ≤ a0_1 then (if a0_1 ≤ (a0_0.size : Int) then ((pleachref01_Get.f k (a0_0.extract (a0_1 : Int).toNat a0_0.size)).bind fun bt103 => (if bt103.2.2 = true then (if a1 < 0 then (some (a0_0, a0_1, 5, 0)) else (if bt103.1 > (IntKind.u64.wrap (a1)) then (some (a0_0, a0_1, 5, 0)) else (some (a0_0, wrap64 (a0_1 + bt103.2.1), a0_2, wrap64 (bt103.1))))) else (some (a0_0, a0_1, 3, 0)))) else (none)) else (none)) else (some (a0_0, a0_1, a0_2, 0))) = some (r1, r2, r3, r4) := h; clear h; by_cases c3 : a0_2 = 0
  · rw [if_pos c3] at H; have c3b0 : (a0_2 == 0) = true := beq_iff_eq.mpr c3; have c3b1 : (a0_2 != 0) = false := bne_eq_false_iff_eq.mpr c3; clear c3; by_cases c4 : 0 ≤ a0_1
    · rw [if_pos c4] at H; have c4b0 := eq_true c4; have c4b1 : decide (0 ≤ a0_1) = true := decide_eq_true c4; clear c4; by_cases c5 : a0_1 ≤ (a0_0.size : Int)
      · rw [if_pos c5] at H; have c5b0 := eq_true c5; have c5b1 : decide (a0_1 ≤ (a0_0.size : Int)) = true := decide_eq_true c5; clear c5; replace H := Option.bind_eq_some_iff.mp H; obtain ⟨⟨t103, t104, t105⟩, A60, H⟩ := H; replace H : (if t105 = true then (if a1 < 0 then (some (a0_0, a0_1, 5, 0)) else (if t103 > (IntKind.u64.wrap (a1)) then (some (a0_0, a0_1, 5, 0)) else (some (a0_0, wrap64 (a0_1 + t104), a0_2, wrap64 (t103))))) else (some (a0_0, a0_1, 3, 0))) = some (r1, r2, r3, r4) := H; have A6 := Aside0.mk A60; clear A60; by_cases c7 : t105 = true
        · subst c7; (have H1 : (if a1 < 0 then (some (a0_0, a0_1, 5, 0)) else (if t103 > (IntKind.u64.wrap (a1)) then (some (a0_0, a0_1, 5, 0)) else (some (a0_0, wrap64 (a0_1 + t104), a0_2, wrap64 (t103))))) = some (r1, r2, r3, r4) := by rw [if_pos rfl] at H; exact H); clear H; have H := H1; clear H1; by_cases c8 : a1 < 0
          · rw [if_pos c8] at H; have c8b0 : decide (a1 < 0) = true := decide_eq_true c8; clear c8; simp only [Option.some.injEq, Prod.mk.injEq] at H; obtain ⟨rfl, rfl, rfl, rfl⟩ := H; exact zl57x0
          · rw [if_neg c8] at H; have c8b0 : decide (a1 < 0) = false := decide_eq_false c8; clear c8; by_cases c16 : t103 > (IntKind.u64.wrap (a1))
            · rw [if_pos c16] at H; have c16b0 : decide ((IntKind.u64.wrap (a1)) < t103) = true := decide_eq_true c16; clear c16; simp only [Option.some.injEq, Prod.mk.injEq] at H; obtain ⟨rfl, rfl, rfl, rfl⟩ := H; exact zl57x0
            · rw [if_neg c16] at H; have c16b0 : decide ((IntKind.u64.wrap (a1)) < t103) = false := decide_eq_false c16; clear c16; simp only [Option.some.injEq, Prod.mk.injEq] at H; obtain ⟨rfl, rfl, rfl, rfl⟩ := H; exact zl57x0
        · replace c7 := Bool.eq_false_iff.mpr c7; subst c7; (have H1 : (some (a0_0, a0_1, 3, 0)) = some (r1, r2, r3, r4) := by rw [if_neg (show ¬ (false = true) by decide)] at H; exact H); clear H; have H := H1; clear H1; simp only [Option.some.injEq, Prod.mk.injEq] at H; obtain ⟨rfl, rfl, rfl, rfl⟩ := H; exact zl57x0
      · rw [if_neg c5] at H; exact absurd H (by simp)
    · rw [if_neg c4] at H; exact absurd H (by simp)
  · rw [if_neg c3] at H; have c3b0 : (a0_2 == 0) = false := beq_eq_false_iff_ne.mpr c3; have c3b1 : (a0_2 != 0) = true := bne_iff_ne.mpr c3; simp only [Option.some.injEq, Prod.mk.injEq] at H; obtain ⟨rfl, rfl, rfl, rfl⟩ := H; exact zl57x0

end Go.Proofs.Ytmnadajjgnniaaa.MA
end
section
namespace Go.Proofs.Ytmnadajjgnniaaa.MA
open Go.RowKit Go.Proofs.YtmnadajjgnniaaaW.PrintWords Go.Proofs.YtmnadajjgnniaaaW.PrintLast Go.Proofs.YtmnadajjgnniaaaW.PrintMore
attribute [local go_sem] max2_int min2_int max_two min_two max_three min_three max_four min_four

set_option maxRecDepth 100000 in
theorem zl58x0 {P : Prop} (h : P := by go_enter Try.func91, Try.ntmps91; go_wp2_with (first | ((with_reducible refine gate_dst (N := 2) rfl ?_); (try (refine gate_guard (by rfl) ?_; dsimp only)); refine box_event ?hg (N := 2) ?hd (cs := #[.string a0_0, .int .i64 a0_1, .int .i64 a0_2]) (t := 110) ?hr ?_; (case hd => rfl); (case hg => rfl); (case hr => first | (go_simp; done) | (go_simp; rfl)); intro gb101 hg w3001 hbox hb; have n0_ := zm (below_step (zq0) hb); have n1_ := zm (hbox); have n2_ := zm ((by rw [hg]; exact (below_size (zq0)) : w.heap.size ≤ gb101)); have n3_ := zm ((by rw [hg]; exact (below_size (zq0)) : w.heap.size ≤ gb101)); clear HB; revert n0_ n1_ n2_ n3_; intro HB BK101 GW101 GE101; clear hb hbox hg) | ((with_reducible refine gate_dst (N := 4) rfl ?_); (try (refine gate_guard (by rfl) ?_; dsimp only)); refine box_event ?hg (N := 4) ?hd (cs := #[.string (⟨#[]⟩ : ByteArray), .int .i64 0, .int .i64 0]) (t := 110) ?hr ?_; (case hd => rfl); (case hg => rfl); (case hr => first | (go_simp; done) | (go_simp; rfl)); intro gb102 hg w3002 hbox hb; have n0_ := zm (blk_below (g := gb101) (o := .cells #[.string a0_0, .int .i64 a0_1, .int .i64 a0_2] 110 (0, 0)) (zq3) hb); have n1_ := zm (below_step (zq1) hb); have n2_ := zm (hbox); have n3_ := zm ((by rw [hg]; exact (below_size (zq1)) : w.heap.size ≤ gb102)); have n4_ := zm ((by rw [hg]; exact (below_size (zq1)) : w.heap.size ≤ gb102)); have n5_ := zm ((by rw [hg]; exact Nat.ne_of_lt (blk_lt (g := gb101) (o := .cells #[.string a0_0, .int .i64 a0_1, .int .i64 a0_2] 110 (0, 0)) (zq3)) : gb101 ≠ gb102)); have n6_ := zm ((by rw [hg]; exact Nat.ne_of_gt (blk_lt (g := gb101) (o := .cells #[.string a0_0, .int .i64 a0_1, .int .i64 a0_2] 110 (0, 0)) (zq3)) : gb102 ≠ gb101)); clear BK101 HB; revert n0_ n1_ n2_ n3_ n4_ n5_ n6_; intro BK101 HB BK102 GW102 GE102 NB101_102 NB102_101; clear hb hbox hg; have hnb3003 := NB101_102.out; have hnc3003 := NB102_101.out; have hcz3004_0 : w3002.cell? ⟨gb101, 0, none⟩ = some (.string a0_0) := (blk_cell BK101.out 0).trans rfl; have hcz3004_1 : w3002.cell? ⟨gb101, 1, none⟩ = some (.int .i64 a0_1) := (blk_cell BK101.out 1).trans rfl; have hcz3004_2 : w3002.cell? ⟨gb101, 2, none⟩ = some (.int .i64 a0_2) := (blk_cell BK101.out 2).trans rfl; have hfz3004_0 := blk_frozen BK101.out 0; have hfz3004_1 := blk_frozen BK101.out 1; have hfz3004_2 := blk_frozen BK101.out 2; have hcz3005_0 : w3002.cell? ⟨gb102, 0, none⟩ = some (.string (⟨#[]⟩ : ByteArray)) := (blk_cell BK102.out 0).trans rfl; have hcz3005_1 : w3002.cell? ⟨gb102, 1, none⟩ = some (.int .i64 0) := (blk_cell BK102.out 1).trans rfl; have hcz3005_2 : w3002.cell? ⟨gb102, 2, none⟩ = some (.int .i64 0) := (blk_cell BK102.out 2).trans rfl; have hfz3005_0 := blk_frozen BK102.out 0; have hfz3005_1 := blk_frozen BK102.out 1; have hfz3005_2 := blk_frozen BK102.out 2)); (first | (refine bodyPost_ret (results_ct rfl _ _ gb102 110 #[.string a0_0, .int .i64 a0_1, .int .i64 3] (0, 0) _ rfl (zq21) Try.underlying110 rfl (by kernel_rfl)) rfl ?_; exact ⟨zq5, zq7⟩) | (refine bodyPost_ret (results_ct rfl _ _ gb102 110 #[.string a0_0, .int .i64 (wrap64 (a0_1 + a1)), .int .i64 a0_2] (0, 0) _ rfl (by (with_reducible repeat (first | refine blk_drewN ?_ _ | refine blk_drew ?_ | refine blk_alloc ?_ _)); refine blk_put (cs := #[.string a0_0, .int .i64 (wrap64 (a0_1 + a1)), .int .i64 0]) ?_ 2 _ rfl; (with_reducible repeat (first | refine blk_drewN ?_ _ | refine blk_drew ?_ | refine blk_alloc ?_ _)); refine blk_put (cs := #[.string a0_0, .int .i64 0, .int .i64 0]) ?_ 1 _ rfl; (with_reducible repeat (first | refine blk_drewN ?_ _ | refine blk_drew ?_ | refine blk_alloc ?_ _)); refine blk_put (cs := #[.string (⟨#[]⟩ : ByteArray), .int .i64 0, .int .i64 0]) ?_ 0 _ rfl; (with_reducible repeat (first | refine blk_drewN ?_ _ | refine blk_drew ?_ | refine blk_alloc ?_ _)); refine blk_far ?_ NB102_101.out _; (with_reducible repeat (first | refine blk_drewN ?_ _ | refine blk_drew ?_ | refine blk_alloc ?_ _)); exact BK102.out) Try.underlying110 rfl (by kernel_rfl)) rfl ?_; exact ⟨zq5, zq7⟩) | (refine bodyPost_ret (results_ct rfl _ _ gb102 110 #[.string a0_0, .int .i64 a0_1, .int .i64 a0_2] (0, 0) _ rfl (zq46) Try.underlying110 rfl (by kernel_rfl)) rfl ?_; exact ⟨zq5, zq7⟩))) : P := h
def pleachref04_fix.f (a0_0 : ByteArray) (a0_1 : Int) (a0_2 : Int) (a1 : Int) : Option (ByteArray × Int × Int × ByteArray) := if a0_2 = 0 then (if a1 < 0 then (some (a0_0, a0_1, 3, (⟨#[]⟩ : ByteArray))) else (if a1 > (wrap64 ((a0_0.size : Int) - a0_1)) then (some (a0_0, a0_1, 3, (⟨#[]⟩ : ByteArray))) else (if 0 ≤ a0_1 then (if a0_1 ≤ (wrap64 (a0_1 + a1)) then (if (wrap64 (a0_1 + a1)) ≤ (a0_0.size : Int) then (some (a0_0, wrap64 (a0_1 + a1), a0_2, a0_0.extract (a0_1 : Int).toNat ((wrap64 (a0_1 + a1)) : Int).toNat)) else (none)) else (none)) else (none)))) else (some (a0_0, a0_1, a0_2, (⟨#[]⟩ : ByteArray)))
set_option maxHeartbeats 8000000 in
set_option maxRecDepth 100000 in
theorem pleachref04_fix.calls (a0_0 : ByteArray) (a0_1 : Int) (a0_2 : Int) (a1 : Int) (r1 : ByteArray) (r2 : Int) (r3 : Int) (r4 : ByteArray) (w : World) (h : pleachref04_fix.f a0_0 a0_1 a0_2 a1 = some (r1, r2, r3, r4)) :
    Calls Try.prog 91 #[.agg #[.string a0_0, .int .i64 a0_1, .int .i64 a0_2], .int .i64 a1] w fun e w' => e = .returned (.tuple #[.agg #[.string r1, .int .i64 r2, .int .i64 r3], .string r4]) ∧ Below w.heap.size w w' := by
  have hu110 := Try.underlying110; have HB := zm (Below.refl w.heap.size w); have H : (if a0_2 = 0 then (if a1 < 0 then (some (a0_0, a0_1, 3, (⟨#[]⟩ : ByteArray))) else (if a1 > (wrap64 ((a0_0.size : Int) - a0_1)) then (some (a0_0, a0_1, 3, (⟨#[]⟩ : ByteArray))) else (if 0 ≤ a0_1 then (if a0_1 ≤ (wrap64 (a0_1 + a1)) then (if (wrap64 (a0_1 + a1)) ≤ (a0_0.size : Int) then (some (a0_0, wrap64 (a0_1 + a1), a0_2, a0_0.extract (a0_1 : Int).toNat ((wrap64 (a0_1 + a1)) : Int).toNat)) else (none)) else (none)) else (none)))) else (some (a0_0, a0_1, a0_2, (⟨#[]⟩ : ByteArray)))) = some (r1, r2, r3, r4) := h; clear h; by_cases c3 : a0_2 = 0
  · rw [if_pos c3] at H; have c3b0 : (a0_2 == 0) = true := beq_iff_eq.mpr c3; have c3b1 : (a0_2 != 0) = false := bne_eq_false_iff_eq.mpr c3; clear c3; by_cases c4 : a1 < 0
    · rw [if_pos c4] at H; have c4b0 : decide (a1 < 0) = true := decide_eq_true c4; clear c4; simp only [Option.some.injEq, Prod.mk.injEq] at H; obtain ⟨rfl, rfl, rfl, rfl⟩ := H; exact zl58x0
    · rw [if_neg c4] at H; have c4b0 : decide (a1 < 0) = false := decide_eq_false c4; clear c4; by_cases c10 : a1 > (wrap64 ((a0_0.size : Int) - a0_1))
      · rw [if_pos c10] at H; have c10b0 : decide ((wrap64 ((a0_0.size : Int) - a0_1)) < a1) = true := decide_eq_true c10; clear c10; simp only [Option.some.injEq, Prod.mk.injEq] at H; obtain ⟨rfl, rfl, rfl, rfl⟩ := H; exact zl58x0
      · rw [if_neg c10] at H; have c10b0 : decide ((wrap64 ((a0_0.size : Int) - a0_1)) < a1) = false := decide_eq_false c10; clear c10; by_cases c16 : 0 ≤ a0_1
        · rw [if_pos c16] at H; have c16b0 := eq_true c16; have c16b1 : decide (0 ≤ a0_1) = true := decide_eq_true c16; clear c16; by_cases c17 : a0_1 ≤ (wrap64 (a0_1 + a1))
          · rw [if_pos c17] at H; have c17b0 := eq_true c17; have c17b1 : decide (a0_1 ≤ (wrap64 (a0_1 + a1))) = true := decide_eq_true c17; by_cases c18 : (wrap64 (a0_1 + a1)) ≤ (a0_0.size : Int)
            · rw [if_pos c18] at H; have c18b0 := eq_true c18; have c18b1 : decide ((wrap64 (a0_1 + a1)) ≤ (a0_0.size : Int)) = true := decide_eq_true c18; simp only [Option.some.injEq, Prod.mk.injEq] at H; obtain ⟨rfl, rfl, rfl, rfl⟩ := H; exact zl58x0
            · rw [if_neg c18] at H; exact absurd H (by simp)
          · rw [if_neg c17] at H; exact absurd H (by simp)
        · rw [if_neg c16] at H; exact absurd H (by simp)
  · rw [if_neg c3] at H; have c3b0 : (a0_2 == 0) = false := beq_eq_false_iff_ne.mpr c3; have c3b1 : (a0_2 != 0) = true := bne_iff_ne.mpr c3; simp only [Option.some.injEq, Prod.mk.injEq] at H; obtain ⟨rfl, rfl, rfl, rfl⟩ := H; exact zl58x0

end Go.Proofs.Ytmnadajjgnniaaa.MA
end
section
namespace Go.Proofs.Ytmnadajjgnniaaa.MA
open Go.RowKit Go.Proofs.YtmnadajjgnniaaaW.PrintWords Go.Proofs.YtmnadajjgnniaaaW.PrintLast Go.Proofs.YtmnadajjgnniaaaW.PrintMore
attribute [local go_sem] max2_int min2_int max_two min_two max_three min_three max_four min_four

set_option maxRecDepth 100000 in
theorem zl59x0 {P : Prop} (h : P := by go_enter Try.func64, Try.ntmps64; go_wp2_with (first | ((with_reducible refine gate_dst (N := 2) rfl ?_); refine box_event ?hg (N := 2) ?hd (cs := #[.string a0_0, .int .i64 a0_1, .int .i64 a0_2]) (t := 110) ?hr ?_; (case hd => rfl); (case hg => rfl); (case hr => first | (go_simp; done) | (go_simp; rfl)); intro gb101 hg w3001 hbox hb; have n0_ := zm (below_step (zq0) hb); have n1_ := zm (hbox); have n2_ := zm ((by rw [hg]; exact (below_size (zq0)) : w.heap.size ≤ gb101)); have n3_ := zm ((by rw [hg]; exact (below_size (zq0)) : w.heap.size ≤ gb101)); clear HB; revert n0_ n1_ n2_ n3_; intro HB BK101 GW101 GE101; clear hb hbox hg) | ((with_reducible refine gate_dst (N := 4) rfl ?_); refine box_event ?hg (N := 4) ?hd (cs := #[.string (⟨#[]⟩ : ByteArray), .int .i64 0, .int .i64 0]) (t := 110) ?hr ?_; (case hd => rfl); (case hg => rfl); (case hr => first | (go_simp; done) | (go_simp; rfl)); intro gb102 hg w3002 hbox hb; have n0_ := zm (blk_below (g := gb101) (o := .cells #[.string a0_0, .int .i64 a0_1, .int .i64 a0_2] 110 (0, 0)) (zq3) hb); have n1_ := zm (below_step (zq1) hb); have n2_ := zm (hbox); have n3_ := zm ((by rw [hg]; exact (below_size (zq1)) : w.heap.size ≤ gb102)); have n4_ := zm ((by rw [hg]; exact (below_size (zq1)) : w.heap.size ≤ gb102)); have n5_ := zm ((by rw [hg]; exact Nat.ne_of_lt (blk_lt (g := gb101) (o := .cells #[.string a0_0, .int .i64 a0_1, .int .i64 a0_2] 110 (0, 0)) (zq3)) : gb101 ≠ gb102)); have n6_ := zm ((by rw [hg]; exact Nat.ne_of_gt (blk_lt (g := gb101) (o := .cells #[.string a0_0, .int .i64 a0_1, .int .i64 a0_2] 110 (0, 0)) (zq3)) : gb102 ≠ gb101)); clear BK101 HB; revert n0_ n1_ n2_ n3_ n4_ n5_ n6_; intro BK101 HB BK102 GW102 GE102 NB101_102 NB102_101; clear hb hbox hg; have hnb3003 := NB101_102.out; have hnc3003 := NB102_101.out; have hcz3004_0 : w3002.cell? ⟨gb101, 0, none⟩ = some (.string a0_0) := (blk_cell BK101.out 0).trans rfl; have hcz3004_1 : w3002.cell? ⟨gb101, 1, none⟩ = some (.int .i64 a0_1) := (blk_cell BK101.out 1).trans rfl; have hcz3004_2 : w3002.cell? ⟨gb101, 2, none⟩ = some (.int .i64 a0_2) := (blk_cell BK101.out 2).trans rfl; have hfz3004_0 := blk_frozen BK101.out 0; have hfz3004_1 := blk_frozen BK101.out 1; have hfz3004_2 := blk_frozen BK101.out 2) | ((with_reducible refine gate_callee (f := 89) rfl ?_); refine goesL_ (some 10) rfl rfl Try.func89 (by kernel_rfl) rfl #[.agg #[.string a0_0, .int .i64 a0_1, .int .i64 a0_2], .int .i64 a1] rfl (zq2) ?_; (with_reducible refine (pleachref04_Num.calls k a0_0 a0_1 a0_2 a1 t103 t104 t105 t106 _ A3.out).mono ?_); rintro e w3005 ⟨rfl, hb⟩; refine ⟨_, rfl, ?_⟩; have n0_ := zm (blk_below (g := gb101) (o := .cells #[.string a0_0, .int .i64 a0_1, .int .i64 a0_2] 110 (0, 0)) (zq3) hb); have n1_ := zm (blk_below (g := gb102) (o := .cells #[.string (⟨#[]⟩ : ByteArray), .int .i64 0, .int .i64 0] 110 (0, 0)) (zq13) hb); have n2_ := zm (below_step (zq7) hb); clear BK101 BK102 HB; revert n0_ n1_ n2_; intro BK101 BK102 HB; (try clear hb); (try clear hb2); (try clear hk); (try clear hi); have hcz3006_0 : w3005.cell? ⟨gb101, 0, none⟩ = some (.string a0_0) := (blk_cell BK101.out 0).trans rfl; have hcz3006_1 : w3005.cell? ⟨gb101, 1, none⟩ = some (.int .i64 a0_1) := (blk_cell BK101.out 1).trans rfl; have hcz3006_2 : w3005.cell? ⟨gb101, 2, none⟩ = some (.int .i64 a0_2) := (blk_cell BK101.out 2).trans rfl; have hfz3006_0 := blk_frozen BK101.out 0; have hfz3006_1 := blk_frozen BK101.out 1; have hfz3006_2 := blk_frozen BK101.out 2; have hcz3007_0 : w3005.cell? ⟨gb102, 0, none⟩ = some (.string (⟨#[]⟩ : ByteArray)) := (blk_cell BK102.out 0).trans rfl; have hcz3007_1 : w3005.cell? ⟨gb102, 1, none⟩ = some (.int .i64 0) := (blk_cell BK102.out 1).trans rfl; have hcz3007_2 : w3005.cell? ⟨gb102, 2, none⟩ = some (.int .i64 0) := (blk_cell BK102.out 2).trans rfl; have hfz3007_0 := blk_frozen BK102.out 0; have hfz3007_1 := blk_frozen BK102.out 1; have hfz3007_2 := blk_frozen BK102.out 2) | ((with_reducible refine gate_callee (f := 89) rfl ?_); refine goesL_ (some 10) rfl rfl Try.func89 (by kernel_rfl) rfl #[.agg #[.string a0_0, .int .i64 a0_1, .int .i64 a0_2], .int .i64 a1] rfl (zq2) ?_; (with_reducible refine (pleachref04_Num.calls k a0_0 a0_1 a0_2 a1 t103 t104 t105 t106 _ A3.out).mono ?_); rintro e w3005 ⟨rfl, hb⟩; refine ⟨_, rfl, ?_⟩; have n0_ := zm (blk_below (g := gb101) (o := .cells #[.string a0_0, .int .i64 a0_1, .int .i64 a0_2] 110 (0, 0)) (zq3) hb); have n1_ := zm (blk_below (g := gb102) (o := .cells #[.string (⟨#[]⟩ : ByteArray), .int .i64 0, .int .i64 0] 110 (0, 0)) (zq13) hb); have n2_ := zm (below_step (zq7) hb); clear BK101 BK102 HB; revert n0_ n1_ n2_; intro BK101 BK102 HB; (try clear hb); (try clear hb2); (try clear hk); (try clear hi); have hcz3006_0 : w3005.cell? ⟨gb101, 0, none⟩ = some (.string a0_0) := (blk_cell BK101.out 0).trans rfl; have hcz3006_1 : w3005.cell? ⟨gb101, 1, none⟩ = some (.int .i64 a0_1) := (blk_cell BK101.out 1).trans rfl; have hcz3006_2 : w3005.cell? ⟨gb101, 2, none⟩ = some (.int .i64 a0_2) := (blk_cell BK101.out 2).trans rfl; have hfz3006_0 := blk_frozen BK101.out 0; have hfz3006_1 := blk_frozen BK101.out 1; have hfz3006_2 := blk_frozen BK101.out 2) | ((with_reducible refine gate_callee (f := 91) rfl ?_); refine goesL_ (some 19) rfl rfl Try.func91 (by kernel_rfl) rfl #[.agg #[.string t103, .int .i64 t104, .int .i64 t105], .int .i64 t106] rfl (zq2) ?_; (with_reducible refine (pleachref04_fix.calls t103 t104 t105 t106 t107 t108 t109 t110 _ A5.out).mono ?_); rintro e w3007 ⟨rfl, hb⟩; refine ⟨_, rfl, ?_⟩; have n0_ := zm (blk_below (g := gb101) (o := .cells #[.string t103, .int .i64 t104, .int .i64 t105] 110 (0, 0)) (zq45) hb); have n1_ := zm (blk_below (g := gb102) (o := .cells #[.string (⟨#[]⟩ : ByteArray), .int .i64 0, .int .i64 0] 110 (0, 0)) (zq19) hb); have n2_ := zm (below_step (zq7) hb); clear BK101 BK102 HB; revert n0_ n1_ n2_; intro BK101 BK102 HB; (try clear hb); (try clear hb2); (try clear hk); (try clear hi); have hcz3008_0 : w3007.cell? ⟨gb102, 0, none⟩ = some (.string (⟨#[]⟩ : ByteArray)) := (blk_cell BK102.out 0).trans rfl; have hcz3008_1 : w3007.cell? ⟨gb102, 1, none⟩ = some (.int .i64 0) := (blk_cell BK102.out 1).trans rfl; have hcz3008_2 : w3007.cell? ⟨gb102, 2, none⟩ = some (.int .i64 0) := (blk_cell BK102.out 2).trans rfl; have hfz3008_0 := blk_frozen BK102.out 0; have hfz3008_1 := blk_frozen BK102.out 1; have hfz3008_2 := blk_frozen BK102.out 2)); (first | (refine bodyPost_ret (results_ct rfl _ _ gb102 110 #[.string t107, .int .i64 t108, .int .i64 t109] (0, 0) _ rfl (by (with_reducible repeat (first | refine blk_drewN ?_ _ | refine blk_drew ?_ | refine blk_alloc ?_ _)); refine blk_put (cs := #[.string t107, .int .i64 t108, .int .i64 0]) ?_ 2 _ rfl; (with_reducible repeat (first | refine blk_drewN ?_ _ | refine blk_drew ?_ | refine blk_alloc ?_ _)); refine blk_put (cs := #[.string t107, .int .i64 0, .int .i64 0]) ?_ 1 _ rfl; (with_reducible repeat (first | refine blk_drewN ?_ _ | refine blk_drew ?_ | refine blk_alloc ?_ _)); refine blk_put (cs := #[.string (⟨#[]⟩ : ByteArray), .int .i64 0, .int .i64 0]) ?_ 0 _ rfl; (with_reducible repeat (first | refine blk_drewN ?_ _ | refine blk_drew ?_ | refine blk_alloc ?_ _)); exact BK102.out) Try.underlying110 rfl (by kernel_rfl)) rfl ?_; exact ⟨zq5, zq7⟩) | (refine bodyPost_ret (results_ct rfl _ _ gb102 110 #[.string t103, .int .i64 t104, .int .i64 t105] (0, 0) _ rfl (zq62) Try.underlying110 rfl (by kernel_rfl)) rfl ?_; exact ⟨zq5, zq7⟩))) : P := h
def pleachref04_Text.f (k : Nat) (a0_0 : ByteArray) (a0_1 : Int) (a0_2 : Int) (a1 : Int) : Option (ByteArray × Int × Int × ByteArray) := (pleachref04_Num.f k a0_0 a0_1 a0_2 a1).bind fun bt103 => (if bt103.2.2.1 = 0 then ((pleachref04_fix.f bt103.1 bt103.2.1 bt103.2.2.1 bt103.2.2.2).bind fun bt107 => (some (bt107.1, bt107.2.1, bt107.2.2.1, bt107.2.2.2))) else (some (bt103.1, bt103.2.1, bt103.2.2.1, (⟨#[]⟩ : ByteArray))))
theorem pleachref04_Text.mono : ∀ a0 a1 a2 a3 k, LeO (pleachref04_Text.f k a0 a1 a2 a3) (pleachref04_Text.f (k + 1) a0 a1 a2 a3) := by
  intro a0 a1 a2 a3 k; unfold pleachref04_Text.f
  repeat' first
      | (with_reducible exact pleachref04_Num.mono _ _ _ _ _)
      | (with_reducible exact LeO.refl _)
      | (with_reducible exact LeO.none _)
      | (with_reducible refine LeO.ite ?_ ?_)
      | (with_reducible refine LeO.bind ?_ (fun _ => ?_))
      | exact pleachref04_Num.mono _ _ _ _ _
      | exact LeO.none _
      | refine LeO.ite ?_ ?_
      | refine LeO.bind ?_ (fun _ => ?_)
set_option maxHeartbeats 8000000 in
set_option maxRecDepth 100000 in
theorem pleachref04_Text.calls (k : Nat) (a0_0 : ByteArray) (a0_1 : Int) (a0_2 : Int) (a1 : Int) (r1 : ByteArray) (r2 : Int) (r3 : Int) (r4 : ByteArray) (w : World) (h : pleachref04_Text.f k a0_0 a0_1 a0_2 a1 = some (r1, r2, r3, r4)) :
    Calls Try.prog 64 #[.agg #[.string a0_0, .int .i64 a0_1, .int .i64 a0_2], .int .i64 a1] w fun e w' => e = .returned (.tuple #[.agg #[.string r1, .int .i64 r2, .int .i64 r3], .string r4]) ∧ Below w.heap.size w w' := by
  have hu110 := Try.underlying110; have HB := zm (Below.refl w.heap.size w); have H : ((pleachref04_Num.f k a0_0 a0_1 a0_2 a1).bind fun bt103 => (if bt103.2.2.1 = 0 then ((pleachref04_fix.f bt103.1 bt103.2.1 bt103.2.2.1 bt103.2.2.2).bind fun bt107 => (some (bt107.1, bt107.2.1, bt107.2.2.1, bt107.2.2.2))) else (some (bt103.1, bt103.2.1, bt103.2.2.1, (⟨#[]⟩ : ByteArray))))) = some (r1, r2, r3, r4) := h; clear h; replace H := Option.bind_eq_some_iff.mp H; obtain ⟨⟨t103, t104, t105, t106⟩, A30, H⟩ := H; replace H : (if t105 = 0 then ((pleachref04_fix.f t103 t104 t105 t106).bind fun bt107 => (some (bt107.1, bt107.2.1, bt107.2.2.1, bt107.2.2.2))) else (some (t103, t104, t105, (⟨#[]⟩ : ByteArray)))) = some (r1, r2, r3, r4) := H; have A3 := Aside0.mk A30; clear A30; by_cases c4 : t105 = 0
  · rw [if_pos c4] at H; have c4b0 : (t105 == 0) = true := beq_iff_eq.mpr c4; have c4b1 : (t105 != 0) = false := bne_eq_false_iff_eq.mpr c4; clear c4; replace H := Option.bind_eq_some_iff.mp H; obtain ⟨⟨t107, t108, t109, t110⟩, A50, H⟩ := H; replace H : (some (t107, t108, t109, t110)) = some (r1, r2, r3, r4) := H; have A5 := Aside0.mk A50; clear A50; simp only [Option.some.injEq, Prod.mk.injEq] at H; obtain ⟨rfl, rfl, rfl, rfl⟩ := H; exact zl59x0
  · rw [if_neg c4] at H; have c4b0 : (t105 == 0) = false := beq_eq_false_iff_ne.mpr c4; have c4b1 : (t105 != 0) = true := bne_iff_ne.mpr c4; simp only [Option.some.injEq, Prod.mk.injEq] at H; obtain ⟨rfl, rfl, rfl, rfl⟩ := H; exact zl59x0

end Go.Proofs.Ytmnadajjgnniaaa.MA
end
section
namespace Go.Proofs.Ytmnadajjgnniaaa.MA
open Go.RowKit Go.Proofs.YtmnadajjgnniaaaW.PrintWords Go.Proofs.YtmnadajjgnniaaaW.PrintLast Go.Proofs.YtmnadajjgnniaaaW.PrintMore
attribute [local go_sem] max2_int min2_int max_two min_two max_three min_three max_four min_four

def pleachref04_Byte.f (a0_0 : ByteArray) (a0_1 : Int) (a0_2 : Int) : Option (ByteArray × Int × Int × Int) := (pleachref04_fix.f a0_0 a0_1 a0_2 1).bind fun bt103 => (if bt103.2.2.1 = 0 then (if 0 < (bt103.2.2.2.size : Int) then (some (bt103.1, bt103.2.1, bt103.2.2.1, wrap64 (bt bt103.2.2.2 0))) else (none)) else (some (bt103.1, bt103.2.1, bt103.2.2.1, 0)))
set_option maxHeartbeats 8000000 in
set_option maxRecDepth 100000 in
theorem pleachref04_Byte.calls (a0_0 : ByteArray) (a0_1 : Int) (a0_2 : Int) (r1 : ByteArray) (r2 : Int) (r3 : Int) (r4 : Int) (w : World) (h : pleachref04_Byte.f a0_0 a0_1 a0_2 = some (r1, r2, r3, r4)) :
    Calls Try.prog 111 #[.agg #[.string a0_0, .int .i64 a0_1, .int .i64 a0_2]] w fun e w' => e = .returned (.tuple #[.agg #[.string r1, .int .i64 r2, .int .i64 r3], .int .i64 r4]) ∧ Below w.heap.size w w' := by
  have hu110 := Try.underlying110; have HB := zm (Below.refl w.heap.size w); have H : ((pleachref04_fix.f a0_0 a0_1 a0_2 1).bind fun bt103 => (if bt103.2.2.1 = 0 then (if 0 < (bt103.2.2.2.size : Int) then (some (bt103.1, bt103.2.1, bt103.2.2.1, wrap64 (bt bt103.2.2.2 0))) else (none)) else (some (bt103.1, bt103.2.1, bt103.2.2.1, 0)))) = some (r1, r2, r3, r4) := h; clear h; replace H := Option.bind_eq_some_iff.mp H; obtain ⟨⟨t103, t104, t105, t106⟩, A20, H⟩ := H; replace H : (if t105 = 0 then (if 0 < (t106.size : Int) then (some (t103, t104, t105, wrap64 (bt t106 0))) else (none)) else (some (t103, t104, t105, 0))) = some (r1, r2, r3, r4) := H; have A2 := Aside0.mk A20; clear A20; by_cases c3 : t105 = 0
  · rw [if_pos c3] at H; have c3b0 : (t105 == 0) = true := beq_iff_eq.mpr c3; have c3b1 : (t105 != 0) = false := bne_eq_false_iff_eq.mpr c3; clear c3; by_cases c4 : 0 < (t106.size : Int)
    · rw [if_pos c4] at H; have c4b0 : decide (0 < (t106.size : Int)) = true := decide_eq_true c4; have c4b1 : decide (0 < t106.size) = true := decide_eq_true (by omega); clear c4; simp only [Option.some.injEq, Prod.mk.injEq] at H; obtain ⟨rfl, rfl, rfl, rfl⟩ := H; go_enter Try.func111, Try.ntmps111; (try go_wp2_with (first | ((with_reducible refine gate_dst (N := 1) rfl ?_); refine box_event ?hg (N := 1) ?hd (cs := #[.string a0_0, .int .i64 a0_1, .int .i64 a0_2]) (t := 110) ?hr ?_; (case hd => rfl); (case hg => rfl); (case hr => first | (go_simp; done) | (go_simp; rfl)); intro gb101 hg w6 hbox hb; have n0_ := zm (below_step (zq0) hb); have n1_ := zm (hbox); have n2_ := zm ((by rw [hg]; exact (below_size (zq0)) : w.heap.size ≤ gb101)); have n3_ := zm ((by rw [hg]; exact (below_size (zq0)) : w.heap.size ≤ gb101)); clear HB; revert n0_ n1_ n2_ n3_; intro HB BK101 GW101 GE101; clear hb hbox hg) | ((with_reducible refine gate_dst (N := 2) rfl ?_); refine box_event ?hg (N := 2) ?hd (cs := #[.string (⟨#[]⟩ : ByteArray), .int .i64 0, .int .i64 0]) (t := 110) ?hr ?_; (case hd => rfl); (case hg => rfl); (case hr => first | (go_simp; done) | (go_simp; rfl)); intro gb102 hg w7 hbox hb; have n0_ := zm (blk_below (g := gb101) (o := .cells #[.string a0_0, .int .i64 a0_1, .int .i64 a0_2] 110 (0, 0)) (zq3) hb); have n1_ := zm (below_step (zq1) hb); have n2_ := zm (hbox); have n3_ := zm ((by rw [hg]; exact (below_size (zq1)) : w.heap.size ≤ gb102)); have n4_ := zm ((by rw [hg]; exact (below_size (zq1)) : w.heap.size ≤ gb102)); have n5_ := zm ((by rw [hg]; exact Nat.ne_of_lt (blk_lt (g := gb101) (o := .cells #[.string a0_0, .int .i64 a0_1, .int .i64 a0_2] 110 (0, 0)) (zq3)) : gb101 ≠ gb102)); have n6_ := zm ((by rw [hg]; exact Nat.ne_of_gt (blk_lt (g := gb101) (o := .cells #[.string a0_0, .int .i64 a0_1, .int .i64 a0_2] 110 (0, 0)) (zq3)) : gb102 ≠ gb101)); clear BK101 HB; revert n0_ n1_ n2_ n3_ n4_ n5_ n6_; intro BK101 HB BK102 GW102 GE102 NB101_102 NB102_101; clear hb hbox hg; have hnb8 := NB101_102.out; have hnc8 := NB102_101.out; have hcz9_0 : w7.cell? ⟨gb101, 0, none⟩ = some (.string a0_0) := (blk_cell BK101.out 0).trans rfl; have hcz9_1 : w7.cell? ⟨gb101, 1, none⟩ = some (.int .i64 a0_1) := (blk_cell BK101.out 1).trans rfl; have hcz9_2 : w7.cell? ⟨gb101, 2, none⟩ = some (.int .i64 a0_2) := (blk_cell BK101.out 2).trans rfl; have hfz9_0 := blk_frozen BK101.out 0; have hfz9_1 := blk_frozen BK101.out 1; have hfz9_2 := blk_frozen BK101.out 2) | ((with_reducible refine gate_callee (f := 91) rfl ?_); refine goesL_ (some 7) rfl rfl Try.func91 (by kernel_rfl) rfl #[.agg #[.string a0_0, .int .i64 a0_1, .int .i64 a0_2], .int .i64 1] rfl (zq2) ?_; (with_reducible refine (pleachref04_fix.calls a0_0 a0_1 a0_2 1 t103 t104 t105 t106 _ A2.out).mono ?_); rintro e w10 ⟨rfl, hb⟩; refine ⟨_, rfl, ?_⟩; have n0_ := zm (blk_below (g := gb101) (o := .cells #[.string a0_0, .int .i64 a0_1, .int .i64 a0_2] 110 (0, 0)) (zq3) hb); have n1_ := zm (blk_below (g := gb102) (o := .cells #[.string (⟨#[]⟩ : ByteArray), .int .i64 0, .int .i64 0] 110 (0, 0)) (zq13) hb); have n2_ := zm (below_step (zq7) hb); clear BK101 BK102 HB; revert n0_ n1_ n2_; intro BK101 BK102 HB; (try clear hb); (try clear hb2); (try clear hk); (try clear hi); have hcz11_0 : w10.cell? ⟨gb101, 0, none⟩ = some (.string a0_0) := (blk_cell BK101.out 0).trans rfl; have hcz11_1 : w10.cell? ⟨gb101, 1, none⟩ = some (.int .i64 a0_1) := (blk_cell BK101.out 1).trans rfl; have hcz11_2 : w10.cell? ⟨gb101, 2, none⟩ = some (.int .i64 a0_2) := (blk_cell BK101.out 2).trans rfl; have hfz11_0 := blk_frozen BK101.out 0; have hfz11_1 := blk_frozen BK101.out 1; have hfz11_2 := blk_frozen BK101.out 2))); have n0_ : Aside0 ((((w10.setCell ⟨gb101, 0, none⟩ (.string t103)).setCell ⟨gb101, 1, none⟩ (.int .i64 t104)).setCell ⟨gb101, 2, none⟩ (.int .i64 t105)).heap[gb101]? = some (.cells #[.string t103, .int .i64 t104, .int .i64 t105] 110 (0, 0))) := ⟨zq45⟩; have n1_ : Aside0 ((((w10.setCell ⟨gb101, 0, none⟩ (.string t103)).setCell ⟨gb101, 1, none⟩ (.int .i64 t104)).setCell ⟨gb101, 2, none⟩ (.int .i64 t105)).heap[gb102]? = some (.cells #[.string (⟨#[]⟩ : ByteArray), .int .i64 0, .int .i64 0] 110 (0, 0))) := ⟨zq19⟩; have n2_ : Aside0 (Below w.heap.size w (((w10.setCell ⟨gb101, 0, none⟩ (.string t103)).setCell ⟨gb101, 1, none⟩ (.int .i64 t104)).setCell ⟨gb101, 2, none⟩ (.int .i64 t105))) := ⟨zq7⟩; (try clear BK101); (try clear BK102); (try clear HB); generalize (((w10.setCell ⟨gb101, 0, none⟩ (.string t103)).setCell ⟨gb101, 1, none⟩ (.int .i64 t104)).setCell ⟨gb101, 2, none⟩ (.int .i64 t105)) = w12 at n0_ n1_ n2_ ⊢; revert n0_ n1_ n2_; intro BK101 BK102 HB; have n0_ := zm (blk_drew BK101.out); have n1_ := zm (blk_drew BK102.out); have n2_ := zm (below_drew1 HB.out); clear BK101 BK102 HB; revert n0_ n1_ n2_; intro BK101 BK102 HB; have p5 : 0 ≤ (0 : Int) := (by omega); have q5 : 0 < t106.size := (by have : (0 : Int) < (t106.size : Int) := of_decide_eq_true (zq6); omega); have hx5 : ∀ h : 0 < t106.size, ((t106[0]'h).toNat : Int) = bt t106 0 := bt_at t106 0; clear p5; have qi5 : (0 < (t106.size : Int)) = True := eq_true (of_decide_eq_true (zq6)); replace q5 := eq_true q5; refine start_ (n := 6) (S := fun w' => w'.cell? ⟨gb101, 0, none⟩ = some (.string t103) ∧ w'.cell? ⟨gb101, 1, none⟩ = some (.int .i64 t104) ∧ w'.cell? ⟨gb101, 2, none⟩ = some (.int .i64 t105)) (ds := []) #[false, false, false, false, false, false] (by kernel_rfl) rfl rfl ⟨(blk_cell BK101.out 0).trans rfl, (blk_cell BK101.out 1).trans rfl, (blk_cell BK101.out 2).trans rfl⟩ (fun hHeld => ?_); generalize w12.drew = w13 at BK101 BK102 HB hHeld ⊢; refine pure_ (i := 1) (N := some 15) (v := ?_) (a' := ?_) #[false, true, false, false, false, false] rfl rfl (by kernel_rfl) (fun _ _ _ h => h) (Or.inl ⟨by rfl, ?_⟩) ?_ ?_
      rotate_left
      · intro w'; (go_simp); (with_reducible rfl)
      rotate_left
      · simp only [Act.put, List.setIfInBounds_toArray, List.set_cons_zero, List.set_cons_succ, i64_w, i32_w]; (rfl)
      refine take_ (i := 0) (N := some 14) (v := ?_) (a' := ?_) #[true, true, false, false, false, false] rfl rfl (by kernel_rfl) (fun _ _ _ h => h) (Or.inl ⟨by rfl, ?_⟩) hHeld ?_ ?_
      rotate_left
      · rintro w' ⟨s0, s1, s2⟩; (go_simp); (with_reducible rfl)
      rotate_left
      · simp only [Act.put, List.setIfInBounds_toArray, List.set_cons_zero, List.set_cons_succ, i64_w, i32_w]; (rfl)
      refine take_ (i := 2) (N := some 16) (v := ?_) (a' := ?_) #[true, true, true, false, false, false] rfl rfl (by kernel_rfl) (fun _ _ _ h => h) (Or.inl ⟨by rfl, ?_⟩) hHeld ?_ ?_
      rotate_left
      · rintro w' ⟨s0, s1, s2⟩; (go_simp); (with_reducible rfl)
      rotate_left
      · simp only [Act.put, List.setIfInBounds_toArray, List.set_cons_zero, List.set_cons_succ, i64_w, i32_w]; (rfl)
      refine pure_ (i := 3) (N := some 17) (v := ?_) (a' := ?_) #[true, true, true, true, false, false] rfl rfl (by kernel_rfl) (fun _ _ _ h => h) (Or.inl ⟨by rfl, ?_⟩) ?_ ?_
      rotate_left
      · intro w'; (go_simp); (with_reducible rfl)
      rotate_left
      · simp only [Act.put, List.setIfInBounds_toArray, List.set_cons_zero, List.set_cons_succ, i64_w, i32_w]; (rfl)
      refine one_ (i := 4) (N := none) #[true, true, true, true, true, false] rfl rfl (by kernel_rfl) (by decide) (fun K hK => ?_); have hs14 : w13.cell? ⟨gb102, 0, none⟩ = some (.string (⟨#[]⟩ : ByteArray)) := (blk_cell BK102.out 0).trans rfl; have hfs14 := blk_frozen BK102.out 0; have hns14_0 := NB101_102.out; have hms14_0 := NB102_101.out; have hs15 : w13.cell? ⟨gb102, 1, none⟩ = some (.int .i64 0) := (blk_cell BK102.out 1).trans rfl; have hfs15 := blk_frozen BK102.out 1; have hns15_0 := NB101_102.out; have hms15_0 := NB102_101.out; have hs16 : w13.cell? ⟨gb102, 2, none⟩ = some (.int .i64 0) := (blk_cell BK102.out 2).trans rfl; have hfs16 := blk_frozen BK102.out 2; have hns16_0 := NB101_102.out; have hms16_0 := NB102_101.out; refine skip_ (w1 := ?_) (by rfl) rfl ?_ ?_
      rotate_left
      · (go_simp); (rfl)
      refine hK.out _ _ ⟨((cell_far (p := ⟨gb102, _, none⟩) NB101_102.out _).trans (((cell_far (p := ⟨gb102, _, none⟩) NB101_102.out _).trans (((cell_far (p := ⟨gb102, _, none⟩) NB101_102.out _).trans (hHeld.1)))))), ((cell_far (p := ⟨gb102, _, none⟩) NB101_102.out _).trans (((cell_far (p := ⟨gb102, _, none⟩) NB101_102.out _).trans (((cell_far (p := ⟨gb102, _, none⟩) NB101_102.out _).trans (hHeld.2.1)))))), ((cell_far (p := ⟨gb102, _, none⟩) NB101_102.out _).trans (((cell_far (p := ⟨gb102, _, none⟩) NB101_102.out _).trans (((cell_far (p := ⟨gb102, _, none⟩) NB101_102.out _).trans (hHeld.2.2))))))⟩ (fun hHeld => ?_); clear hK K; refine pure_ (i := 5) (N := some 3) (v := ?_) (a' := ?_) #[true, true, true, true, true, true] rfl rfl (by kernel_rfl) (fun _ _ _ h => h) (Or.inl ⟨by rfl, ?_⟩) ?_ ?_
      rotate_left
      · intro w'; (go_simp); (with_reducible rfl)
      rotate_left
      · simp only [Act.put, List.setIfInBounds_toArray, List.set_cons_zero, List.set_cons_succ, i64_w, i32_w]; (rfl)
      refine done_ (by kernel_rfl) ?_; (try go_wp2); refine bodyPost_ret (results_ct rfl _ _ gb102 110 #[.string t103, .int .i64 t104, .int .i64 t105] (0, 0) _ rfl (by (with_reducible repeat (first | refine blk_drewN ?_ _ | refine blk_drew ?_ | refine blk_alloc ?_ _)); refine blk_put (cs := #[.string t103, .int .i64 t104, .int .i64 0]) ?_ 2 _ rfl; (with_reducible repeat (first | refine blk_drewN ?_ _ | refine blk_drew ?_ | refine blk_alloc ?_ _)); refine blk_put (cs := #[.string t103, .int .i64 0, .int .i64 0]) ?_ 1 _ rfl; (with_reducible repeat (first | refine blk_drewN ?_ _ | refine blk_drew ?_ | refine blk_alloc ?_ _)); refine blk_put (cs := #[.string (⟨#[]⟩ : ByteArray), .int .i64 0, .int .i64 0]) ?_ 0 _ rfl; (with_reducible repeat (first | refine blk_drewN ?_ _ | refine blk_drew ?_ | refine blk_alloc ?_ _)); exact BK102.out) Try.underlying110 rfl (by kernel_rfl)) rfl ?_; exact ⟨zq5, zq7⟩
    · rw [if_neg c4] at H; exact absurd H (by simp)
  · rw [if_neg c3] at H; have c3b0 : (t105 == 0) = false := beq_eq_false_iff_ne.mpr c3; have c3b1 : (t105 != 0) = true := bne_iff_ne.mpr c3; simp only [Option.some.injEq, Prod.mk.injEq] at H; obtain ⟨rfl, rfl, rfl, rfl⟩ := H; go_enter Try.func111, Try.ntmps111; go_wp2_with (first | ((with_reducible refine gate_dst (N := 1) rfl ?_); refine box_event ?hg (N := 1) ?hd (cs := #[.string a0_0, .int .i64 a0_1, .int .i64 a0_2]) (t := 110) ?hr ?_; (case hd => rfl); (case hg => rfl); (case hr => first | (go_simp; done) | (go_simp; rfl)); intro gb101 hg w17 hbox hb; have n0_ := zm (below_step (zq0) hb); have n1_ := zm (hbox); have n2_ := zm ((by rw [hg]; exact (below_size (zq0)) : w.heap.size ≤ gb101)); have n3_ := zm ((by rw [hg]; exact (below_size (zq0)) : w.heap.size ≤ gb101)); clear HB; revert n0_ n1_ n2_ n3_; intro HB BK101 GW101 GE101; clear hb hbox hg) | ((with_reducible refine gate_dst (N := 2) rfl ?_); refine box_event ?hg (N := 2) ?hd (cs := #[.string (⟨#[]⟩ : ByteArray), .int .i64 0, .int .i64 0]) (t := 110) ?hr ?_; (case hd => rfl); (case hg => rfl); (case hr => first | (go_simp; done) | (go_simp; rfl)); intro gb102 hg w18 hbox hb; have n0_ := zm (blk_below (g := gb101) (o := .cells #[.string a0_0, .int .i64 a0_1, .int .i64 a0_2] 110 (0, 0)) (zq3) hb); have n1_ := zm (below_step (zq1) hb); have n2_ := zm (hbox); have n3_ := zm ((by rw [hg]; exact (below_size (zq1)) : w.heap.size ≤ gb102)); have n4_ := zm ((by rw [hg]; exact (below_size (zq1)) : w.heap.size ≤ gb102)); have n5_ := zm ((by rw [hg]; exact Nat.ne_of_lt (blk_lt (g := gb101) (o := .cells #[.string a0_0, .int .i64 a0_1, .int .i64 a0_2] 110 (0, 0)) (zq3)) : gb101 ≠ gb102)); have n6_ := zm ((by rw [hg]; exact Nat.ne_of_gt (blk_lt (g := gb101) (o := .cells #[.string a0_0, .int .i64 a0_1, .int .i64 a0_2] 110 (0, 0)) (zq3)) : gb102 ≠ gb101)); clear BK101 HB; revert n0_ n1_ n2_ n3_ n4_ n5_ n6_; intro BK101 HB BK102 GW102 GE102 NB101_102 NB102_101; clear hb hbox hg; have hnb19 := NB101_102.out; have hnc19 := NB102_101.out; have hcz20_0 : w18.cell? ⟨gb101, 0, none⟩ = some (.string a0_0) := (blk_cell BK101.out 0).trans rfl; have hcz20_1 : w18.cell? ⟨gb101, 1, none⟩ = some (.int .i64 a0_1) := (blk_cell BK101.out 1).trans rfl; have hcz20_2 : w18.cell? ⟨gb101, 2, none⟩ = some (.int .i64 a0_2) := (blk_cell BK101.out 2).trans rfl; have hfz20_0 := blk_frozen BK101.out 0; have hfz20_1 := blk_frozen BK101.out 1; have hfz20_2 := blk_frozen BK101.out 2) | ((with_reducible refine gate_callee (f := 91) rfl ?_); refine goesL_ (some 7) rfl rfl Try.func91 (by kernel_rfl) rfl #[.agg #[.string a0_0, .int .i64 a0_1, .int .i64 a0_2], .int .i64 1] rfl (zq2) ?_; (with_reducible refine (pleachref04_fix.calls a0_0 a0_1 a0_2 1 t103 t104 t105 t106 _ A2.out).mono ?_); rintro e w21 ⟨rfl, hb⟩; refine ⟨_, rfl, ?_⟩; have n0_ := zm (blk_below (g := gb101) (o := .cells #[.string a0_0, .int .i64 a0_1, .int .i64 a0_2] 110 (0, 0)) (zq3) hb); have n1_ := zm (blk_below (g := gb102) (o := .cells #[.string (⟨#[]⟩ : ByteArray), .int .i64 0, .int .i64 0] 110 (0, 0)) (zq13) hb); have n2_ := zm (below_step (zq7) hb); clear BK101 BK102 HB; revert n0_ n1_ n2_; intro BK101 BK102 HB; (try clear hb); (try clear hb2); (try clear hk); (try clear hi); have hcz22_0 : w21.cell? ⟨gb101, 0, none⟩ = some (.string a0_0) := (blk_cell BK101.out 0).trans rfl; have hcz22_1 : w21.cell? ⟨gb101, 1, none⟩ = some (.int .i64 a0_1) := (blk_cell BK101.out 1).trans rfl; have hcz22_2 : w21.cell? ⟨gb101, 2, none⟩ = some (.int .i64 a0_2) := (blk_cell BK101.out 2).trans rfl; have hfz22_0 := blk_frozen BK101.out 0; have hfz22_1 := blk_frozen BK101.out 1; have hfz22_2 := blk_frozen BK101.out 2; have hcz23_0 : w21.cell? ⟨gb102, 0, none⟩ = some (.string (⟨#[]⟩ : ByteArray)) := (blk_cell BK102.out 0).trans rfl; have hcz23_1 : w21.cell? ⟨gb102, 1, none⟩ = some (.int .i64 0) := (blk_cell BK102.out 1).trans rfl; have hcz23_2 : w21.cell? ⟨gb102, 2, none⟩ = some (.int .i64 0) := (blk_cell BK102.out 2).trans rfl; have hfz23_0 := blk_frozen BK102.out 0; have hfz23_1 := blk_frozen BK102.out 1; have hfz23_2 := blk_frozen BK102.out 2)); refine bodyPost_ret (results_ct rfl _ _ gb102 110 #[.string t103, .int .i64 t104, .int .i64 t105] (0, 0) _ rfl (zq62) Try.underlying110 rfl (by kernel_rfl)) rfl ?_; exact ⟨zq5, zq7⟩

end Go.Proofs.Ytmnadajjgnniaaa.MA
end
section
namespace Go.Proofs.Ytmnadajjgnniaaa.MA
open Go.RowKit Go.Proofs.YtmnadajjgnniaaaW.PrintWords Go.Proofs.YtmnadajjgnniaaaW.PrintLast Go.Proofs.YtmnadajjgnniaaaW.PrintMore
attribute [local go_sem] max2_int min2_int max_two min_two max_three min_three max_four min_four

def pleachref01_Zag.f (a0 : Int) : Option (Int) := if (Int.tmod a0 2) = 0 then (some (wrap64 (IntKind.u64.wrap (Int.tdiv a0 2)))) else (some (wrap64 ((-1) - (wrap64 (IntKind.u64.wrap (Int.tdiv a0 2))))))
set_option maxHeartbeats 8000000 in
set_option maxRecDepth 100000 in
theorem pleachref01_Zag.calls (a0 : Int) (r : Int) (w : World) (h : pleachref01_Zag.f a0 = some r) :
    Calls Try.prog 128 #[.int .u64 a0] w fun e w' => e = .returned (.int .i64 r) ∧ Drawn0 w w' := by
  have H : (if (Int.tmod a0 2) = 0 then (some (wrap64 (IntKind.u64.wrap (Int.tdiv a0 2)))) else (some (wrap64 ((-1) - (wrap64 (IntKind.u64.wrap (Int.tdiv a0 2))))))) = some r := h; clear h; by_cases c2 : (Int.tmod a0 2) = 0
  · rw [if_pos c2] at H; have c2b0 : ((Int.tmod a0 2) == 0) = true := beq_iff_eq.mpr c2; have c2b1 : ((Int.tmod a0 2) != 0) = false := bne_eq_false_iff_eq.mpr c2; clear c2; obtain rfl := Option.some.inj H; go_enter Try.func128, Try.ntmps128; (go_wp2); (go_ret); exact ⟨zq11, zq16⟩
  · rw [if_neg c2] at H; have c2b0 : ((Int.tmod a0 2) == 0) = false := beq_eq_false_iff_ne.mpr c2; have c2b1 : ((Int.tmod a0 2) != 0) = true := bne_iff_ne.mpr c2; obtain rfl := Option.some.inj H; go_enter Try.func128, Try.ntmps128; (go_wp2); (go_ret); exact ⟨zq11, zq16⟩

end Go.Proofs.Ytmnadajjgnniaaa.MA
end
section
namespace Go.Proofs.Ytmnadajjgnniaaa.MA
open Go.RowKit Go.Proofs.YtmnadajjgnniaaaW.PrintWords Go.Proofs.YtmnadajjgnniaaaW.PrintLast Go.Proofs.YtmnadajjgnniaaaW.PrintMore
attribute [local go_sem] max2_int min2_int max_two min_two max_three min_three max_four min_four

set_option maxRecDepth 100000 in
theorem zl62x0 {P : Prop} (h : P := by go_enter Try.func112, Try.ntmps112; go_wp2_with (first | ((with_reducible refine gate_dst (N := 1) rfl ?_); refine box_event ?hg (N := 1) ?hd (cs := #[.string a0_0, .int .i64 a0_1, .int .i64 a0_2]) (t := 110) ?hr ?_; (case hd => rfl); (case hg => rfl); (case hr => first | (go_simp; done) | (go_simp; rfl)); intro gb101 hg w3001 hbox hb; have n0_ := zm (below_step (zq0) hb); have n1_ := zm (hbox); have n2_ := zm ((by rw [hg]; exact (below_size (zq0)) : w.heap.size ≤ gb101)); have n3_ := zm ((by rw [hg]; exact (below_size (zq0)) : w.heap.size ≤ gb101)); clear HB; revert n0_ n1_ n2_ n3_; intro HB BK101 GW101 GE101; clear hb hbox hg) | ((with_reducible refine gate_dst (N := 2) rfl ?_); refine box_event ?hg (N := 2) ?hd (cs := #[.string (⟨#[]⟩ : ByteArray), .int .i64 0, .int .i64 0]) (t := 110) ?hr ?_; (case hd => rfl); (case hg => rfl); (case hr => first | (go_simp; done) | (go_simp; rfl)); intro gb102 hg w3002 hbox hb; have n0_ := zm (blk_below (g := gb101) (o := .cells #[.string a0_0, .int .i64 a0_1, .int .i64 a0_2] 110 (0, 0)) (zq3) hb); have n1_ := zm (below_step (zq1) hb); have n2_ := zm (hbox); have n3_ := zm ((by rw [hg]; exact (below_size (zq1)) : w.heap.size ≤ gb102)); have n4_ := zm ((by rw [hg]; exact (below_size (zq1)) : w.heap.size ≤ gb102)); have n5_ := zm ((by rw [hg]; exact Nat.ne_of_lt (blk_lt (g := gb101) (o := .cells #[.string a0_0, .int .i64 a0_1, .int .i64 a0_2] 110 (0, 0)) (zq3)) : gb101 ≠ gb102)); have n6_ := zm ((by rw [hg]; exact Nat.ne_of_gt (blk_lt (g := gb101) (o := .cells #[.string a0_0, .int .i64 a0_1, .int .i64 a0_2] 110 (0, 0)) (zq3)) : gb102 ≠ gb101)); clear BK101 HB; revert n0_ n1_ n2_ n3_ n4_ n5_ n6_; intro BK101 HB BK102 GW102 GE102 NB101_102 NB102_101; clear hb hbox hg; have hnb3003 := NB101_102.out; have hnc3003 := NB102_101.out; have hcz3004_0 : w3002.cell? ⟨gb101, 0, none⟩ = some (.string a0_0) := (blk_cell BK101.out 0).trans rfl; have hcz3004_1 : w3002.cell? ⟨gb101, 1, none⟩ = some (.int .i64 a0_1) := (blk_cell BK101.out 1).trans rfl; have hcz3004_2 : w3002.cell? ⟨gb101, 2, none⟩ = some (.int .i64 a0_2) := (blk_cell BK101.out 2).trans rfl; have hfz3004_0 := blk_frozen BK101.out 0; have hfz3004_1 := blk_frozen BK101.out 1; have hfz3004_2 := blk_frozen BK101.out 2; have hcz3005_0 : w3002.cell? ⟨gb102, 0, none⟩ = some (.string (⟨#[]⟩ : ByteArray)) := (blk_cell BK102.out 0).trans rfl; have hcz3005_1 : w3002.cell? ⟨gb102, 1, none⟩ = some (.int .i64 0) := (blk_cell BK102.out 1).trans rfl; have hcz3005_2 : w3002.cell? ⟨gb102, 2, none⟩ = some (.int .i64 0) := (blk_cell BK102.out 2).trans rfl; have hfz3005_0 := blk_frozen BK102.out 0; have hfz3005_1 := blk_frozen BK102.out 1; have hfz3005_2 := blk_frozen BK102.out 2) | ((with_reducible refine gate_dst (N := 2) rfl ?_); refine box_event ?hg (N := 2) ?hd (cs := #[.string (⟨#[]⟩ : ByteArray), .int .i64 0, .int .i64 0]) (t := 110) ?hr ?_; (case hd => rfl); (case hg => rfl); (case hr => first | (go_simp; done) | (go_simp; rfl)); intro gb102 hg w3002 hbox hb; have n0_ := zm (blk_below (g := gb101) (o := .cells #[.string a0_0, .int .i64 a0_1, .int .i64 a0_2] 110 (0, 0)) (zq3) hb); have n1_ := zm (below_step (zq1) hb); have n2_ := zm (hbox); have n3_ := zm ((by rw [hg]; exact (below_size (zq1)) : w.heap.size ≤ gb102)); have n4_ := zm ((by rw [hg]; exact (below_size (zq1)) : w.heap.size ≤ gb102)); have n5_ := zm ((by rw [hg]; exact Nat.ne_of_lt (blk_lt (g := gb101) (o := .cells #[.string a0_0, .int .i64 a0_1, .int .i64 a0_2] 110 (0, 0)) (zq3)) : gb101 ≠ gb102)); have n6_ := zm ((by rw [hg]; exact Nat.ne_of_gt (blk_lt (g := gb101) (o := .cells #[.string a0_0, .int .i64 a0_1, .int .i64 a0_2] 110 (0, 0)) (zq3)) : gb102 ≠ gb101)); clear BK101 HB; revert n0_ n1_ n2_ n3_ n4_ n5_ n6_; intro BK101 HB BK102 GW102 GE102 NB101_102 NB102_101; clear hb hbox hg; have hnb3003 := NB101_102.out; have hnc3003 := NB102_101.out; have hcz3004_0 : w3002.cell? ⟨gb101, 0, none⟩ = some (.string a0_0) := (blk_cell BK101.out 0).trans rfl; have hcz3004_1 : w3002.cell? ⟨gb101, 1, none⟩ = some (.int .i64 a0_1) := (blk_cell BK101.out 1).trans rfl; have hcz3004_2 : w3002.cell? ⟨gb101, 2, none⟩ = some (.int .i64 a0_2) := (blk_cell BK101.out 2).trans rfl; have hfz3004_0 := blk_frozen BK101.out 0; have hfz3004_1 := blk_frozen BK101.out 1; have hfz3004_2 := blk_frozen BK101.out 2) | ((with_reducible refine gate_callee (f := 110) rfl ?_); refine goesL_ (some 17) rfl rfl Try.func110 (by kernel_rfl) rfl #[.string (a0_0.extract (a0_1 : Int).toNat a0_0.size)] rfl (zq2) ?_; (with_reducible refine (pleachref01_Get.calls k (a0_0.extract (a0_1 : Int).toNat a0_0.size) t103 t104 false _ A5.out).mono ?_); rintro e w3005 ⟨rfl, hb⟩; refine ⟨_, rfl, ?_⟩; have n0_ := zm (blk_below (g := gb101) (o := .cells #[.string a0_0, .int .i64 a0_1, .int .i64 a0_2] 110 (0, 0)) (zq3) hb); have n1_ := zm (blk_below (g := gb102) (o := .cells #[.string (⟨#[]⟩ : ByteArray), .int .i64 0, .int .i64 0] 110 (0, 0)) (zq13) hb); have n2_ := zm (below_step (zq7) hb); clear BK101 BK102 HB; revert n0_ n1_ n2_; intro BK101 BK102 HB; (try clear hb); (try clear hb2); (try clear hk); (try clear hi); have hcz3006_0 : w3005.cell? ⟨gb101, 0, none⟩ = some (.string a0_0) := (blk_cell BK101.out 0).trans rfl; have hcz3006_1 : w3005.cell? ⟨gb101, 1, none⟩ = some (.int .i64 a0_1) := (blk_cell BK101.out 1).trans rfl; have hcz3006_2 : w3005.cell? ⟨gb101, 2, none⟩ = some (.int .i64 a0_2) := (blk_cell BK101.out 2).trans rfl; have hfz3006_0 := blk_frozen BK101.out 0; have hfz3006_1 := blk_frozen BK101.out 1; have hfz3006_2 := blk_frozen BK101.out 2; have hcz3007_0 : w3005.cell? ⟨gb102, 0, none⟩ = some (.string (⟨#[]⟩ : ByteArray)) := (blk_cell BK102.out 0).trans rfl; have hcz3007_1 : w3005.cell? ⟨gb102, 1, none⟩ = some (.int .i64 0) := (blk_cell BK102.out 1).trans rfl; have hcz3007_2 : w3005.cell? ⟨gb102, 2, none⟩ = some (.int .i64 0) := (blk_cell BK102.out 2).trans rfl; have hfz3007_0 := blk_frozen BK102.out 0; have hfz3007_1 := blk_frozen BK102.out 1; have hfz3007_2 := blk_frozen BK102.out 2)); (first | (refine bodyPost_ret (results_ct rfl _ _ gb102 110 #[.string a0_0, .int .i64 a0_1, .int .i64 3] (0, 0) _ rfl (zq21) Try.underlying110 rfl (by kernel_rfl)) rfl ?_; exact ⟨zq5, zq7⟩) | (refine bodyPost_ret (results_ct rfl _ _ gb102 110 #[.string a0_0, .int .i64 a0_1, .int .i64 a0_2] (0, 0) _ rfl (zq46) Try.underlying110 rfl (by kernel_rfl)) rfl ?_; exact ⟨zq5, zq7⟩))) : P := h
def pleachref04_Int.f (k : Nat) (a0_0 : ByteArray) (a0_1 : Int) (a0_2 : Int) : Option (ByteArray × Int × Int × Int) := if a0_2 = 0 then (if 0 ≤ a0_1 then (if a0_1 ≤ (a0_0.size : Int) then ((pleachref01_Get.f k (a0_0.extract (a0_1 : Int).toNat a0_0.size)).bind fun bt103 => (if bt103.2.2 = true then ((pleachref01_Zag.f bt103.1).bind fun t106 => (some (a0_0, wrap64 (a0_1 + bt103.2.1), a0_2, t106))) else (some (a0_0, a0_1, 3, 0)))) else (none)) else (none)) else (some (a0_0, a0_1, a0_2, 0))
theorem pleachref04_Int.mono : ∀ a0 a1 a2 k, LeO (pleachref04_Int.f k a0 a1 a2) (pleachref04_Int.f (k + 1) a0 a1 a2) := by
  intro a0 a1 a2 k; unfold pleachref04_Int.f
  repeat' first
      | (with_reducible exact pleachref01_Get.mono _ _)
      | (with_reducible exact LeO.refl _)
      | (with_reducible exact LeO.none _)
      | (with_reducible refine LeO.ite ?_ ?_)
      | (with_reducible refine LeO.bind ?_ (fun _ => ?_))
      | exact pleachref01_Get.mono _ _
      | exact LeO.none _
      | refine LeO.ite ?_ ?_
      | refine LeO.bind ?_ (fun _ => ?_)
set_option maxHeartbeats 8000000 in
set_option maxRecDepth 100000 in
theorem pleachref04_Int.calls (k : Nat) (a0_0 : ByteArray) (a0_1 : Int) (a0_2 : Int) (r1 : ByteArray) (r2 : Int) (r3 : Int) (r4 : Int) (w : World) (h : pleachref04_Int.f k a0_0 a0_1 a0_2 = some (r1, r2, r3, r4)) :
    Calls Try.prog 112 #[.agg #[.string a0_0, .int .i64 a0_1, .int .i64 a0_2]] w fun e w' => e = .returned (.tuple #[.agg #[.string r1, .int .i64 r2, .int .i64 r3], .int .i64 r4]) ∧ Below w.heap.size w w' := by
  have hu110 := Try.underlying110; have HB := zm (Below.refl w.heap.size w); have H : (if a0_2 = 0 then (if 0 ≤ a0_1 then (if a0_1 ≤ (a0_0.size : Int) then ((pleachref01_Get.f k (a0_0.extract (a0_1 : Int).toNat a0_0.size)).bind fun bt103 => (if bt103.2.2 = true then ((pleachref01_Zag.f bt103.1).bind fun t106 => (some (a0_0, wrap64 (a0_1 + bt103.2.1), a0_2, t106))) else (some (a0_0, a0_1, 3, 0)))) else (none)) else (none)) else (some (a0_0, a0_1, a0_2, 0))) = some (r1, r2, r3, r4) := h; clear h; by_cases c2 : a0_2 = 0
  · rw [if_pos c2] at H; have c2b0 : (a0_2 == 0) = true := beq_iff_eq.mpr c2; have c2b1 : (a0_2 != 0) = false := bne_eq_false_iff_eq.mpr c2; clear c2; by_cases c3 : 0 ≤ a0_1
    · rw [if_pos c3] at H; have c3b0 := eq_true c3; have c3b1 : decide (0 ≤ a0_1) = true := decide_eq_true c3; clear c3; by_cases c4 : a0_1 ≤ (a0_0.size : Int)
      · rw [if_pos c4] at H; have c4b0 := eq_true c4; have c4b1 : decide (a0_1 ≤ (a0_0.size : Int)) = true := decide_eq_true c4; clear c4; replace H := Option.bind_eq_some_iff.mp H; obtain ⟨⟨t103, t104, t105⟩, A50, H⟩ := H; replace H : (if t105 = true then ((pleachref01_Zag.f t103).bind fun t106 => (some (a0_0, wrap64 (a0_1 + t104), a0_2, t106))) else (some (a0_0, a0_1, 3, 0))) = some (r1, r2, r3, r4) := H; have A5 := Aside0.mk A50; clear A50; by_cases c6 : t105 = true
        · subst c6; (have H1 : ((pleachref01_Zag.f t103).bind fun t106 => (some (a0_0, wrap64 (a0_1 + t104), a0_2, t106))) = some (r1, r2, r3, r4) := by rw [if_pos rfl] at H; exact H); clear H; have H := H1; clear H1; replace H := Option.bind_eq_some_iff.mp H; obtain ⟨t106, A70, H⟩ := H; replace H : (some (a0_0, wrap64 (a0_1 + t104), a0_2, t106)) = some (r1, r2, r3, r4) := H; have A7 := Aside0.mk A70; clear A70; simp only [Option.some.injEq, Prod.mk.injEq] at H; obtain ⟨rfl, rfl, rfl, rfl⟩ := H; go_enter Try.func112, Try.ntmps112; (try go_wp2_with (first | ((with_reducible refine gate_dst (N := 1) rfl ?_); refine box_event ?hg (N := 1) ?hd (cs := #[.string a0_0, .int .i64 a0_1, .int .i64 a0_2]) (t := 110) ?hr ?_; (case hd => rfl); (case hg => rfl); (case hr => first | (go_simp; done) | (go_simp; rfl)); intro gb101 hg w8 hbox hb; have n0_ := zm (below_step (zq0) hb); have n1_ := zm (hbox); have n2_ := zm ((by rw [hg]; exact (below_size (zq0)) : w.heap.size ≤ gb101)); have n3_ := zm ((by rw [hg]; exact (below_size (zq0)) : w.heap.size ≤ gb101)); clear HB; revert n0_ n1_ n2_ n3_; intro HB BK101 GW101 GE101; clear hb hbox hg) | ((with_reducible refine gate_dst (N := 2) rfl ?_); refine box_event ?hg (N := 2) ?hd (cs := #[.string (⟨#[]⟩ : ByteArray), .int .i64 0, .int .i64 0]) (t := 110) ?hr ?_; (case hd => rfl); (case hg => rfl); (case hr => first | (go_simp; done) | (go_simp; rfl)); intro gb102 hg w9 hbox hb; have n0_ := zm (blk_below (g := gb101) (o := .cells #[.string a0_0, .int .i64 a0_1, .int .i64 a0_2] 110 (0, 0)) (zq3) hb); have n1_ := zm (below_step (zq1) hb); have n2_ := zm (hbox); have n3_ := zm ((by rw [hg]; exact (below_size (zq1)) : w.heap.size ≤ gb102)); have n4_ := zm ((by rw [hg]; exact (below_size (zq1)) : w.heap.size ≤ gb102)); have n5_ := zm ((by rw [hg]; exact Nat.ne_of_lt (blk_lt (g := gb101) (o := .cells #[.string a0_0, .int .i64 a0_1, .int .i64 a0_2] 110 (0, 0)) (zq3)) : gb101 ≠ gb102)); have n6_ := zm ((by rw [hg]; exact Nat.ne_of_gt (blk_lt (g := gb101) (o := .cells #[.string a0_0, .int .i64 a0_1, .int .i64 a0_2] 110 (0, 0)) (zq3)) : gb102 ≠ gb101)); clear BK101 HB; revert n0_ n1_ n2_ n3_ n4_ n5_ n6_; intro BK101 HB BK102 GW102 GE102 NB101_102 NB102_101; clear hb hbox hg; have hnb10 := NB101_102.out; have hnc10 := NB102_101.out; have hcz11_0 : w9.cell? ⟨gb101, 0, none⟩ = some (.string a0_0) := (blk_cell BK101.out 0).trans rfl; have hcz11_1 : w9.cell? ⟨gb101, 1, none⟩ = some (.int .i64 a0_1) := (blk_cell BK101.out 1).trans rfl; have hcz11_2 : w9.cell? ⟨gb101, 2, none⟩ = some (.int .i64 a0_2) := (blk_cell BK101.out 2).trans rfl; have hfz11_0 := blk_frozen BK101.out 0; have hfz11_1 := blk_frozen BK101.out 1; have hfz11_2 := blk_frozen BK101.out 2) | ((with_reducible refine gate_callee (f := 110) rfl ?_); refine goesL_ (some 17) rfl rfl Try.func110 (by kernel_rfl) rfl #[.string (a0_0.extract (a0_1 : Int).toNat a0_0.size)] rfl (zq2) ?_; (with_reducible refine (pleachref01_Get.calls k (a0_0.extract (a0_1 : Int).toNat a0_0.size) t103 t104 true _ A5.out).mono ?_); rintro e w12 ⟨rfl, hb⟩; refine ⟨_, rfl, ?_⟩; have n0_ := zm (blk_below (g := gb101) (o := .cells #[.string a0_0, .int .i64 a0_1, .int .i64 a0_2] 110 (0, 0)) (zq3) hb); have n1_ := zm (blk_below (g := gb102) (o := .cells #[.string (⟨#[]⟩ : ByteArray), .int .i64 0, .int .i64 0] 110 (0, 0)) (zq13) hb); have n2_ := zm (below_step (zq7) hb); clear BK101 BK102 HB; revert n0_ n1_ n2_; intro BK101 BK102 HB; (try clear hb); (try clear hb2); (try clear hk); (try clear hi); have hcz13_0 : w12.cell? ⟨gb101, 0, none⟩ = some (.string a0_0) := (blk_cell BK101.out 0).trans rfl; have hcz13_1 : w12.cell? ⟨gb101, 1, none⟩ = some (.int .i64 a0_1) := (blk_cell BK101.out 1).trans rfl; have hcz13_2 : w12.cell? ⟨gb101, 2, none⟩ = some (.int .i64 a0_2) := (blk_cell BK101.out 2).trans rfl; have hfz13_0 := blk_frozen BK101.out 0; have hfz13_1 := blk_frozen BK101.out 1; have hfz13_2 := blk_frozen BK101.out 2))); have n0_ : Aside0 ((w12.setCell ⟨gb101, 1, none⟩ (.int .i64 (wrap64 (a0_1 + t104)))).heap[gb101]? = some (.cells #[.string a0_0, .int .i64 (wrap64 (a0_1 + t104)), .int .i64 a0_2] 110 (0, 0))) := ⟨by (with_reducible repeat (first | refine blk_drewN ?_ _ | refine blk_drew ?_ | refine blk_alloc ?_ _)); refine blk_put (cs := #[.string a0_0, .int .i64 a0_1, .int .i64 a0_2]) ?_ 1 _ rfl; (with_reducible repeat (first | refine blk_drewN ?_ _ | refine blk_drew ?_ | refine blk_alloc ?_ _)); exact BK101.out⟩; have n1_ : Aside0 ((w12.setCell ⟨gb101, 1, none⟩ (.int .i64 (wrap64 (a0_1 + t104)))).heap[gb102]? = some (.cells #[.string (⟨#[]⟩ : ByteArray), .int .i64 0, .int .i64 0] 110 (0, 0))) := ⟨by (with_reducible repeat (first | refine blk_drewN ?_ _ | refine blk_drew ?_ | refine blk_alloc ?_ _)); refine blk_far ?_ NB102_101.out _; (with_reducible repeat (first | refine blk_drewN ?_ _ | refine blk_drew ?_ | refine blk_alloc ?_ _)); exact BK102.out⟩; have n2_ : Aside0 (Below w.heap.size w (w12.setCell ⟨gb101, 1, none⟩ (.int .i64 (wrap64 (a0_1 + t104))))) := ⟨zq7⟩; (try clear BK101); (try clear BK102); (try clear HB); generalize (w12.setCell ⟨gb101, 1, none⟩ (.int .i64 (wrap64 (a0_1 + t104)))) = w14 at n0_ n1_ n2_ ⊢; revert n0_ n1_ n2_; intro BK101 BK102 HB; have n0_ := zm (blk_drew BK101.out); have n1_ := zm (blk_drew BK102.out); have n2_ := zm (below_drew1 HB.out); clear BK101 BK102 HB; revert n0_ n1_ n2_; intro BK101 BK102 HB; refine start_ (n := 5) (S := fun w' => w'.cell? ⟨gb101, 0, none⟩ = some (.string a0_0) ∧ w'.cell? ⟨gb101, 1, none⟩ = some (.int .i64 (wrap64 (a0_1 + t104))) ∧ w'.cell? ⟨gb101, 2, none⟩ = some (.int .i64 a0_2)) (ds := []) #[false, false, false, false, false] (by kernel_rfl) rfl rfl ⟨(blk_cell BK101.out 0).trans rfl, (blk_cell BK101.out 1).trans rfl, (blk_cell BK101.out 2).trans rfl⟩ (fun hHeld => ?_); generalize w14.drew = w15 at BK101 BK102 HB hHeld ⊢; refine pure_ (i := 1) (N := some 31) (v := ?_) (a' := ?_) #[false, true, false, false, false] rfl rfl (by kernel_rfl) (fun _ _ _ h => h) (Or.inl ⟨by rfl, ?_⟩) ?_ ?_
          rotate_left
          · intro w'; (go_simp); (with_reducible rfl)
          rotate_left
          · simp only [Act.put, List.setIfInBounds_toArray, List.set_cons_zero, List.set_cons_succ, i64_w, i32_w]; (rfl)
          refine take_ (i := 0) (N := some 30) (v := ?_) (a' := ?_) #[true, true, false, false, false] rfl rfl (by kernel_rfl) (fun _ _ _ h => h) (Or.inl ⟨by rfl, ?_⟩) hHeld ?_ ?_
          rotate_left
          · rintro w' ⟨s0, s1, s2⟩; (go_simp); (with_reducible rfl)
          rotate_left
          · simp only [Act.put, List.setIfInBounds_toArray, List.set_cons_zero, List.set_cons_succ, i64_w, i32_w]; (rfl)
          refine one_ (i := 2) (N := some 32) #[true, true, true, false, false] rfl rfl (by kernel_rfl) (by decide) (fun K hK => ?_); refine goes_ Try.func128 (by kernel_rfl) rfl #[.int .u64 t103] (by rfl) rfl rfl (zq2) ?_; (with_reducible refine (pleachref01_Zag.calls t103 t106 _ A7.out).mono ?_); rintro e w' ⟨rfl, ⟨nd, rfl⟩⟩; refine ⟨_, rfl, ?_⟩; refine hK.out _ _ ⟨(blk_cell BK101.out 0).trans rfl, (blk_cell BK101.out 1).trans rfl, (blk_cell BK101.out 2).trans rfl⟩ (fun hHeld => ?_); clear hK K; refine norm_ (a' := ?_) ?_ ?_
          rotate_left
          · (show Act.put _ (some 32) _ = _); simp only [Act.put, List.setIfInBounds_toArray, List.set_cons_zero, List.set_cons_succ, i64_w, i32_w]; (rfl)
          refine one_ (i := 3) (N := none) #[true, true, true, true, false] rfl rfl (by kernel_rfl) (by decide) (fun K hK => ?_); have hs16 : w15.cell? ⟨gb102, 0, none⟩ = some (.string (⟨#[]⟩ : ByteArray)) := (blk_cell BK102.out 0).trans rfl; have hfs16 := blk_frozen BK102.out 0; have hns16_0 := NB101_102.out; have hms16_0 := NB102_101.out; have hs17 : w15.cell? ⟨gb102, 1, none⟩ = some (.int .i64 0) := (blk_cell BK102.out 1).trans rfl; have hfs17 := blk_frozen BK102.out 1; have hns17_0 := NB101_102.out; have hms17_0 := NB102_101.out; have hs18 : w15.cell? ⟨gb102, 2, none⟩ = some (.int .i64 0) := (blk_cell BK102.out 2).trans rfl; have hfs18 := blk_frozen BK102.out 2; have hns18_0 := NB101_102.out; have hms18_0 := NB102_101.out; refine skip_ (w1 := ?_) (by rfl) rfl ?_ ?_
          rotate_left
          · (go_simp); (rfl)
          refine hK.out _ _ ⟨((cell_far (p := ⟨gb102, _, none⟩) NB101_102.out _).trans (((cell_far (p := ⟨gb102, _, none⟩) NB101_102.out _).trans (((cell_far (p := ⟨gb102, _, none⟩) NB101_102.out _).trans (hHeld.1)))))), ((cell_far (p := ⟨gb102, _, none⟩) NB101_102.out _).trans (((cell_far (p := ⟨gb102, _, none⟩) NB101_102.out _).trans (((cell_far (p := ⟨gb102, _, none⟩) NB101_102.out _).trans (hHeld.2.1)))))), ((cell_far (p := ⟨gb102, _, none⟩) NB101_102.out _).trans (((cell_far (p := ⟨gb102, _, none⟩) NB101_102.out _).trans (((cell_far (p := ⟨gb102, _, none⟩) NB101_102.out _).trans (hHeld.2.2))))))⟩ (fun hHeld => ?_); clear hK K; refine pure_ (i := 4) (N := some 3) (v := ?_) (a' := ?_) #[true, true, true, true, true] rfl rfl (by kernel_rfl) (fun _ _ _ h => h) (Or.inl ⟨by rfl, ?_⟩) ?_ ?_
          rotate_left
          · intro w'; (go_simp); (with_reducible rfl)
          rotate_left
          · simp only [Act.put, List.setIfInBounds_toArray, List.set_cons_zero, List.set_cons_succ, i64_w, i32_w]; (rfl)
          refine done_ (by kernel_rfl) ?_; (try go_wp2); refine bodyPost_ret (results_ct rfl _ _ gb102 110 #[.string a0_0, .int .i64 (wrap64 (a0_1 + t104)), .int .i64 a0_2] (0, 0) _ rfl (by (with_reducible repeat (first | refine blk_drewN ?_ _ | refine blk_drew ?_ | refine blk_alloc ?_ _)); refine blk_put (cs := #[.string a0_0, .int .i64 (wrap64 (a0_1 + t104)), .int .i64 0]) ?_ 2 _ rfl; (with_reducible repeat (first | refine blk_drewN ?_ _ | refine blk_drew ?_ | refine blk_alloc ?_ _)); refine blk_put (cs := #[.string a0_0, .int .i64 0, .int .i64 0]) ?_ 1 _ rfl; (with_reducible repeat (first | refine blk_drewN ?_ _ | refine blk_drew ?_ | refine blk_alloc ?_ _)); refine blk_put (cs := #[.string (⟨#[]⟩ : ByteArray), .int .i64 0, .int .i64 0]) ?_ 0 _ rfl; (with_reducible repeat (first | refine blk_drewN ?_ _ | refine blk_drew ?_ | refine blk_alloc ?_ _)); exact BK102.out) Try.underlying110 rfl (by kernel_rfl)) rfl ?_; exact ⟨zq5, zq7⟩
        · replace c6 := Bool.eq_false_iff.mpr c6; subst c6; (have H1 : (some (a0_0, a0_1, 3, 0)) = some (r1, r2, r3, r4) := by rw [if_neg (show ¬ (false = true) by decide)] at H; exact H); clear H; have H := H1; clear H1; simp only [Option.some.injEq, Prod.mk.injEq] at H; obtain ⟨rfl, rfl, rfl, rfl⟩ := H; exact zl62x0
      · rw [if_neg c4] at H; exact absurd H (by simp)
    · rw [if_neg c3] at H; exact absurd H (by simp)
  · rw [if_neg c2] at H; have c2b0 : (a0_2 == 0) = false := beq_eq_false_iff_ne.mpr c2; have c2b1 : (a0_2 != 0) = true := bne_iff_ne.mpr c2; simp only [Option.some.injEq, Prod.mk.injEq] at H; obtain ⟨rfl, rfl, rfl, rfl⟩ := H; exact zl62x0

end Go.Proofs.Ytmnadajjgnniaaa.MA
end
