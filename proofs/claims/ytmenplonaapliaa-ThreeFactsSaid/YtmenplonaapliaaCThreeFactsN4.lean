/- The evaluator of the program's form, its soundness, the functions of the given program as it evaluates them, and laws on these. Conditions: as each theorem says. -/
import Derived.Test.YtmenplonaapliaaCThreeFactsN3
import Derived.Test.YtmenplonaapliaaCThreeFactsN2
import Derived.KernelRfl
section
set_option linter.unusedVariables false
set_option maxRecDepth 100000
set_option maxHeartbeats 4000000
namespace Go.Proofs.Ytmenplonaapliaa.AE
open Go
theorem F.pleachref28_Facts.j11101001100111011111.eq K n0 a0 a1 a2 x0 x1 x2 x3 x4 x5 x6 x7 x8 x9 x10 x11 : F.pleachref28_Facts.j11101001100111011111 K n0 a0 a1 a2 x0 x1 x2 x3 x4 x5 x6 x7 x8 x9 x10 x11 = F.pleachref28_Facts.j11101001100111011111.B (F.pleachref28_Facts.j111010011001111 K n0) a0 a1 a2 x0 x1 x2 x3 x4 x5 x6 x7 x8 x9 x10 x11 := (F.pleachref28_Facts.in_eq K [1, 1, 1, 0, 1, 0, 0, 1, 1, 0, 0, 1, 1, 1, 0, 1, 1, 1, 1, 1] [n0] (F.pleachref28_Facts.j11101001100111011111.st a0 a1 a2 x0 x1 x2 x3 x4 x5 x6 x7 x8 x9 x10 x11)).trans ((show ∀ H, F.pleachref28_Facts.in K H [1, 1, 1, 0, 1, 0, 0, 1, 1, 0, 0, 1, 1, 1, 0, 1, 1, 1, 1, 1] [n0] (F.pleachref28_Facts.j11101001100111011111.st a0 a1 a2 x0 x1 x2 x3 x4 x5 x6 x7 x8 x9 x10 x11) = F.pleachref28_Facts.j11101001100111011111.B (fun a0 a1 a2 x0 x1 x2 x3 x4 x5 x6 x7 x8 x9 x10 x11 => H [1, 1, 1, 0, 1, 0, 0, 1, 1, 0, 0, 1, 1, 1, 1] [n0] (F.pleachref28_Facts.j111010011001111.st a0 a1 a2 x0 x1 x2 x3 x4 x5 x6 x7 x8 x9 x10 x11)) a0 a1 a2 x0 x1 x2 x3 x4 x5 x6 x7 x8 x9 x10 x11 from by intro H; kernel_rfl) (F.pleachref28_Facts.at K))
noncomputable def F.pleachref28_Facts.j111010011001111.B (c0 : (List TFact) → (List TFact) → (List TFact) → (Int) → (Int) → (List TFact) → (List TConflict) → (List TFact) → Option ((List TFact) × (List TConflict))) (a0 : List TFact) (a1 : List TFact) (a2 : List TFact) (x0 : ByteArray) (x1 : Bool) (x2 : Int) (x3 : Int) (x4 : Int) (x5 : List TFact) (x6 : List TConflict) (x7 : Int) (x8 : ByteArray) (x9 : ByteArray) (x10 : ByteArray) (x11 : List TFact) : Option ((List TFact) × (List TConflict)) :=
    (bif (x2 != 0) then (guardK (decide (x6.length + ([(x7, x8, x9, x2)]).length ≤ nmax)) (c0 a0 a1 a2 x3 x4 x5 (x6 ++ [(x7, x8, x9, x2)]) x11)) else (bif x1 then (guardK (decide (x5.length + ([(x7, x8, x9, x0)]).length ≤ nmax)) (c0 a0 a1 a2 x3 x4 (x5 ++ [(x7, x8, x9, x0)]) x6 x11)) else (c0 a0 a1 a2 x3 x4 x5 x6 x11)))
theorem F.pleachref28_Facts.j111010011001111.eq K n0 a0 a1 a2 x0 x1 x2 x3 x4 x5 x6 x7 x8 x9 x10 x11 : F.pleachref28_Facts.j111010011001111 K n0 a0 a1 a2 x0 x1 x2 x3 x4 x5 x6 x7 x8 x9 x10 x11 = F.pleachref28_Facts.j111010011001111.B (F.pleachref28_Facts.j1110100111 K n0) a0 a1 a2 x0 x1 x2 x3 x4 x5 x6 x7 x8 x9 x10 x11 := (F.pleachref28_Facts.in_eq K [1, 1, 1, 0, 1, 0, 0, 1, 1, 0, 0, 1, 1, 1, 1] [n0] (F.pleachref28_Facts.j111010011001111.st a0 a1 a2 x0 x1 x2 x3 x4 x5 x6 x7 x8 x9 x10 x11)).trans ((show ∀ H, F.pleachref28_Facts.in K H [1, 1, 1, 0, 1, 0, 0, 1, 1, 0, 0, 1, 1, 1, 1] [n0] (F.pleachref28_Facts.j111010011001111.st a0 a1 a2 x0 x1 x2 x3 x4 x5 x6 x7 x8 x9 x10 x11) = F.pleachref28_Facts.j111010011001111.B (fun a0 a1 a2 x0 x1 x2 x3 x4 => H [1, 1, 1, 0, 1, 0, 0, 1, 1, 1] [n0] (F.pleachref28_Facts.j1110100111.st a0 a1 a2 x0 x1 x2 x3 x4)) a0 a1 a2 x0 x1 x2 x3 x4 x5 x6 x7 x8 x9 x10 x11 from by intro H; kernel_rfl) (F.pleachref28_Facts.at K))
noncomputable def F.pleachref28_Facts.j1110100111.B (c0 : (List TFact) → (List TFact) → (List TFact) → (Int) → (Int) → (List TFact) → (List TConflict) → (List TFact) → Option ((List TFact) × (List TConflict))) (a0 : List TFact) (a1 : List TFact) (a2 : List TFact) (x0 : Int) (x1 : Int) (x2 : List TFact) (x3 : List TConflict) (x4 : List TFact) : Option ((List TFact) × (List TConflict)) :=
    (c0 a0 a1 a2 x0 (w64 (x1 + 1)) x2 x3 x4)
theorem F.pleachref28_Facts.j1110100111.eq K n0 a0 a1 a2 x0 x1 x2 x3 x4 : F.pleachref28_Facts.j1110100111 K n0 a0 a1 a2 x0 x1 x2 x3 x4 = F.pleachref28_Facts.j1110100111.B (F.pleachref28_Facts.l111010 K n0) a0 a1 a2 x0 x1 x2 x3 x4 := (F.pleachref28_Facts.in_eq K [1, 1, 1, 0, 1, 0, 0, 1, 1, 1] [n0] (F.pleachref28_Facts.j1110100111.st a0 a1 a2 x0 x1 x2 x3 x4)).trans ((show ∀ H, F.pleachref28_Facts.in K H [1, 1, 1, 0, 1, 0, 0, 1, 1, 1] [n0] (F.pleachref28_Facts.j1110100111.st a0 a1 a2 x0 x1 x2 x3 x4) = F.pleachref28_Facts.j1110100111.B (fun a0 a1 a2 x0 x1 x2 x3 x4 => H [1, 1, 1, 0, 1, 0] [n0] (F.pleachref28_Facts.l111010.st a0 a1 a2 x0 x1 x2 x3 x4)) a0 a1 a2 x0 x1 x2 x3 x4 from by intro H; kernel_rfl) (F.pleachref28_Facts.at K))
noncomputable def F.pleachref28_Facts.B (c0 : (List TFact) → (List TFact) → Option ((List TFact))) (c1 : (List TFact) → (List TFact) → (List TFact) → (Int) → (Int) → (List TFact) → (List TConflict) → (List TFact) → Option ((List TFact) × (List TConflict))) (a0 : List TFact) (a1 : List TFact) (a2 : List TFact) : Option ((List TFact) × (List TConflict)) :=
    ((c0 a0 a1).bind fun t0 => ((c0 t0 a2).bind fun t1 => (c1 a0 a1 a2 (t1.length : Int) 0 ([]) ([]) t1)))
theorem F.pleachref28_Facts.eq K a0 a1 a2 : F.pleachref28_Facts (K + 1) a0 a1 a2 = F.pleachref28_Facts.B (F.pleachref27_Both K) (F.pleachref28_Facts.l111010 K K) a0 a1 a2 := (F.pleachref28_Facts.in_main K a0 a1 a2).trans ((show ∀ H, F.pleachref28_Facts.in K H [] [] ⟨slots [.sc (.list sFact a0 false), .sc (.list sFact a1 false), .sc (.list sFact a2 false)] 0, []⟩ = F.pleachref28_Facts.B (F.pleachref27_Both K) (fun a0 a1 a2 x0 x1 x2 x3 x4 => H [1, 1, 1, 0, 1, 0] [K] (F.pleachref28_Facts.l111010.st a0 a1 a2 x0 x1 x2 x3 x4)) a0 a1 a2 from by intro H; kernel_rfl) (F.pleachref28_Facts.at K))
noncomputable def V.pleachref28_Facts.l111010 (a0 : List TFact) (a1 : List TFact) (a2 : List TFact) (x0 : Int) (x1 : Int) (x2 : List TFact) (x3 : List TConflict) (x4 : List TFact) := lim fun v => F.pleachref28_Facts.l111010 (v 0) (v 1) a0 a1 a2 x0 x1 x2 x3 x4
noncomputable def V.pleachref28_Facts.j111010011001110111 (a0 : List TFact) (a1 : List TFact) (a2 : List TFact) (x0 : ByteArray) (x1 : Bool) (x2 : Int) (x3 : Int) (x4 : Bool) (x5 : List TFact) (x6 : List TConflict) (x7 : Int) (x8 : ByteArray) (x9 : ByteArray) (x10 : ByteArray) (x11 : List TFact) := lim fun v => F.pleachref28_Facts.j111010011001110111 (v 0) (v 1) a0 a1 a2 x0 x1 x2 x3 x4 x5 x6 x7 x8 x9 x10 x11
noncomputable def V.pleachref28_Facts.j111010011001110111011 (a0 : List TFact) (a1 : List TFact) (a2 : List TFact) (x0 : ByteArray) (x1 : Bool) (x2 : Int) (x3 : Int) (x4 : Bool) (x5 : List TFact) (x6 : List TConflict) (x7 : Int) (x8 : ByteArray) (x9 : ByteArray) (x10 : ByteArray) (x11 : List TFact) := lim fun v => F.pleachref28_Facts.j111010011001110111011 (v 0) (v 1) a0 a1 a2 x0 x1 x2 x3 x4 x5 x6 x7 x8 x9 x10 x11
noncomputable def V.pleachref28_Facts.j11101001100111011111 (a0 : List TFact) (a1 : List TFact) (a2 : List TFact) (x0 : ByteArray) (x1 : Bool) (x2 : Int) (x3 : Int) (x4 : Bool) (x5 : List TFact) (x6 : List TConflict) (x7 : Int) (x8 : ByteArray) (x9 : ByteArray) (x10 : ByteArray) (x11 : List TFact) := lim fun v => F.pleachref28_Facts.j11101001100111011111 (v 0) (v 1) a0 a1 a2 x0 x1 x2 x3 x4 x5 x6 x7 x8 x9 x10 x11
noncomputable def V.pleachref28_Facts.j111010011001111 (a0 : List TFact) (a1 : List TFact) (a2 : List TFact) (x0 : ByteArray) (x1 : Bool) (x2 : Int) (x3 : Int) (x4 : Int) (x5 : List TFact) (x6 : List TConflict) (x7 : Int) (x8 : ByteArray) (x9 : ByteArray) (x10 : ByteArray) (x11 : List TFact) := lim fun v => F.pleachref28_Facts.j111010011001111 (v 0) (v 1) a0 a1 a2 x0 x1 x2 x3 x4 x5 x6 x7 x8 x9 x10 x11
noncomputable def V.pleachref28_Facts.j1110100111 (a0 : List TFact) (a1 : List TFact) (a2 : List TFact) (x0 : Int) (x1 : Int) (x2 : List TFact) (x3 : List TConflict) (x4 : List TFact) := lim fun v => F.pleachref28_Facts.j1110100111 (v 0) (v 1) a0 a1 a2 x0 x1 x2 x3 x4
noncomputable def V.pleachref28_Facts (a0 : List TFact) (a1 : List TFact) (a2 : List TFact) := lim fun v => F.pleachref28_Facts (v 0) a0 a1 a2
theorem V.pleachref28_Facts.l111010.of a0 a1 a2 x0 x1 x2 x3 x4 {r} (h : F.pleachref28_Facts.l111010.B V.pleachref28_Counts V.pleachref28_Facts.j111010011001111 V.pleachref28_Facts.j111010011001110111 a0 a1 a2 x0 x1 x2 x3 x4 = some r) : V.pleachref28_Facts.l111010 a0 a1 a2 x0 x1 x2 x3 x4 = some r :=
  App.to (App.step 1 (fun v => F.pleachref28_Facts.l111010.eq (v 0) (v 1) a0 a1 a2 x0 x1 x2 x3 x4) (by unfold F.pleachref28_Facts.l111010.B; repeat' first | apply App.guard | apply App.cond | exact App.lim | exact App.val | exact App.no | apply App.meet | apply App.ite | refine App.bind ?_ fun _ => ?_)) h
theorem V.pleachref28_Facts.j111010011001110111.of a0 a1 a2 x0 x1 x2 x3 x4 x5 x6 x7 x8 x9 x10 x11 {r} (h : F.pleachref28_Facts.j111010011001110111.B V.pleachref27_Parted V.pleachref28_there V.pleachref28_Facts.j111010011001110111011 V.pleachref28_Facts.j11101001100111011111 a0 a1 a2 x0 x1 x2 x3 x4 x5 x6 x7 x8 x9 x10 x11 = some r) : V.pleachref28_Facts.j111010011001110111 a0 a1 a2 x0 x1 x2 x3 x4 x5 x6 x7 x8 x9 x10 x11 = some r :=
  App.to (App.same (fun v => F.pleachref28_Facts.j111010011001110111.eq (v 0) (v 1) a0 a1 a2 x0 x1 x2 x3 x4 x5 x6 x7 x8 x9 x10 x11) (by unfold F.pleachref28_Facts.j111010011001110111.B; repeat' first | apply App.guard | apply App.cond | exact App.lim | exact App.val | exact App.no | apply App.meet | apply App.ite | refine App.bind ?_ fun _ => ?_)) h
theorem V.pleachref28_Facts.j111010011001110111011.of a0 a1 a2 x0 x1 x2 x3 x4 x5 x6 x7 x8 x9 x10 x11 {r} (h : F.pleachref28_Facts.j111010011001110111011.B V.pleachref28_Facts.j111010011001111 a0 a1 a2 x0 x1 x2 x3 x4 x5 x6 x7 x8 x9 x10 x11 = some r) : V.pleachref28_Facts.j111010011001110111011 a0 a1 a2 x0 x1 x2 x3 x4 x5 x6 x7 x8 x9 x10 x11 = some r :=
  App.to (App.same (fun v => F.pleachref28_Facts.j111010011001110111011.eq (v 0) (v 1) a0 a1 a2 x0 x1 x2 x3 x4 x5 x6 x7 x8 x9 x10 x11) (by unfold F.pleachref28_Facts.j111010011001110111011.B; repeat' first | apply App.guard | apply App.cond | exact App.lim | exact App.val | exact App.no | apply App.meet | apply App.ite | refine App.bind ?_ fun _ => ?_)) h
theorem V.pleachref28_Facts.j11101001100111011111.of a0 a1 a2 x0 x1 x2 x3 x4 x5 x6 x7 x8 x9 x10 x11 {r} (h : F.pleachref28_Facts.j11101001100111011111.B V.pleachref28_Facts.j111010011001111 a0 a1 a2 x0 x1 x2 x3 x4 x5 x6 x7 x8 x9 x10 x11 = some r) : V.pleachref28_Facts.j11101001100111011111 a0 a1 a2 x0 x1 x2 x3 x4 x5 x6 x7 x8 x9 x10 x11 = some r :=
  App.to (App.same (fun v => F.pleachref28_Facts.j11101001100111011111.eq (v 0) (v 1) a0 a1 a2 x0 x1 x2 x3 x4 x5 x6 x7 x8 x9 x10 x11) (by unfold F.pleachref28_Facts.j11101001100111011111.B; repeat' first | apply App.guard | apply App.cond | exact App.lim | exact App.val | exact App.no | apply App.meet | apply App.ite | refine App.bind ?_ fun _ => ?_)) h
theorem V.pleachref28_Facts.j111010011001111.of a0 a1 a2 x0 x1 x2 x3 x4 x5 x6 x7 x8 x9 x10 x11 {r} (h : F.pleachref28_Facts.j111010011001111.B V.pleachref28_Facts.j1110100111 a0 a1 a2 x0 x1 x2 x3 x4 x5 x6 x7 x8 x9 x10 x11 = some r) : V.pleachref28_Facts.j111010011001111 a0 a1 a2 x0 x1 x2 x3 x4 x5 x6 x7 x8 x9 x10 x11 = some r :=
  App.to (App.same (fun v => F.pleachref28_Facts.j111010011001111.eq (v 0) (v 1) a0 a1 a2 x0 x1 x2 x3 x4 x5 x6 x7 x8 x9 x10 x11) (by unfold F.pleachref28_Facts.j111010011001111.B; repeat' first | apply App.guard | apply App.cond | exact App.lim | exact App.val | exact App.no | apply App.meet | apply App.ite | refine App.bind ?_ fun _ => ?_)) h
theorem V.pleachref28_Facts.j1110100111.of a0 a1 a2 x0 x1 x2 x3 x4 {r} (h : F.pleachref28_Facts.j1110100111.B V.pleachref28_Facts.l111010 a0 a1 a2 x0 x1 x2 x3 x4 = some r) : V.pleachref28_Facts.j1110100111 a0 a1 a2 x0 x1 x2 x3 x4 = some r :=
  App.to (App.same (fun v => F.pleachref28_Facts.j1110100111.eq (v 0) (v 1) a0 a1 a2 x0 x1 x2 x3 x4) (by unfold F.pleachref28_Facts.j1110100111.B; repeat' first | apply App.guard | apply App.cond | exact App.lim | exact App.val | exact App.no | apply App.meet | apply App.ite | refine App.bind ?_ fun _ => ?_)) h
theorem V.pleachref28_Facts.of a0 a1 a2 {r} (h : F.pleachref28_Facts.B V.pleachref27_Both V.pleachref28_Facts.l111010 a0 a1 a2 = some r) : V.pleachref28_Facts a0 a1 a2 = some r :=
  App.to (App.step 0 (fun v => F.pleachref28_Facts.eq (v 0) a0 a1 a2) (by unfold F.pleachref28_Facts.B; repeat' first | apply App.guard | apply App.cond | exact App.lim | exact (App.enter 1 App.lim) | exact App.val | exact App.no | apply App.meet | apply App.ite | refine App.bind ?_ fun _ => ?_)) h
noncomputable def F.pleachref27_Same (K : Nat) (a0 : List TFact) (a1 : List TFact) : Option (Bool) := evFn Try.prog sg K 12 [.sc (.list sFact a0 false), .sc (.list sFact a1 false)] []
noncomputable def F.pleachref27_Same.at (K : Nat) (p ns : List Nat) (s : St) : Option (Bool) := atFn Try.prog sg K 12 0 p ns s
noncomputable def F.pleachref27_Same.in (K : Nat) (H : List Nat → List Nat → St → Option (Bool)) (p ns : List Nat) (s : St) : Option (Bool) := inFn Try.prog sg K 12 0 [] H p ns s
theorem F.pleachref27_Same.in_eq K p ns s : F.pleachref27_Same.at K p ns s = F.pleachref27_Same.in K (F.pleachref27_Same.at K) p ns s := atFn_eq (P := Try.prog) (sg := sg) (K := K) (f := 12) (m := 0) [] p ns s
theorem F.pleachref27_Same.in_main K a0 a1 : F.pleachref27_Same (K + 1) a0 a1 = F.pleachref27_Same.in K (F.pleachref27_Same.at K) [] [] ⟨slots [.sc (.list sFact a0 false), .sc (.list sFact a1 false)] 0, []⟩ := evFn_eq (P := Try.prog) (sg := sg) (K := K) (f := 12) (args := [.sc (.list sFact a0 false), .sc (.list sFact a1 false)]) (σ := []) [] (by kernel_rfl)
def F.pleachref27_Same.l11010.st (a0 : List TFact) (a1 : List TFact) (x0 : Int) : St := ⟨[(0, vL sFact a0), (1, vL sFact a1), (12, vI (a0.length : Int)), (13, vI x0)], []⟩
noncomputable def F.pleachref27_Same.l11010 (K n0 : Nat) (a0 : List TFact) (a1 : List TFact) (x0 : Int) := F.pleachref27_Same.at K [1, 1, 0, 1, 0] [n0] (F.pleachref27_Same.l11010.st a0 a1 x0)
noncomputable def F.pleachref27_Same.l11010.B (c0 : (List TFact) → (List TFact) → (Int) → Option (Bool)) (a0 : List TFact) (a1 : List TFact) (x0 : Int) : Option (Bool) :=
    (bif (decide (x0 < (a0.length : Int))) then (guardK (decide (0 ≤ x0) && decide (x0 < (a0.length : Int))) (guardK (decide (0 ≤ x0) && decide (x0 < (a1.length : Int))) (bif (!(((rd sFact a0 x0.toNat).1 == (rd sFact a1 x0.toNat).1) && ((strEq (((rd sFact a0 x0.toNat).2).1) (((rd sFact a1 x0.toNat).2).1)) && ((strEq ((((rd sFact a0 x0.toNat).2).2).1) ((((rd sFact a1 x0.toNat).2).2).1)) && ((strEq ((((rd sFact a0 x0.toNat).2).2).2) ((((rd sFact a1 x0.toNat).2).2).2)) && true))))) then (some false) else (c0 a0 a1 (w64 (x0 + 1)))))) else (some true))
theorem F.pleachref27_Same.l11010.eq K n0 a0 a1 x0 : F.pleachref27_Same.l11010 K (n0 + 1) a0 a1 x0 = F.pleachref27_Same.l11010.B (F.pleachref27_Same.l11010 K n0) a0 a1 x0 := (F.pleachref27_Same.in_eq K [1, 1, 0, 1, 0] [n0 + 1] (F.pleachref27_Same.l11010.st a0 a1 x0)).trans ((show ∀ H, F.pleachref27_Same.in K H [1, 1, 0, 1, 0] [n0 + 1] (F.pleachref27_Same.l11010.st a0 a1 x0) = F.pleachref27_Same.l11010.B (fun a0 a1 x0 => H [1, 1, 0, 1, 0] [n0] (F.pleachref27_Same.l11010.st a0 a1 x0)) a0 a1 x0 from by intro H; kernel_rfl) (F.pleachref27_Same.at K))
noncomputable def F.pleachref27_Same.B (c0 : (List TFact) → (List TFact) → (Int) → Option (Bool)) (a0 : List TFact) (a1 : List TFact) : Option (Bool) :=
    (bif ((a0.length : Int) != (a1.length : Int)) then (some false) else (c0 a0 a1 0))
theorem F.pleachref27_Same.eq K a0 a1 : F.pleachref27_Same (K + 1) a0 a1 = F.pleachref27_Same.B (F.pleachref27_Same.l11010 K K) a0 a1 := (F.pleachref27_Same.in_main K a0 a1).trans ((show ∀ H, F.pleachref27_Same.in K H [] [] ⟨slots [.sc (.list sFact a0 false), .sc (.list sFact a1 false)] 0, []⟩ = F.pleachref27_Same.B (fun a0 a1 x0 => H [1, 1, 0, 1, 0] [K] (F.pleachref27_Same.l11010.st a0 a1 x0)) a0 a1 from by intro H; kernel_rfl) (F.pleachref27_Same.at K))
noncomputable def V.pleachref27_Same.l11010 (a0 : List TFact) (a1 : List TFact) (x0 : Int) := lim fun v => F.pleachref27_Same.l11010 (v 0) (v 1) a0 a1 x0
noncomputable def V.pleachref27_Same (a0 : List TFact) (a1 : List TFact) := lim fun v => F.pleachref27_Same (v 0) a0 a1
theorem V.pleachref27_Same.l11010.of a0 a1 x0 {r} (h : F.pleachref27_Same.l11010.B V.pleachref27_Same.l11010 a0 a1 x0 = some r) : V.pleachref27_Same.l11010 a0 a1 x0 = some r :=
  App.to (App.step 1 (fun v => F.pleachref27_Same.l11010.eq (v 0) (v 1) a0 a1 x0) (by unfold F.pleachref27_Same.l11010.B; repeat' first | apply App.guard | apply App.cond | exact App.lim | exact App.val | exact App.no | apply App.meet | apply App.ite | refine App.bind ?_ fun _ => ?_)) h
theorem V.pleachref27_Same.of a0 a1 {r} (h : F.pleachref27_Same.B V.pleachref27_Same.l11010 a0 a1 = some r) : V.pleachref27_Same a0 a1 = some r :=
  App.to (App.step 0 (fun v => F.pleachref27_Same.eq (v 0) a0 a1) (by unfold F.pleachref27_Same.B; repeat' first | apply App.guard | apply App.cond | exact App.lim | exact (App.enter 1 App.lim) | exact App.val | exact App.no | apply App.meet | apply App.ite | refine App.bind ?_ fun _ => ?_)) h
noncomputable def F.pleachref28_Same (K : Nat) (a0 : List TConflict) (a1 : List TConflict) : Option (Bool) := evFn Try.prog sg K 20 [.sc (.list sConflict a0 false), .sc (.list sConflict a1 false)] []
noncomputable def F.pleachref28_Same.at (K : Nat) (p ns : List Nat) (s : St) : Option (Bool) := atFn Try.prog sg K 20 0 p ns s
noncomputable def F.pleachref28_Same.in (K : Nat) (H : List Nat → List Nat → St → Option (Bool)) (p ns : List Nat) (s : St) : Option (Bool) := inFn Try.prog sg K 20 0 [] H p ns s
theorem F.pleachref28_Same.in_eq K p ns s : F.pleachref28_Same.at K p ns s = F.pleachref28_Same.in K (F.pleachref28_Same.at K) p ns s := atFn_eq (P := Try.prog) (sg := sg) (K := K) (f := 20) (m := 0) [] p ns s
theorem F.pleachref28_Same.in_main K a0 a1 : F.pleachref28_Same (K + 1) a0 a1 = F.pleachref28_Same.in K (F.pleachref28_Same.at K) [] [] ⟨slots [.sc (.list sConflict a0 false), .sc (.list sConflict a1 false)] 0, []⟩ := evFn_eq (P := Try.prog) (sg := sg) (K := K) (f := 20) (args := [.sc (.list sConflict a0 false), .sc (.list sConflict a1 false)]) (σ := []) [] (by kernel_rfl)
def F.pleachref28_Same.l11010.st (a0 : List TConflict) (a1 : List TConflict) (x0 : Int) : St := ⟨[(0, vL sConflict a0), (1, vL sConflict a1), (12, vI (a0.length : Int)), (13, vI x0)], []⟩
noncomputable def F.pleachref28_Same.l11010 (K n0 : Nat) (a0 : List TConflict) (a1 : List TConflict) (x0 : Int) := F.pleachref28_Same.at K [1, 1, 0, 1, 0] [n0] (F.pleachref28_Same.l11010.st a0 a1 x0)
noncomputable def F.pleachref28_Same.l11010.B (c0 : (List TConflict) → (List TConflict) → (Int) → Option (Bool)) (a0 : List TConflict) (a1 : List TConflict) (x0 : Int) : Option (Bool) :=
    (bif (decide (x0 < (a0.length : Int))) then (guardK (decide (0 ≤ x0) && decide (x0 < (a0.length : Int))) (guardK (decide (0 ≤ x0) && decide (x0 < (a1.length : Int))) (bif (!(((rd sConflict a0 x0.toNat).1 == (rd sConflict a1 x0.toNat).1) && ((strEq (((rd sConflict a0 x0.toNat).2).1) (((rd sConflict a1 x0.toNat).2).1)) && ((strEq ((((rd sConflict a0 x0.toNat).2).2).1) ((((rd sConflict a1 x0.toNat).2).2).1)) && (((((rd sConflict a0 x0.toNat).2).2).2 == (((rd sConflict a1 x0.toNat).2).2).2) && true))))) then (some false) else (c0 a0 a1 (w64 (x0 + 1)))))) else (some true))
theorem F.pleachref28_Same.l11010.eq K n0 a0 a1 x0 : F.pleachref28_Same.l11010 K (n0 + 1) a0 a1 x0 = F.pleachref28_Same.l11010.B (F.pleachref28_Same.l11010 K n0) a0 a1 x0 := (F.pleachref28_Same.in_eq K [1, 1, 0, 1, 0] [n0 + 1] (F.pleachref28_Same.l11010.st a0 a1 x0)).trans ((show ∀ H, F.pleachref28_Same.in K H [1, 1, 0, 1, 0] [n0 + 1] (F.pleachref28_Same.l11010.st a0 a1 x0) = F.pleachref28_Same.l11010.B (fun a0 a1 x0 => H [1, 1, 0, 1, 0] [n0] (F.pleachref28_Same.l11010.st a0 a1 x0)) a0 a1 x0 from by intro H; kernel_rfl) (F.pleachref28_Same.at K))
noncomputable def F.pleachref28_Same.B (c0 : (List TConflict) → (List TConflict) → (Int) → Option (Bool)) (a0 : List TConflict) (a1 : List TConflict) : Option (Bool) :=
    (bif ((a0.length : Int) != (a1.length : Int)) then (some false) else (c0 a0 a1 0))
theorem F.pleachref28_Same.eq K a0 a1 : F.pleachref28_Same (K + 1) a0 a1 = F.pleachref28_Same.B (F.pleachref28_Same.l11010 K K) a0 a1 := (F.pleachref28_Same.in_main K a0 a1).trans ((show ∀ H, F.pleachref28_Same.in K H [] [] ⟨slots [.sc (.list sConflict a0 false), .sc (.list sConflict a1 false)] 0, []⟩ = F.pleachref28_Same.B (fun a0 a1 x0 => H [1, 1, 0, 1, 0] [K] (F.pleachref28_Same.l11010.st a0 a1 x0)) a0 a1 from by intro H; kernel_rfl) (F.pleachref28_Same.at K))
noncomputable def V.pleachref28_Same.l11010 (a0 : List TConflict) (a1 : List TConflict) (x0 : Int) := lim fun v => F.pleachref28_Same.l11010 (v 0) (v 1) a0 a1 x0
noncomputable def V.pleachref28_Same (a0 : List TConflict) (a1 : List TConflict) := lim fun v => F.pleachref28_Same (v 0) a0 a1
theorem V.pleachref28_Same.l11010.of a0 a1 x0 {r} (h : F.pleachref28_Same.l11010.B V.pleachref28_Same.l11010 a0 a1 x0 = some r) : V.pleachref28_Same.l11010 a0 a1 x0 = some r :=
  App.to (App.step 1 (fun v => F.pleachref28_Same.l11010.eq (v 0) (v 1) a0 a1 x0) (by unfold F.pleachref28_Same.l11010.B; repeat' first | apply App.guard | apply App.cond | exact App.lim | exact App.val | exact App.no | apply App.meet | apply App.ite | refine App.bind ?_ fun _ => ?_)) h
theorem V.pleachref28_Same.of a0 a1 {r} (h : F.pleachref28_Same.B V.pleachref28_Same.l11010 a0 a1 = some r) : V.pleachref28_Same a0 a1 = some r :=
  App.to (App.step 0 (fun v => F.pleachref28_Same.eq (v 0) a0 a1) (by unfold F.pleachref28_Same.B; repeat' first | apply App.guard | apply App.cond | exact App.lim | exact (App.enter 1 App.lim) | exact App.val | exact App.no | apply App.meet | apply App.ite | refine App.bind ?_ fun _ => ?_)) h
noncomputable def F.pleachlaw28_ThreeFacts (K : Nat) (a0 : List TFact) (a1 : List TFact) (a2 : List TFact) : Option (Bool) := evFn Try.prog sg K 4 [.sc (.list sFact a0 false), .sc (.list sFact a1 false), .sc (.list sFact a2 false)] []
noncomputable def F.pleachlaw28_ThreeFacts.B (c0 : (List TFact) → Option (Bool)) (c1 : Option (Bool)) (c2 : (List TFact) → Option (Bool)) (c3 : (List TFact) → (List TFact) → (List TFact) → Option ((List TFact) × (List TConflict))) (c4 : (List TFact) → (List TFact) → (List TFact) → Option ((List TFact) × (List TConflict))) (c5 : (List TFact) → (List TFact) → Option (Bool)) (c6 : (List TConflict) → (List TConflict) → Option (Bool)) (a0 : List TFact) (a1 : List TFact) (a2 : List TFact) : Option (Bool) :=
    ((c0 a0).bind fun t0 => (bif (!t0) then ((c1).bind fun t1 => (some t1)) else ((c0 a1).bind fun t2 => (bif (!t2) then ((c1).bind fun t3 => (some t3)) else ((c0 a2).bind fun t4 => (bif (!t4) then ((c1).bind fun t5 => (some t5)) else ((c2 a0).bind fun t6 => (bif (!t6) then ((c1).bind fun t7 => (some t7)) else ((c2 a1).bind fun t8 => (bif (!t8) then ((c1).bind fun t9 => (some t9)) else ((c2 a2).bind fun t10 => (bif (!t10) then ((c1).bind fun t11 => (some t11)) else ((c3 a0 a1 a2).bind fun t12 => ((c4 a0 a1 a2).bind fun t13 => ((c5 t12.1 t13.1).bind fun t14 => (bif t14 then ((c6 t12.2 t13.2).bind fun t15 => (bif t15 then ((c1).bind fun t16 => (some t16)) else (some false))) else (some false)))))))))))))))))
theorem F.pleachlaw28_ThreeFacts.eq K a0 a1 a2 : F.pleachlaw28_ThreeFacts (K + 1) a0 a1 a2 = F.pleachlaw28_ThreeFacts.B (F.pleachref27_Few K) (F.pleachlaw28_awake K) (F.pleachref27_Rises K) (F.three_Facts K) (F.pleachref28_Facts K) (F.pleachref27_Same K) (F.pleachref28_Same K) a0 a1 a2 := by kernel_rfl
noncomputable def V.pleachlaw28_ThreeFacts (a0 : List TFact) (a1 : List TFact) (a2 : List TFact) := lim fun v => F.pleachlaw28_ThreeFacts (v 0) a0 a1 a2
theorem V.pleachlaw28_ThreeFacts.of a0 a1 a2 {r} (h : F.pleachlaw28_ThreeFacts.B V.pleachref27_Few V.pleachlaw28_awake V.pleachref27_Rises V.three_Facts V.pleachref28_Facts V.pleachref27_Same V.pleachref28_Same a0 a1 a2 = some r) : V.pleachlaw28_ThreeFacts a0 a1 a2 = some r :=
  App.to (App.step 0 (fun v => F.pleachlaw28_ThreeFacts.eq (v 0) a0 a1 a2) (by unfold F.pleachlaw28_ThreeFacts.B; repeat' first | apply App.guard | apply App.cond | exact App.lim | exact App.val | exact App.no | apply App.meet | apply App.ite | refine App.bind ?_ fun _ => ?_)) h
noncomputable def F.pleachref28_Less (K : Nat) (a0 : TConflict) (a1 : TConflict) : Option (Bool) := evFn Try.prog sg K 21 [.agg [.val (.int .i64 a0.1), .val (.string a0.2.1), .val (.string a0.2.2.1), .val (.int .i64 a0.2.2.2)], .agg [.val (.int .i64 a1.1), .val (.string a1.2.1), .val (.string a1.2.2.1), .val (.int .i64 a1.2.2.2)]] []
noncomputable def F.pleachref28_Less.B (c0 : (TFact) → (TFact) → Option (Bool)) (a0 : TConflict) (a1 : TConflict) : Option (Bool) :=
    (bif ((a0.1 == a1.1) && ((strEq a0.2.1 a1.2.1) && ((strEq a0.2.2.1 a1.2.2.1) && ((strEq (⟨#[]⟩ : ByteArray) (⟨#[]⟩ : ByteArray)) && true)))) then (some (decide (a0.2.2.2 < a1.2.2.2))) else ((c0 (a0.1, a0.2.1, a0.2.2.1, (⟨#[]⟩ : ByteArray)) (a1.1, a1.2.1, a1.2.2.1, (⟨#[]⟩ : ByteArray))).bind fun t0 => (some t0)))
theorem F.pleachref28_Less.eq K a0 a1 : F.pleachref28_Less (K + 1) a0 a1 = F.pleachref28_Less.B (F.pleachref27_Less K) a0 a1 := by kernel_rfl
noncomputable def V.pleachref28_Less (a0 : TConflict) (a1 : TConflict) := lim fun v => F.pleachref28_Less (v 0) a0 a1
theorem V.pleachref28_Less.of a0 a1 {r} (h : F.pleachref28_Less.B V.pleachref27_Less a0 a1 = some r) : V.pleachref28_Less a0 a1 = some r :=
  App.to (App.step 0 (fun v => F.pleachref28_Less.eq (v 0) a0 a1) (by unfold F.pleachref28_Less.B; repeat' first | apply App.guard | apply App.cond | exact App.lim | exact App.val | exact App.no | apply App.meet | apply App.ite | refine App.bind ?_ fun _ => ?_)) h
noncomputable def F.pleachref28_Show (K : Nat) (a0 : TConflict) : Option (ByteArray) := evFn Try.prog sg K 23 [.agg [.val (.int .i64 a0.1), .val (.string a0.2.1), .val (.string a0.2.2.1), .val (.int .i64 a0.2.2.2)]] []
noncomputable def F.pleachref28_Show.at (K : Nat) (p ns : List Nat) (s : St) : Option (ByteArray) := atFn Try.prog sg K 23 0 p ns s
noncomputable def F.pleachref28_Show.in (K : Nat) (H : List Nat → List Nat → St → Option (ByteArray)) (p ns : List Nat) (s : St) : Option (ByteArray) := inFn Try.prog sg K 23 0 [[1, 1, 1, 0, 1], [1, 1, 1, 1, 1, 1]] H p ns s
theorem F.pleachref28_Show.in_eq K p ns s : F.pleachref28_Show.at K p ns s = F.pleachref28_Show.in K (F.pleachref28_Show.at K) p ns s := atFn_eq (P := Try.prog) (sg := sg) (K := K) (f := 23) (m := 0) [[1, 1, 1, 0, 1], [1, 1, 1, 1, 1, 1]] p ns s
theorem F.pleachref28_Show.in_main K a0 : F.pleachref28_Show (K + 1) a0 = F.pleachref28_Show.in K (F.pleachref28_Show.at K) [] [] ⟨slots [.agg [.val (.int .i64 a0.1), .val (.string a0.2.1), .val (.string a0.2.2.1), .val (.int .i64 a0.2.2.2)]] 0, []⟩ := evFn_eq (P := Try.prog) (sg := sg) (K := K) (f := 23) (args := [.agg [.val (.int .i64 a0.1), .val (.string a0.2.1), .val (.string a0.2.2.1), .val (.int .i64 a0.2.2.2)]]) (σ := []) [[1, 1, 1, 0, 1], [1, 1, 1, 1, 1, 1]] (by kernel_rfl)
def F.pleachref28_Show.j11101.st (a0 : TConflict) (x0 : Bool) : St := ⟨[(1, .one (.sc (.ref 0 0))), (3, .one (.sc (.own 1 none))), (4, .one (.sc (.own 2 none))), (25, vB x0)], [.cells 46 [.val (.int .i64 a0.1), .val (.string a0.2.1), .val (.string a0.2.2.1), .val (.int .i64 a0.2.2.2)], .elems .str ([(⟨#[110, 111, 100, 101]⟩ : ByteArray), (⟨#[108, 97, 98, 101, 108]⟩ : ByteArray), (⟨#[112, 114, 111, 112, 101, 114, 116, 121]⟩ : ByteArray), (⟨#[101, 100, 103, 101]⟩ : ByteArray), (⟨#[109, 97, 114, 107]⟩ : ByteArray), (⟨#[97, 116, 116, 114, 105, 98, 117, 116, 101]⟩ : ByteArray)]), .elems .str ([(⟨#[98, 111, 116, 104]⟩ : ByteArray), (⟨#[101, 110, 100]⟩ : ByteArray), (⟨#[115, 116, 114, 97, 121]⟩ : ByteArray)])]⟩
noncomputable def F.pleachref28_Show.j11101 (K : Nat) (a0 : TConflict) (x0 : Bool) := F.pleachref28_Show.at K [1, 1, 1, 0, 1] [] (F.pleachref28_Show.j11101.st a0 x0)
def F.pleachref28_Show.j111111.st (a0 : TConflict) (x0 : ByteArray) : St := ⟨[(5, vS x0)], []⟩
noncomputable def F.pleachref28_Show.j111111 (K : Nat) (a0 : TConflict) (x0 : ByteArray) := F.pleachref28_Show.at K [1, 1, 1, 1, 1, 1] [] (F.pleachref28_Show.j111111.st a0 x0)
noncomputable def F.pleachref28_Show.j11101.B (c0 : (TConflict) → (ByteArray) → Option (ByteArray)) (a0 : TConflict) (x0 : Bool) : Option (ByteArray) :=
    (bif x0 then (some (⟨#[]⟩ : ByteArray)) else (guardK (decide (0 ≤ (w64 (a0.2.2.2 - 1))) && decide ((w64 (a0.2.2.2 - 1)) < (([(⟨#[98, 111, 116, 104]⟩ : ByteArray), (⟨#[101, 110, 100]⟩ : ByteArray), (⟨#[115, 116, 114, 97, 121]⟩ : ByteArray)]).length : Int))) (guardK (decide ((rd .str ([(⟨#[98, 111, 116, 104]⟩ : ByteArray), (⟨#[101, 110, 100]⟩ : ByteArray), (⟨#[115, 116, 114, 97, 121]⟩ : ByteArray)]) ((w64 (a0.2.2.2 - 1)).toNat)).size + (⟨#[32]⟩ : ByteArray).size ≤ i64max)) (guardK (decide (0 ≤ (w64 (a0.1 - 1))) && decide ((w64 (a0.1 - 1)) < (([(⟨#[110, 111, 100, 101]⟩ : ByteArray), (⟨#[108, 97, 98, 101, 108]⟩ : ByteArray), (⟨#[112, 114, 111, 112, 101, 114, 116, 121]⟩ : ByteArray), (⟨#[101, 100, 103, 101]⟩ : ByteArray), (⟨#[109, 97, 114, 107]⟩ : ByteArray), (⟨#[97, 116, 116, 114, 105, 98, 117, 116, 101]⟩ : ByteArray)]).length : Int))) (guardK (decide (((rd .str ([(⟨#[98, 111, 116, 104]⟩ : ByteArray), (⟨#[101, 110, 100]⟩ : ByteArray), (⟨#[115, 116, 114, 97, 121]⟩ : ByteArray)]) ((w64 (a0.2.2.2 - 1)).toNat)) ++ (⟨#[32]⟩ : ByteArray)).size + (rd .str ([(⟨#[110, 111, 100, 101]⟩ : ByteArray), (⟨#[108, 97, 98, 101, 108]⟩ : ByteArray), (⟨#[112, 114, 111, 112, 101, 114, 116, 121]⟩ : ByteArray), (⟨#[101, 100, 103, 101]⟩ : ByteArray), (⟨#[109, 97, 114, 107]⟩ : ByteArray), (⟨#[97, 116, 116, 114, 105, 98, 117, 116, 101]⟩ : ByteArray)]) ((w64 (a0.1 - 1)).toNat)).size ≤ i64max)) (guardK (decide ((((rd .str ([(⟨#[98, 111, 116, 104]⟩ : ByteArray), (⟨#[101, 110, 100]⟩ : ByteArray), (⟨#[115, 116, 114, 97, 121]⟩ : ByteArray)]) ((w64 (a0.2.2.2 - 1)).toNat)) ++ (⟨#[32]⟩ : ByteArray)) ++ (rd .str ([(⟨#[110, 111, 100, 101]⟩ : ByteArray), (⟨#[108, 97, 98, 101, 108]⟩ : ByteArray), (⟨#[112, 114, 111, 112, 101, 114, 116, 121]⟩ : ByteArray), (⟨#[101, 100, 103, 101]⟩ : ByteArray), (⟨#[109, 97, 114, 107]⟩ : ByteArray), (⟨#[97, 116, 116, 114, 105, 98, 117, 116, 101]⟩ : ByteArray)]) ((w64 (a0.1 - 1)).toNat))).size + (⟨#[32]⟩ : ByteArray).size ≤ i64max)) (guardK (decide (((((rd .str ([(⟨#[98, 111, 116, 104]⟩ : ByteArray), (⟨#[101, 110, 100]⟩ : ByteArray), (⟨#[115, 116, 114, 97, 121]⟩ : ByteArray)]) ((w64 (a0.2.2.2 - 1)).toNat)) ++ (⟨#[32]⟩ : ByteArray)) ++ (rd .str ([(⟨#[110, 111, 100, 101]⟩ : ByteArray), (⟨#[108, 97, 98, 101, 108]⟩ : ByteArray), (⟨#[112, 114, 111, 112, 101, 114, 116, 121]⟩ : ByteArray), (⟨#[101, 100, 103, 101]⟩ : ByteArray), (⟨#[109, 97, 114, 107]⟩ : ByteArray), (⟨#[97, 116, 116, 114, 105, 98, 117, 116, 101]⟩ : ByteArray)]) ((w64 (a0.1 - 1)).toNat))) ++ (⟨#[32]⟩ : ByteArray)).size + a0.2.1.size ≤ i64max)) (bif (!strEq a0.2.2.1 (⟨#[]⟩ : ByteArray)) then (guardK (decide ((((((rd .str ([(⟨#[98, 111, 116, 104]⟩ : ByteArray), (⟨#[101, 110, 100]⟩ : ByteArray), (⟨#[115, 116, 114, 97, 121]⟩ : ByteArray)]) ((w64 (a0.2.2.2 - 1)).toNat)) ++ (⟨#[32]⟩ : ByteArray)) ++ (rd .str ([(⟨#[110, 111, 100, 101]⟩ : ByteArray), (⟨#[108, 97, 98, 101, 108]⟩ : ByteArray), (⟨#[112, 114, 111, 112, 101, 114, 116, 121]⟩ : ByteArray), (⟨#[101, 100, 103, 101]⟩ : ByteArray), (⟨#[109, 97, 114, 107]⟩ : ByteArray), (⟨#[97, 116, 116, 114, 105, 98, 117, 116, 101]⟩ : ByteArray)]) ((w64 (a0.1 - 1)).toNat))) ++ (⟨#[32]⟩ : ByteArray)) ++ a0.2.1).size + (⟨#[32]⟩ : ByteArray).size ≤ i64max)) (guardK (decide (((((((rd .str ([(⟨#[98, 111, 116, 104]⟩ : ByteArray), (⟨#[101, 110, 100]⟩ : ByteArray), (⟨#[115, 116, 114, 97, 121]⟩ : ByteArray)]) ((w64 (a0.2.2.2 - 1)).toNat)) ++ (⟨#[32]⟩ : ByteArray)) ++ (rd .str ([(⟨#[110, 111, 100, 101]⟩ : ByteArray), (⟨#[108, 97, 98, 101, 108]⟩ : ByteArray), (⟨#[112, 114, 111, 112, 101, 114, 116, 121]⟩ : ByteArray), (⟨#[101, 100, 103, 101]⟩ : ByteArray), (⟨#[109, 97, 114, 107]⟩ : ByteArray), (⟨#[97, 116, 116, 114, 105, 98, 117, 116, 101]⟩ : ByteArray)]) ((w64 (a0.1 - 1)).toNat))) ++ (⟨#[32]⟩ : ByteArray)) ++ a0.2.1) ++ (⟨#[32]⟩ : ByteArray)).size + a0.2.2.1.size ≤ i64max)) (c0 a0 (((((((rd .str ([(⟨#[98, 111, 116, 104]⟩ : ByteArray), (⟨#[101, 110, 100]⟩ : ByteArray), (⟨#[115, 116, 114, 97, 121]⟩ : ByteArray)]) ((w64 (a0.2.2.2 - 1)).toNat)) ++ (⟨#[32]⟩ : ByteArray)) ++ (rd .str ([(⟨#[110, 111, 100, 101]⟩ : ByteArray), (⟨#[108, 97, 98, 101, 108]⟩ : ByteArray), (⟨#[112, 114, 111, 112, 101, 114, 116, 121]⟩ : ByteArray), (⟨#[101, 100, 103, 101]⟩ : ByteArray), (⟨#[109, 97, 114, 107]⟩ : ByteArray), (⟨#[97, 116, 116, 114, 105, 98, 117, 116, 101]⟩ : ByteArray)]) ((w64 (a0.1 - 1)).toNat))) ++ (⟨#[32]⟩ : ByteArray)) ++ a0.2.1) ++ (⟨#[32]⟩ : ByteArray)) ++ a0.2.2.1)))) else (c0 a0 (((((rd .str ([(⟨#[98, 111, 116, 104]⟩ : ByteArray), (⟨#[101, 110, 100]⟩ : ByteArray), (⟨#[115, 116, 114, 97, 121]⟩ : ByteArray)]) ((w64 (a0.2.2.2 - 1)).toNat)) ++ (⟨#[32]⟩ : ByteArray)) ++ (rd .str ([(⟨#[110, 111, 100, 101]⟩ : ByteArray), (⟨#[108, 97, 98, 101, 108]⟩ : ByteArray), (⟨#[112, 114, 111, 112, 101, 114, 116, 121]⟩ : ByteArray), (⟨#[101, 100, 103, 101]⟩ : ByteArray), (⟨#[109, 97, 114, 107]⟩ : ByteArray), (⟨#[97, 116, 116, 114, 105, 98, 117, 116, 101]⟩ : ByteArray)]) ((w64 (a0.1 - 1)).toNat))) ++ (⟨#[32]⟩ : ByteArray)) ++ a0.2.1))))))))))
theorem F.pleachref28_Show.j11101.eq K a0 x0 : F.pleachref28_Show.j11101 K a0 x0 = F.pleachref28_Show.j11101.B (F.pleachref28_Show.j111111 K) a0 x0 := (F.pleachref28_Show.in_eq K [1, 1, 1, 0, 1] [] (F.pleachref28_Show.j11101.st a0 x0)).trans ((show ∀ H, F.pleachref28_Show.in K H [1, 1, 1, 0, 1] [] (F.pleachref28_Show.j11101.st a0 x0) = F.pleachref28_Show.j11101.B (fun a0 x0 => H [1, 1, 1, 1, 1, 1] [] (F.pleachref28_Show.j111111.st a0 x0)) a0 x0 from by intro H; kernel_rfl) (F.pleachref28_Show.at K))
noncomputable def F.pleachref28_Show.j111111.B (a0 : TConflict) (x0 : ByteArray) : Option (ByteArray) :=
    (some x0)
theorem F.pleachref28_Show.j111111.eq K a0 x0 : F.pleachref28_Show.j111111 K a0 x0 = F.pleachref28_Show.j111111.B a0 x0 := (F.pleachref28_Show.in_eq K [1, 1, 1, 1, 1, 1] [] (F.pleachref28_Show.j111111.st a0 x0)).trans ((show ∀ H, F.pleachref28_Show.in K H [1, 1, 1, 1, 1, 1] [] (F.pleachref28_Show.j111111.st a0 x0) = F.pleachref28_Show.j111111.B a0 x0 from by intro H; kernel_rfl) (F.pleachref28_Show.at K))
noncomputable def F.pleachref28_Show.B (c0 : (TConflict) → (Bool) → Option (ByteArray)) (a0 : TConflict) : Option (ByteArray) :=
    (bif (decide (a0.1 < 1)) then (c0 a0 true) else (bif (decide (a0.1 > 6)) then (c0 a0 true) else (bif (decide (a0.2.2.2 < 1)) then (c0 a0 true) else (c0 a0 (decide (a0.2.2.2 > 3))))))
theorem F.pleachref28_Show.eq K a0 : F.pleachref28_Show (K + 1) a0 = F.pleachref28_Show.B (F.pleachref28_Show.j11101 K) a0 := (F.pleachref28_Show.in_main K a0).trans ((show ∀ H, F.pleachref28_Show.in K H [] [] ⟨slots [.agg [.val (.int .i64 a0.1), .val (.string a0.2.1), .val (.string a0.2.2.1), .val (.int .i64 a0.2.2.2)]] 0, []⟩ = F.pleachref28_Show.B (fun a0 x0 => H [1, 1, 1, 0, 1] [] (F.pleachref28_Show.j11101.st a0 x0)) a0 from by intro H; kernel_rfl) (F.pleachref28_Show.at K))
noncomputable def V.pleachref28_Show.j11101 (a0 : TConflict) (x0 : Bool) := lim fun v => F.pleachref28_Show.j11101 (v 0) a0 x0
noncomputable def V.pleachref28_Show.j111111 (a0 : TConflict) (x0 : ByteArray) := lim fun v => F.pleachref28_Show.j111111 (v 0) a0 x0
noncomputable def V.pleachref28_Show (a0 : TConflict) := lim fun v => F.pleachref28_Show (v 0) a0
theorem V.pleachref28_Show.j11101.of a0 x0 {r} (h : F.pleachref28_Show.j11101.B V.pleachref28_Show.j111111 a0 x0 = some r) : V.pleachref28_Show.j11101 a0 x0 = some r :=
  App.to (App.same (fun v => F.pleachref28_Show.j11101.eq (v 0) a0 x0) (by unfold F.pleachref28_Show.j11101.B; repeat' first | apply App.guard | apply App.cond | exact App.lim | exact App.val | exact App.no | apply App.meet | apply App.ite | refine App.bind ?_ fun _ => ?_)) h
theorem V.pleachref28_Show.j111111.of a0 x0 {r} (h : F.pleachref28_Show.j111111.B a0 x0 = some r) : V.pleachref28_Show.j111111 a0 x0 = some r :=
  App.to (App.same (fun v => F.pleachref28_Show.j111111.eq (v 0) a0 x0) App.const) h
theorem V.pleachref28_Show.of a0 {r} (h : F.pleachref28_Show.B V.pleachref28_Show.j11101 a0 = some r) : V.pleachref28_Show a0 = some r :=
  App.to (App.step 0 (fun v => F.pleachref28_Show.eq (v 0) a0) (by unfold F.pleachref28_Show.B; repeat' first | apply App.guard | apply App.cond | exact App.lim | exact App.val | exact App.no | apply App.meet | apply App.ite | refine App.bind ?_ fun _ => ?_)) h

end Go.Proofs.Ytmenplonaapliaa.AE
end
section
set_option linter.unusedVariables false
set_option linter.unusedSimpArgs false
namespace Go.Proofs.Ytmenplonaapliaa.AE
open Go

theorem w64_id {x : Int} (h0 : -9223372036854775808 ≤ x) (h1 : x ≤ 9223372036854775807) : w64 x = x := by
  show IntKind.i64.wrap x = x
  simp [IntKind.wrap, IntKind.bits, IntKind.signed]
  omega
theorem u64_id {x : Int} (h0 : 0 ≤ x) (h1 : x ≤ 18446744073709551615) : IntKind.wrap .u64 x = x := by
  have : IntKind.u64.wrap x = x % 18446744073709551616 := by simp [IntKind.wrap, IntKind.bits, IntKind.signed]
  rw [this]; omega
theorem w64_up {i n : Nat} (h : i < n) (hn : n ≤ 140737488351232) : w64 ((i : Int) + 1) = ((i + 1 : Nat) : Int) := by rw [w64_id (by omega) (by omega)]; omega
theorem w64_dn {i n : Nat} (h : i < n) (hn : n ≤ 140737488351232) (h0 : 0 < i) : w64 ((i : Int) - 1) = ((i - 1 : Nat) : Int) := by rw [w64_id (by omega) (by omega)]; omega

theorem guard_tt {α : Type} (a : Option α) : guardK true a = a := rfl
theorem guard_of {α : Type} {g : Bool} {a : Option α} (h : g = true) : guardK g a = a := by rw [h]; rfl
theorem guard_dec {α : Type} {p : Prop} [Decidable p] {a : Option α} (h : p) : guardK (decide p) a = a := guard_of (decide_eq_true h)
/-- Inside a row. -/
theorem guard_in {α : Type} {i n : Nat} {a : Option α} (h : i < n) : guardK (decide (0 ≤ (i : Int)) && decide ((i : Int) < (n : Int))) a = a := guard_of (by simp [h])
theorem if_in {α : Type} {i n : Nat} {a b : α} (h : i < n) : (bif decide ((i : Int) < (n : Int)) then a else b) = a := by simp [h]
theorem if_out {α : Type} {i n : Nat} {a b : α} (h : n ≤ i) : (bif decide ((i : Int) < (n : Int)) then a else b) = b := by simp [Nat.not_lt.2 h]
theorem if_yes {α : Type} {p : Prop} [Decidable p] {a b : α} (h : p) : (bif decide p then a else b) = a := by simp [h]
theorem if_no {α : Type} {p : Prop} [Decidable p] {a b : α} (h : ¬ p) : (bif decide p then a else b) = b := by simp [h]
theorem nat_cast (i : Nat) : ((i : Nat) : Int).toNat = i := rfl
theorem meet_self {α : Type} {inst : DecidableEq α} (a : Option α) : meet a a = a := by unfold meet; simp
theorem data_len (s : ByteArray) : s.data.toList.length = s.size := by rw [Array.length_toList]; rfl
theorem bytes_ext {s t : ByteArray} (h : s.toList = t.toList) : s = t := by
  rw [ByteArray.toList_eq, ByteArray.toList_eq] at h
  have : s.data = t.data := by rwa [← Array.toList_inj]
  cases s; cases t; simp_all
theorem strEq_iff {s t : ByteArray} : strEq s t = true ↔ s = t := by
  unfold strEq
  rw [beq_iff_eq]
  exact ⟨bytes_ext, fun h => by rw [h]⟩
theorem strEq_self (s : ByteArray) : strEq s s = true := strEq_iff.2 rfl
theorem strEq_no {s t : ByteArray} (h : s ≠ t) : strEq s t = false := by
  cases hb : strEq s t with
  | false => rfl
  | true => exact absurd (strEq_iff.1 hb) h
theorem strEq_dec (s t : ByteArray) : strEq s t = decide (s = t) := by
  by_cases h : s = t
  · rw [h, strEq_self]; simp
  · rw [strEq_no h]; simp [h]
/-! ### The order of texts -/

theorem less_leq : ∀ x y : List UInt8, (Op.bytesLess x y || x == y) = !(Op.bytesLess y x)
  | [], [] => by simp [Op.bytesLess]
  | [], b :: y => by simp [Op.bytesLess]
  | a :: x, [] => by simp [Op.bytesLess]
  | a :: x, b :: y => by
    have ih := less_leq x y
    by_cases h1 : a < b
    · have h2 : ¬ b < a := by simp only [UInt8.lt_iff_toNat_lt] at *; omega
      have h3 : ¬ b = a := by rintro rfl; simp at h1
      simp [Op.bytesLess, h1, h2, h3]
    · by_cases h2 : b < a
      · have h3 : ¬ b = a := by rintro rfl; simp at h2
        have h4 : ¬ a = b := fun h => h3 h.symm
        simp [Op.bytesLess, h1, h2, h4]
      · have h3 : a = b := by
          apply UInt8.toNat_inj.1
          simp only [UInt8.lt_iff_toNat_lt] at *
          omega
        subst h3
        simp [Op.bytesLess, h1] at ih ⊢
        exact ih
theorem less_irr : ∀ x : List UInt8, Op.bytesLess x x = false
  | [] => rfl
  | a :: x => by
    have : ¬ a < a := by simp
    simp [Op.bytesLess, less_irr x, this]
theorem less_trans : ∀ x y z : List UInt8, Op.bytesLess x y = true → Op.bytesLess y z = true → Op.bytesLess x z = true
  | _, [], _, h, _ => by simp [Op.bytesLess] at h
  | _, _ :: _, [], _, h => by simp [Op.bytesLess] at h
  | [], b :: y, c :: z, _, _ => rfl
  | a :: x, b :: y, c :: z, h1, h2 => by
    simp only [Op.bytesLess, Bool.or_eq_true, Bool.and_eq_true, decide_eq_true_eq, beq_iff_eq] at h1 h2 ⊢
    rcases h1 with h1 | ⟨rfl, h1⟩
    · rcases h2 with h2 | ⟨rfl, h2⟩
      · left; simp only [UInt8.lt_iff_toNat_lt] at *; omega
      · exact .inl h1
    · rcases h2 with h2 | ⟨rfl, h2⟩
      · exact .inl h2
      · exact .inr ⟨rfl, less_trans x y z h1 h2⟩
/-- Of two texts one is less, or they are the same. -/
theorem lt_or (a b : ByteArray) : (strLt a b || strEq a b) = !strLt b a := less_leq a.toList b.toList
theorem lt_irr (a : ByteArray) : strLt a a = false := less_irr a.toList
theorem lt_trans {a b c : ByteArray} (h : strLt a b = true) (g : strLt b c = true) : strLt a c = true := less_trans _ _ _ h g
theorem lt_asymm {a b : ByteArray} (h : strLt a b = true) : strLt b a = false := by
  cases hb : strLt b a with
  | false => rfl
  | true => have := lt_trans h hb; rw [lt_irr] at this; cases this
theorem lt_total {a b : ByteArray} (h : strLt a b = false) (hn : a ≠ b) : strLt b a = true := by
  have := lt_or a b
  rw [h, strEq_no hn] at this
  cases hb : strLt b a with
  | true => rfl
  | false => rw [hb] at this; simp at this
theorem bt_data (s : ByteArray) (i : Nat) (h : i < s.size) : byteAt s (i : Int) = ((s.data.toList[i]'(by rw [Array.length_toList]; exact h)).toNat : Int) := by
  show (((s.data.toList.getD (i : Int).toNat 0).toNat : Nat) : Int) = _
  rw [nat_cast, List.getD_eq_getElem?_getD, List.getElem?_eq_getElem (by rw [data_len]; exact h)]
  rfl
theorem extract_size (s : ByteArray) (a b : Nat) : (s.extract a b).size ≤ s.size := by
  rw [ByteArray.size_extract]; omega

theorem rd_get {e : Sh} {l : List (den e)} {i : Nat} (h : i < l.length) : rd e l i = l[i] := by
  simp [rd, List.getD_eq_getElem?_getD, List.getElem?_eq_getElem h]
theorem rd_mem {e : Sh} {l : List (den e)} {i : Nat} (h : i < l.length) : rd e l i ∈ l := by rw [rd_get h]; exact List.getElem_mem h
theorem drop_rd {e : Sh} {l : List (den e)} {i : Nat} (h : i < l.length) : l.drop i = rd e l i :: l.drop (i + 1) := by rw [rd_get h]; exact List.drop_eq_getElem_cons h
theorem take_rd {e : Sh} {l : List (den e)} {i : Nat} (h : i < l.length) : l.take (i + 1) = l.take i ++ [rd e l i] := by
  rw [rd_get h, List.take_add_one, List.getElem?_eq_getElem h]; rfl

/-- A loop that ends at the first place at which the step tells something; else what is told at the end. -/
def scanG {α : Type} (step : Nat → Option α) (fin : α) : Nat → Nat → α
  | 0, _ => fin
  | d + 1, i => match step i with
    | some r => r
    | none => scanG step fin d (i + 1)
abbrev scanI (step : Nat → Option Int) : Nat → Nat → Int := scanG step 0
theorem scanG_succ {α : Type} (step : Nat → Option α) (fin : α) (d i : Nat) : scanG step fin (d + 1) i = (step i).getD (scanG step fin d (i + 1)) := by
  show (match step i with | some r => r | none => scanG step fin d (i + 1)) = _
  cases step i <;> rfl
theorem scanI_succ (step : Nat → Option Int) (d i : Nat) : scanI step (d + 1) i = (step i).getD (scanI step d (i + 1)) := scanG_succ step 0 d i
end Go.Proofs.Ytmenplonaapliaa.AE
end
section
set_option linter.unusedVariables false
set_option linter.unusedSimpArgs false
namespace Go.Proofs.Ytmenplonaapliaa.AE
open Go

/-- An order in which some may stand alike. -/
structure Weak {α : Type} (lt : α → α → Bool) : Prop where
  irr : ∀ a, lt a a = false
  trans : ∀ a b c, lt a b = true → lt b c = true → lt a c = true
  comp : ∀ a b c, lt a c = true → lt a b = true ∨ lt b c = true

section
variable {α : Type} {lt : α → α → Bool}

/-- No one stands ahead of an earlier one. -/
def Srt (lt : α → α → Bool) (l : List α) : Prop := l.Pairwise fun a b => lt b a = false

theorem Weak.asymm (w : Weak lt) {a b : α} (h : lt a b = true) : lt b a = false := by
  cases hb : lt b a with
  | false => rfl
  | true => have := w.trans a b a h hb; rw [w.irr] at this; cases this
/-- Not behind, and not behind: not behind. -/
theorem Weak.le_trans (w : Weak lt) {a b c : α} (h : lt b a = false) (g : lt c b = false) : lt c a = false := by
  cases hb : lt c a with
  | false => rfl
  | true =>
    rcases w.comp c b a hb with k | k
    · rw [g] at k; cases k
    · rw [h] at k; cases k

theorem srt_app {x y : List α} : Srt lt (x ++ y) ↔ Srt lt x ∧ Srt lt y ∧ ∀ a ∈ x, ∀ b ∈ y, lt b a = false := List.pairwise_append
theorem srt_nil : Srt lt ([] : List α) := List.Pairwise.nil
theorem srt_one (a : α) : Srt lt [a] := List.pairwise_singleton _ _
theorem srt_cons {a : α} {y : List α} : Srt lt (a :: y) ↔ (∀ b ∈ y, lt b a = false) ∧ Srt lt y := List.pairwise_cons
/-- All are at most the last one; at least the first one. -/
theorem srt_last (w : Weak lt) {x : List α} {u : α} (h : Srt lt (x ++ [u])) : ∀ a ∈ x ++ [u], lt u a = false := by
  intro a ha
  rw [List.mem_append, List.mem_singleton] at ha
  rcases ha with ha | rfl
  · exact (srt_app.1 h).2.2 a ha u (by simp)
  · exact w.irr _
theorem srt_first (w : Weak lt) {y : List α} {v : α} (h : Srt lt (v :: y)) : ∀ b ∈ v :: y, lt b v = false := by
  intro b hb
  rcases List.mem_cons.1 hb with rfl | hb
  · exact w.irr _
  · exact (srt_cons.1 h).1 b hb

/-- Two sorted rows of the same ones, no two of which stand alike, are the same row. -/
theorem srt_unique (w : Weak lt) : ∀ {x y : List α}, x.Perm y → Srt lt x → (y.Pairwise fun a b => lt a b = true) → x = y
  | [], y, h, _, _ => (List.nil_perm.1 h).symm
  | a :: x, [], h, _, _ => absurd h.symm (by simp)
  | a :: x, b :: y, h, hx, hy => by
    have hab : a = b := by
      have ha : a ∈ b :: y := h.subset (by simp)
      rcases List.mem_cons.1 ha with e | ha
      · exact e
      · have hb : b ∈ a :: x := h.symm.subset (by simp)
        rcases List.mem_cons.1 hb with e | hb
        · exact e.symm
        · have h1 := (srt_cons.1 hx).1 b hb
          have h2 := (List.pairwise_cons.1 hy).1 a ha
          rw [h2] at h1; cases h1
    subst hab
    rw [srt_unique w ((List.perm_cons a).1 h) (srt_cons.1 hx).2 (List.pairwise_cons.1 hy).2]

/-! ### Two places change over -/

/-- What is behind a first part. -/
theorem app_at {x y : List α} {i : Nat} (d : α) (h : i = x.length) (a : α) : (x ++ a :: y).getD i d = a := by
  subst h
  simp [List.getD_eq_getElem?_getD]
theorem set_at {x y : List α} {i : Nat} (h : i = x.length) (a b : α) : (x ++ a :: y).set i b = x ++ b :: y := by
  subst h
  simp
theorem swap_at {x y z : List α} {i j : Nat} (u v : α) (hi : i = x.length) (hj : j = x.length + (1 + y.length)) : ((x ++ u :: (y ++ v :: z)).set i v).set j u = x ++ v :: (y ++ u :: z) := by
  rw [set_at hi]
  have e : x ++ v :: (y ++ v :: z) = (x ++ v :: y) ++ v :: z := by simp
  rw [e, set_at (by simp; omega)]
  simp

/-! ### Merging -/

/-- The heart of the merge by halves: X1 X2 and Y1 Y2 are sorted; cut so, X1 Y1 stand ahead of X2 Y2. -/
theorem halves (w : Weak lt) {x1 x2 y1 y2 : List α} (hx : Srt lt (x1 ++ x2)) (hy : Srt lt (y1 ++ y2))
    (h1 : x1 = [] ∨ y2 = [] ∨ ∃ u x v y, x1 = x ++ [u] ∧ y2 = v :: y ∧ lt v u = false)
    (h2 : y1 = [] ∨ x2 = [] ∨ ∃ u y v x, y1 = y ++ [u] ∧ x2 = v :: x ∧ lt u v = true) :
    ∀ a ∈ x1 ++ y1, ∀ b ∈ x2 ++ y2, lt b a = false := by
  intro a ha b hb
  obtain ⟨sx1, sx2, cx⟩ := srt_app.1 hx
  obtain ⟨sy1, sy2, cy⟩ := srt_app.1 hy
  rw [List.mem_append] at ha hb
  rcases ha with ha | ha <;> rcases hb with hb | hb
  · exact cx a ha b hb
  · rcases h1 with rfl | rfl | ⟨u, x, v, y, rfl, rfl, h⟩
    · cases ha
    · cases hb
    · exact w.le_trans (srt_last w sx1 a ha) (w.le_trans h (srt_first w sy2 b hb))
  · rcases h2 with rfl | rfl | ⟨u, y, v, x, rfl, rfl, h⟩
    · cases ha
    · cases hb
    · exact w.le_trans (srt_last w sy1 a ha) (w.le_trans (w.asymm h) (srt_first w sx2 b hb))
  · exact cy a ha b hb
/-- One that goes into its place in a sorted row, from ahead of it. -/
theorem insert_up (w : Weak lt) {y1 y2 : List α} {x : α} (hy : Srt lt (y1 ++ y2)) (h1 : y1 = [] ∨ ∃ y u, y1 = y ++ [u] ∧ lt u x = true) (h2 : y2 = [] ∨ ∃ v y, y2 = v :: y ∧ lt v x = false) : Srt lt (y1 ++ x :: y2) := by
  obtain ⟨s1, s2, c⟩ := srt_app.1 hy
  have g1 : ∀ a ∈ y1, lt x a = false := by
    intro a ha
    rcases h1 with rfl | ⟨y, u, rfl, h⟩
    · cases ha
    · exact w.le_trans (srt_last w s1 a ha) (w.asymm h)
  have g2 : ∀ b ∈ y2, lt b x = false := by
    intro b hb
    rcases h2 with rfl | ⟨v, y, rfl, h⟩
    · cases hb
    · exact w.le_trans h (srt_first w s2 b hb)
  refine srt_app.2 ⟨s1, srt_cons.2 ⟨g2, s2⟩, fun a ha b hb => ?_⟩
  rcases List.mem_cons.1 hb with rfl | hb
  · exact g1 a ha
  · exact c a ha b hb
/-- .. from behind it. -/
theorem insert_down (w : Weak lt) {x1 x2 : List α} {y : α} (hx : Srt lt (x1 ++ x2)) (h1 : x1 = [] ∨ ∃ x u, x1 = x ++ [u] ∧ lt y u = false) (h2 : x2 = [] ∨ ∃ v x, x2 = v :: x ∧ lt y v = true) : Srt lt (x1 ++ y :: x2) := by
  obtain ⟨s1, s2, c⟩ := srt_app.1 hx
  have g1 : ∀ a ∈ x1, lt y a = false := by
    intro a ha
    rcases h1 with rfl | ⟨x, u, rfl, h⟩
    · cases ha
    · exact w.le_trans (srt_last w s1 a ha) h
  have g2 : ∀ b ∈ x2, lt b y = false := by
    intro b hb
    rcases h2 with rfl | ⟨v, x, rfl, h⟩
    · cases hb
    · exact w.le_trans (w.asymm h) (srt_first w s2 b hb)
  refine srt_app.2 ⟨s1, srt_cons.2 ⟨g2, s2⟩, fun a ha b hb => ?_⟩
  rcases List.mem_cons.1 hb with rfl | hb
  · exact g1 a ha
  · exact c a ha b hb

/-! ### Blocks -/

/-- From a place on, all blocks of k are sorted. -/
def Blk' (lt : α → α → Bool) (k : Nat) (l : List α) (p : Nat → Prop) : Prop := ∀ j, p (j * k) → Srt lt ((l.drop (j * k)).take k)
theorem srt_take {l : List α} (h : Srt lt l) (n : Nat) : Srt lt (l.take n) := List.Pairwise.sublist (List.take_sublist n l) h
theorem srt_drop {l : List α} (h : Srt lt l) (n : Nat) : Srt lt (l.drop n) := List.Pairwise.sublist (List.drop_sublist n l) h

/-- Behind a change of the part from a to b. -/
structure Done (lt : α → α → Bool) (a b : Nat) (l l' : List α) : Prop where
  ex : ∃ z, l' = l.take a ++ z ++ l.drop b ∧ z.Perm ((l.take b).drop a) ∧ Srt lt z
theorem seg_split (l : List α) {a b : Nat} (h : a ≤ b) : l = l.take a ++ (l.take b).drop a ++ l.drop b := by
  have e1 : l.take a = (l.take b).take a := by rw [List.take_take, Nat.min_eq_left h]
  rw [e1, List.take_append_drop, List.take_append_drop]
theorem Done.perm {a b : Nat} {l l' : List α} (h : a ≤ b) (d : Done lt a b l l') : l'.Perm l := by
  obtain ⟨z, rfl, hp, _⟩ := d.ex
  conv => rhs; rw [seg_split l h]
  exact ((List.Perm.refl _).append hp).append_right _
theorem Done.len {a b : Nat} {l l' : List α} (h : a ≤ b) (d : Done lt a b l l') : l'.length = l.length := (d.perm h).length_eq
theorem Done.drop {a b : Nat} {l l' : List α} (h : a ≤ b) (hb : b ≤ l.length) (d : Done lt a b l l') {c : Nat} (hc : b ≤ c) : l'.drop c = l.drop c := by
  have hl := d.len h
  obtain ⟨z, rfl, hp, _⟩ := d.ex
  have hz : (l.take a ++ z).length = b := by
    have := hp.length_eq
    simp at this ⊢
    omega
  rw [List.drop_append, hz, List.drop_eq_nil_of_le (by omega), List.nil_append, List.drop_drop]
  congr 1; omega
theorem Done.take {a b : Nat} {l l' : List α} (h : a ≤ b) (hb : b ≤ l.length) (d : Done lt a b l l') {c : Nat} (hc : c ≤ a) : l'.take c = l.take c := by
  obtain ⟨z, rfl, hp, _⟩ := d.ex
  rw [List.append_assoc, List.take_append_of_le_length (by rw [List.length_take]; omega), List.take_take, Nat.min_eq_left hc]
theorem Done.mid {a b : Nat} {l l' : List α} (h : a ≤ b) (hb : b ≤ l.length) (d : Done lt a b l l') : Srt lt ((l'.take b).drop a) := by
  obtain ⟨z, rfl, hp, hs⟩ := d.ex
  have hl : (l.take a).length = a := by rw [List.length_take]; omega
  have hz : (l.take a ++ z).length = b := by
    have := hp.length_eq
    simp at this ⊢
    omega
  rw [List.take_left' hz, List.drop_left' hl]
  exact hs
end
end Go.Proofs.Ytmenplonaapliaa.AE
end
section
set_option linter.unusedVariables false
set_option linter.unusedSimpArgs false
namespace Go.Proofs.Ytmenplonaapliaa.AE
open Go

def okc (c : Int) : Bool := (decide (97 ≤ c) && decide (c ≤ 122)) || (decide (48 ≤ c) && decide (c ≤ 57)) || c == 45
/-- From place i on, d bytes, all fit. -/
def okFrom (s : ByteArray) : Nat → Nat → Bool
  | 0, _ => true
  | d + 1, i => okc (byteAt s i) && okFrom s d (i + 1)
def nameB (s : ByteArray) : Bool := decide (1 ≤ s.size) && decide (s.size ≤ 12) && okFrom s s.size 0

def valueB (v : TValue) : Bool := (v.1 == 1 && (v.2.1 == 0 || v.2.1 == 1) && v.2.2.size == 0) || (v.1 == 2 && v.2.2.size == 0) || (v.1 == 3 && v.2.1 == 0 && decide (v.2.2.size ≤ 64))
/-! ### Rows that rise -/

def propStep (l : List TProp) (i : Nat) : Option Int :=
  if (nameB (rd sProp l i).1 && valueB (rd sProp l i).2) = false then some 2
  else if 0 < i ∧ strLt (rd sProp l (i - 1)).1 (rd sProp l i).1 = false then some 4 else none
def textStep (l : List ByteArray) (i : Nat) : Option Int :=
  if nameB (rd .str l i) = false then some 2
  else if 0 < i ∧ strLt (rd .str l (i - 1)) (rd .str l i) = false then some 4 else none
def propsN (l : List TProp) : Int := if l.length > 8 then 5 else scanI (propStep l) l.length 0
def rowN (l : List ByteArray) : Int := scanI (textStep l) l.length 0
def restN (labels : List ByteArray) (props : List TProp) : Int := if labels.length > 8 then 5 else if rowN labels = 0 then propsN props else rowN labels

end Go.Proofs.Ytmenplonaapliaa.AE
end
section
set_option linter.unusedVariables false
set_option linter.unusedSimpArgs false
namespace Go.Proofs.Ytmenplonaapliaa.AE
open Go

theorem scanI_zero {step : Nat → Option Int} (hs : ∀ i r, step i = some r → r ≠ 0) : ∀ d i, scanI step d i = 0 → ∀ j, i ≤ j → j < i + d → step j = none
  | 0, i, _, j, h1, h2 => by omega
  | d + 1, i, h, j, h1, h2 => by
    rw [scanI_succ] at h
    cases hq : step i with
    | some r => rw [hq] at h; exact absurd h (hs i r hq)
    | none =>
      rw [hq] at h
      by_cases hij : j = i
      · rw [hij]; exact hq
      · exact scanI_zero hs d (i + 1) h j (by omega) (by omega)
theorem propStep_ne (l : List TProp) (i : Nat) (r : Int) (h : propStep l i = some r) : r ≠ 0 := by
  unfold propStep at h
  split at h
  · injection h with h; omega
  · split at h
    · injection h with h; omega
    · cases h
theorem textStep_ne (l : List ByteArray) (i : Nat) (r : Int) (h : textStep l i = some r) : r ≠ 0 := by
  unfold textStep at h
  split at h
  · injection h with h; omega
  · split at h
    · injection h with h; omega
    · cases h
theorem nameB_size {s : ByteArray} (h : nameB s = true) : 1 ≤ s.size ∧ s.size ≤ 12 := by
  unfold nameB at h
  simp at h
  exact ⟨h.1.1, h.1.2⟩
theorem textStep_none {l : List ByteArray} {i : Nat} (h : textStep l i = none) : nameB (rd .str l i) = true ∧ (0 < i → strLt (rd .str l (i - 1)) (rd .str l i) = true) := by
  unfold textStep at h
  split at h
  · cases h
  · rename_i h1
    split at h
    · cases h
    · rename_i h2
      refine ⟨by simpa using h1, fun h0 => ?_⟩
      cases hq : strLt (rd .str l (i - 1)) (rd .str l i) with
      | true => rfl
      | false => exact absurd ⟨h0, hq⟩ h2
theorem propStep_none {l : List TProp} {i : Nat} (h : propStep l i = none) : nameB (rd sProp l i).1 = true ∧ valueB (rd sProp l i).2 = true ∧ (0 < i → strLt (rd sProp l (i - 1)).1 (rd sProp l i).1 = true) := by
  unfold propStep at h
  split at h
  · cases h
  · rename_i h1
    split at h
    · cases h
    · rename_i h2
      have h3 : nameB (rd sProp l i).1 = true ∧ valueB (rd sProp l i).2 = true := by simpa using h1
      refine ⟨h3.1, h3.2, fun h0 => ?_⟩
      cases hq : strLt (rd sProp l (i - 1)).1 (rd sProp l i).1 with
      | true => rfl
      | false => exact absurd ⟨h0, hq⟩ h2
/-- What a row of names, of properties that may be is. -/
theorem rowN_zero {l : List ByteArray} (h : rowN l = 0) {i : Nat} (hi : i < l.length) : nameB (rd .str l i) = true ∧ (0 < i → strLt (rd .str l (i - 1)) (rd .str l i) = true) :=
  textStep_none (scanI_zero (textStep_ne l) l.length 0 h i (by omega) (by omega))
theorem propsN_len {l : List TProp} (h : propsN l = 0) : l.length ≤ 8 := by
  unfold propsN at h
  split at h
  · omega
  · omega
theorem propsN_zero {l : List TProp} (h : propsN l = 0) {i : Nat} (hi : i < l.length) : nameB (rd sProp l i).1 = true ∧ valueB (rd sProp l i).2 = true ∧ (0 < i → strLt (rd sProp l (i - 1)).1 (rd sProp l i).1 = true) := by
  have h8 := propsN_len h
  unfold propsN at h
  rw [if_neg (by omega)] at h
  exact propStep_none (scanI_zero (propStep_ne l) l.length 0 h i (by omega) (by omega))
theorem restN_zero {a : List ByteArray} {l : List TProp} (h : restN a l = 0) : a.length ≤ 8 ∧ rowN a = 0 ∧ propsN l = 0 := by
  unfold restN at h
  split at h
  · omega
  · split at h
    · rename_i h1 h2
      exact ⟨by omega, h2, h⟩
    · rename_i h1 h2
      exact absurd h h2

/-- Labels and properties are as few and short as they may be. -/
structure Short (a : List ByteArray) (l : List TProp) : Prop where
  na : a.length ≤ 8
  nl : l.length ≤ 8
  ta : ∀ i, i < a.length → (rd .str a i).size ≤ 12
  tl : ∀ i, i < l.length → (rd sProp l i).1.size ≤ 12
theorem Short.of {a : List ByteArray} {l : List TProp} (h : restN a l = 0) : Short a l := by
  obtain ⟨h1, h2, h3⟩ := restN_zero h
  exact ⟨h1, propsN_len h3, fun i hi => (nameB_size (rowN_zero h2 hi).1).2, fun i hi => (nameB_size (propsN_zero h3 hi).1).2⟩
end Go.Proofs.Ytmenplonaapliaa.AE
end
section
set_option linter.unusedVariables false
set_option linter.unusedSimpArgs false
set_option maxRecDepth 20000
namespace Go.Proofs.Ytmenplonaapliaa.AE
open Go

def lessF (a b : TFact) : Bool := bif a.1 != b.1 then decide (a.1 < b.1) else bif !strEq a.2.1 b.2.1 then strLt a.2.1 b.2.1 else strLt a.2.2.1 b.2.2.1
def cmpF (a b : TFact) : Int := if lessF a b then -1 else if lessF b a then 1 else 0

theorem Less_ok (a b : TFact) : V.pleachref27_Less a b = some (lessF a b) := by
  refine V.pleachref27_Less.of a b ?_
  unfold F.pleachref27_Less.B lessF
  cases a.1 != b.1 <;> cases strEq a.2.1 b.2.1 <;> rfl

theorem CompareString_ok (a b : ByteArray) : V.bytealg_CompareString a b = some (cmpS a b) := V.bytealg_CompareString.of a b rfl
theorem stringsCompare_ok (a b : ByteArray) : V.strings_Compare a b = some (cmpS a b) := by
  refine V.strings_Compare.of a b ?_
  unfold F.strings_Compare.B
  rw [CompareString_ok, Option.bind_some]
def cmpI (a b : Int) : Int := if a < b then -1 else if b < a then 1 else 0
theorem cmpCompareInt_ok (a b : Int) : V.cmp_Compare_int a b = some (cmpI a b) := by
  have nan : ∀ x : Int, V.cmp_isNaN_int x = some false := fun x => V.cmp_isNaN_int.of x (by unfold F.cmp_isNaN_int.B; simp)
  refine V.cmp_Compare_int.of a b ?_
  unfold F.cmp_Compare_int.B cmpI
  rw [nan, nan, Option.bind_some, Option.bind_some]
  by_cases h : a < b
  · simp [h]
  · by_cases g : b < a <;> simp [h, g]
theorem cmpOr_ok (x y z : Int) : V.cmp_Or_int [x, y, z] = some (if x ≠ 0 then x else if y ≠ 0 then y else z) := by
  refine V.cmp_Or_int.of _ ?_
  unfold F.cmp_Or_int.B
  refine V.cmp_Or_int.l11010.of _ _ ?_
  unfold F.cmp_Or_int.l11010.B
  by_cases hx : x = 0
  · subst hx
    have e1 : w64 (0 + 1) = 1 := by rw [w64_id (by omega) (by omega)]; rfl
    simp only [e1]
    simp [rd, guardK]
    refine V.cmp_Or_int.l11010.of _ _ ?_
    unfold F.cmp_Or_int.l11010.B
    by_cases hy : y = 0
    · subst hy
      have e2 : w64 (1 + 1) = 2 := by rw [w64_id (by omega) (by omega)]; rfl
      simp only [e2]
      simp [rd, guardK]
      refine V.cmp_Or_int.l11010.of _ _ ?_
      unfold F.cmp_Or_int.l11010.B
      by_cases hz : z = 0
      · subst hz
        have e3 : w64 (2 + 1) = 3 := by rw [w64_id (by omega) (by omega)]; rfl
        simp only [e3]
        simp [rd, guardK]
        refine V.cmp_Or_int.l11010.of _ _ ?_
        unfold F.cmp_Or_int.l11010.B
        simp
      · simp [rd, guardK, hz, Bool.cond_eq_ite]
    · simp [rd, guardK, hy, Bool.cond_eq_ite]
  · simp [rd, guardK, hx, Bool.cond_eq_ite]

theorem cmpS_self (a : ByteArray) : cmpS a a = 0 := by simp [cmpS, lt_irr]
theorem cmpS_lt {a b : ByteArray} (h : strLt a b = true) : cmpS a b = -1 := by simp [cmpS, h]
theorem cmpS_gt {a b : ByteArray} (h : strLt b a = true) : cmpS a b = 1 := by simp [cmpS, h, lt_asymm h]
theorem cmpS_ne {a b : ByteArray} (h : a ≠ b) : (strLt a b = true ∧ cmpS a b = -1) ∨ (strLt b a = true ∧ strLt a b = false ∧ cmpS a b = 1) := by
  cases hl : strLt a b with
  | true => exact .inl ⟨rfl, cmpS_lt hl⟩
  | false => have := lt_total hl h; exact .inr ⟨this, rfl, cmpS_gt this⟩

theorem lessF_irr (a : TFact) : lessF a a = false := by simp [lessF, strEq_self, lt_irr]

theorem Compare_ok (a b : TFact) : V.facts_Compare a b = some (cmpF a b) := by
  refine V.facts_Compare.of a b ?_
  unfold F.facts_Compare.B
  rw [cmpCompareInt_ok, Option.bind_some, stringsCompare_ok, Option.bind_some, stringsCompare_ok, Option.bind_some, cmpOr_ok, Option.bind_some]
  refine congrArg some ?_
  unfold cmpF lessF cmpI
  by_cases h1 : a.1 = b.1
  · rw [h1]
    by_cases h2 : a.2.1 = b.2.1
    · rw [h2, cmpS_self]
      by_cases h3 : a.2.2.1 = b.2.2.1
      · rw [h3, cmpS_self]; simp [strEq_self, lt_irr]
      · rcases cmpS_ne h3 with ⟨g1, g2⟩ | ⟨g1, g2, g3⟩
        · simp [strEq_self, g1, g2]
        · simp [strEq_self, g1, g2, g3]
    · have h2' : b.2.1 ≠ a.2.1 := fun e => h2 e.symm
      rcases cmpS_ne h2 with ⟨g1, g2⟩ | ⟨g1, g2, g3⟩
      · simp [strEq_no h2, strEq_no h2', g1, g2]
      · simp [strEq_no h2, strEq_no h2', g1, g2, g3]
  · have h1' : ¬ b.1 = a.1 := fun e => h1 e.symm
    by_cases h4 : a.1 < b.1
    · simp [h1, h4]
    · have h5 : b.1 < a.1 := by omega
      simp [h1, h1', h4, h5]

theorem cmpF_lt {a b : TFact} : cmpF a b < 0 ↔ lessF a b = true := by
  unfold cmpF
  cases lessF a b <;> cases lessF b a <;> simp

/-- Do they rise from a place on? -/
def riseF (l : List TFact) : Nat → Nat → Bool
  | 0, _ => true
  | d + 1, i => lessF (rd sFact l (i - 1)) (rd sFact l i) && riseF l d (i + 1)
def rises (l : List TFact) : Bool := riseF l (l.length - 1) 1

theorem Rises_l (l : List TFact) (hs : l.length ≤ 140737488351232) : ∀ d i : Nat, i + d = l.length → 1 ≤ i → V.pleachref27_Rises.l1010 l (i : Int) = some (riseF l d i)
  | 0, i, h, h1 => by
    refine V.pleachref27_Rises.l1010.of _ _ ?_
    unfold F.pleachref27_Rises.l1010.B
    rw [if_out (by omega)]
    rfl
  | d + 1, i, h, h1 => by
    have hi : i < l.length := by omega
    have ih := Rises_l l hs d (i + 1) (by omega) (by omega)
    refine V.pleachref27_Rises.l1010.of _ _ ?_
    unfold F.pleachref27_Rises.l1010.B
    rw [if_in hi, w64_dn hi hs (by omega), guard_in (by omega : i - 1 < l.length), guard_in hi, nat_cast, nat_cast, Less_ok, Option.bind_some, w64_up hi hs, ih]
    simp only [riseF]
    show (bif !lessF (rd sFact l (i - 1)) (rd sFact l i) then some false else some (riseF l d (i + 1))) = _
    cases lessF (rd sFact l (i - 1)) (rd sFact l i) <;> rfl

theorem Rises_ok (l : List TFact) (hs : l.length ≤ 140737488351232) : V.pleachref27_Rises l = some (rises l) := by
  refine V.pleachref27_Rises.of _ ?_
  unfold F.pleachref27_Rises.B rises
  rcases Nat.eq_zero_or_pos l.length with h | h
  · rw [show l.length - 1 = 0 by omega]
    refine V.pleachref27_Rises.l1010.of _ _ ?_
    unfold F.pleachref27_Rises.l1010.B
    rw [if_no (by omega)]
    rfl
  · exact Rises_l l hs (l.length - 1) 1 (by omega) (by omega)

end Go.Proofs.Ytmenplonaapliaa.AE
end
section
set_option linter.unusedVariables false
set_option linter.unusedSimpArgs false
set_option maxRecDepth 20000
namespace Go.Proofs.Ytmenplonaapliaa.AE
open Go

abbrev Z1 : ByteArray := (⟨#[0]⟩ : ByteArray)

theorem indexByte_cases (c : UInt8) : ∀ l : List UInt8, (Lib.indexByte l c = -1 ∧ ∀ (i : Nat) (h : i < l.length), l[i] ≠ c) ∨ ∃ (i : Nat) (h : i < l.length), Lib.indexByte l c = (i : Int) ∧ l[i] = c ∧ ∀ (j : Nat) (h : j < i), l[j] ≠ c
  | [] => .inl ⟨rfl, fun i h => by simp at h⟩
  | b :: l => by
    simp only [Lib.indexByte]
    by_cases hb : b = c
    · exact .inr ⟨0, by simp, by simp [hb], by simpa using hb, fun j h => by omega⟩
    · have hb' : (b == c) = false := by simpa using hb
      rw [hb']
      rcases indexByte_cases c l with ⟨h1, h2⟩ | ⟨i, hi, h1, h2, h3⟩
      · refine .inl ⟨by simp [h1], fun i h => ?_⟩
        cases i with
        | zero => simpa using hb
        | succ i => simpa using h2 i (by simpa using h)
      · refine .inr ⟨i + 1, by simp; omega, ?_, by simpa using h2, fun j h => ?_⟩
        · have : ¬ ((i : Int) = -1) := by omega
          simp [h1, this]
        · cases j with
          | zero => simpa using hb
          | succ j => simpa using h3 j (by omega)

/-- Where a text has a zero. -/
def zeroAt (s : ByteArray) : Option Nat := (List.range s.size).find? fun i => byteAt s (i : Int) == 0
def partF (s : ByteArray) : ByteArray × ByteArray :=
  match zeroAt s with
  | some j => (s.extract 0 j, s.extract (j + 1) s.size)
  | none => (s, ⟨#[]⟩)

theorem zero_byte (b : UInt8) : ((b.toNat : Int) == 0) = (b == 0) := by
  rw [Bool.eq_iff_iff]
  simp only [beq_iff_eq]
  constructor
  · intro h; apply UInt8.toNat_inj.1; show b.toNat = 0; omega
  · intro h; subst h; rfl

theorem zeroAt_some {s : ByteArray} {j : Nat} : zeroAt s = some j ↔ byteAt s (j : Int) = 0 ∧ j < s.size ∧ ∀ k, k < j → byteAt s (k : Int) ≠ 0 := by
  unfold zeroAt
  rw [List.find?_range_eq_some]
  simp
theorem zeroAt_none {s : ByteArray} : zeroAt s = none ↔ ∀ k, k < s.size → byteAt s (k : Int) ≠ 0 := by
  unfold zeroAt
  rw [List.find?_range_eq_none]
  simp

theorem idxB_zero (s : ByteArray) : idxB s 0 = match zeroAt s with | some j => (j : Int) | none => -1 := by
  have hl : s.data.toList.length = s.size := data_len s
  have e : idxB s 0 = Lib.indexByte s.data.toList 0 := by unfold idxB; rw [Lib.firstIdx_eq]; rfl
  have hb : ∀ (k : Nat) (h : k < s.size), byteAt s (k : Int) = 0 ↔ s.data.toList[k]'(by rw [hl]; exact h) = 0 := fun k h => by
    rw [bt_data s k h]
    have := zero_byte (s.data.toList[k]'(by rw [hl]; exact h))
    rw [Bool.eq_iff_iff] at this
    simpa using this
  rw [e]
  rcases indexByte_cases 0 s.data.toList with ⟨h1, h2⟩ | ⟨i, hi, h1, h2, h3⟩
  · have : zeroAt s = none := zeroAt_none.2 fun k hk h => h2 k (by rw [hl]; exact hk) ((hb k hk).1 h)
    rw [h1, this]
  · rw [hl] at hi
    have : zeroAt s = some i := zeroAt_some.2 ⟨(hb i hi).2 h2, hi, fun k hk h => h3 k hk ((hb k (by omega)).1 h)⟩
    rw [h1, this]

theorem Index_ok (s : ByteArray) : V.stringslite_Index s Z1 = some (idxB s 0) := by
  have hI : ∀ c, V.stringslite_IndexByte s c = some (idxB s c) := fun c => V.stringslite_IndexByte.of s c rfl
  refine V.stringslite_Index.of s Z1 ?_
  unfold F.stringslite_Index.B
  have h1 : (Z1.size : Int) = 1 := rfl
  have h2 : byteAt Z1 0 = 0 := rfl
  rw [h1, h2]
  show (bif strEq Z1 s then some 0 else guardK (decide ((0 : Int) < 1)) ((V.stringslite_IndexByte s 0).bind fun t0 => some t0)) = _
  rw [hI, Option.bind_some, guard_dec (by omega)]
  cases he : strEq Z1 s with
  | true =>
    have := strEq_iff.1 he
    subst this
    rfl
  | false => rfl

theorem Cut_ok (s : ByteArray) (hs : s.size ≤ 140737488351232) : ∃ b, V.strings_Cut s Z1 = some ((partF s).1, (partF s).2, b) := by
  have h1 : (Z1.size : Int) = 1 := rfl
  have : ∃ b, V.stringslite_Cut s Z1 = some ((partF s).1, (partF s).2, b) := by
    have B := fun {r} => V.stringslite_Cut.of s Z1 (r := r)
    unfold F.stringslite_Cut.B at B
    rw [Index_ok, Option.bind_some, idxB_zero, h1] at B
    unfold partF
    cases hz : zeroAt s with
    | none => rw [hz] at B; exact ⟨false, B rfl⟩
    | some j =>
      rw [hz] at B
      obtain ⟨g1, g2, g3⟩ := zeroAt_some.1 hz
      dsimp only at B ⊢
      rw [w64_up g2 hs, if_yes (by omega), guard_of (by simp; omega), guard_of (by simp; omega)] at B
      exact ⟨true, B rfl⟩
  obtain ⟨b, hb⟩ := this
  refine ⟨b, V.strings_Cut.of s Z1 ?_⟩
  unfold F.strings_Cut.B
  rw [hb, Option.bind_some]

theorem Parted_ok (s : ByteArray) (hs : s.size ≤ 140737488351232) : V.facts_Parted s = some (partF s) := by
  refine V.facts_Parted.of s ?_
  obtain ⟨b, hb⟩ := Cut_ok s hs
  unfold F.facts_Parted.B
  rw [hb, Option.bind_some]

theorem refParted_l (s : ByteArray) (hs : s.size ≤ 140737488351232) : ∀ d i : Nat, i + d = s.size → (∀ k, k < i → byteAt s (k : Int) ≠ 0) → V.pleachref27_Parted.l1010 s (i : Int) = some (partF s)
  | 0, i, h, hk => by
    refine V.pleachref27_Parted.l1010.of _ _ ?_
    unfold F.pleachref27_Parted.l1010.B
    rw [if_out (by omega)]
    have : zeroAt s = none := zeroAt_none.2 fun k h => hk k (by omega)
    unfold partF
    rw [this]
  | d + 1, i, h, hk => by
    have hi : i < s.size := by omega
    refine V.pleachref27_Parted.l1010.of _ _ ?_
    unfold F.pleachref27_Parted.l1010.B
    rw [if_in hi, guard_in hi, w64_up hi hs]
    by_cases hb : byteAt s (i : Int) = 0
    · have : zeroAt s = some i := zeroAt_some.2 ⟨hb, hi, hk⟩
      rw [hb, guard_of (by simp; omega), guard_of (by simp; omega)]
      unfold partF
      rw [this]
      rfl
    · have hb' : (byteAt s (i : Int) == 0) = false := by simpa using hb
      rw [hb']
      exact refParted_l s hs d (i + 1) (by omega) fun k hk' => by
        rcases Nat.lt_or_ge k i with g | g
        · exact hk k g
        · rw [show k = i by omega]; exact hb

theorem refParted_ok (s : ByteArray) (hs : s.size ≤ 140737488351232) : V.pleachref27_Parted s = some (partF s) := by
  refine V.pleachref27_Parted.of s ?_
  unfold F.pleachref27_Parted.B
  exact refParted_l s hs s.size 0 (by omega) (fun k h => by omega)

theorem Few27_l (l : List TFact) (hl : l.length ≤ 140737488351232) : ∀ (d i : Nat) (n : Int), i + d = l.length → ∃ r, V.pleachref27_Few.l11010 l n (i : Int) = some r ∧ (r = true → l.length ≤ 120)
  | 0, i, n, h => by
    have B := fun {r} => V.pleachref27_Few.l11010.of l n (i : Int) (r := r)
    unfold F.pleachref27_Few.l11010.B at B
    rw [if_out (by omega)] at B
    by_cases hm : (l.length : Int) ≤ 120
    · exact ⟨_, B (by rw [if_yes hm]), fun _ => by omega⟩
    · exact ⟨false, B (by rw [if_no hm]), fun h => by cases h⟩
  | d + 1, i, n, h => by
    have B := fun {r} => V.pleachref27_Few.l11010.of l n (i : Int) (r := r)
    unfold F.pleachref27_Few.l11010.B at B
    have hi : i < l.length := by omega
    rw [if_in hi, guard_in hi, guard_in hi, guard_in hi, w64_up hi hl] at B
    by_cases hm : (i : Int) ≤ 120
    · rw [if_yes hm] at B
      generalize w64 _ = n' at B
      obtain ⟨r, h1, h2⟩ := Few27_l l hl d (i + 1) n' (by omega)
      exact ⟨r, B h1, h2⟩
    · rw [if_no hm] at B
      by_cases hm : (l.length : Int) ≤ 120
      · exact ⟨_, B (by rw [if_yes hm]), fun _ => by omega⟩
      · exact ⟨false, B (by rw [if_no hm]), fun h => by cases h⟩

theorem Few27_ok (l : List TFact) (hl : l.length ≤ 140737488351232) : ∃ r, V.pleachref27_Few l = some r ∧ (r = true → l.length ≤ 120) := by
  obtain ⟨r, h1, h2⟩ := Few27_l l hl l.length 0 0 (by omega)
  exact ⟨r, V.pleachref27_Few.of l (by unfold F.pleachref27_Few.B; exact h1), h2⟩

end Go.Proofs.Ytmenplonaapliaa.AE
end
section
set_option linter.unusedVariables false
set_option linter.unusedSimpArgs false
set_option maxRecDepth 20000
namespace Go.Proofs.Ytmenplonaapliaa.AE
open Go

theorem lessF_asymm {a b : TFact} (h : lessF a b = true) : lessF b a = false := by
  unfold lessF at h ⊢
  by_cases h1 : a.1 = b.1
  · have h1' : b.1 = a.1 := h1.symm
    rw [h1] at h ⊢
    simp only [bne_self_eq_false, cond_false] at h ⊢
    by_cases h2 : a.2.1 = b.2.1
    · rw [h2] at h ⊢
      simp only [strEq_self, Bool.not_true, cond_false] at h ⊢
      exact lt_asymm h
    · have h2' : b.2.1 ≠ a.2.1 := fun e => h2 e.symm
      simp only [strEq_no h2, strEq_no h2', Bool.not_false, cond_true] at h ⊢
      exact lt_asymm h
  · have h1' : b.1 ≠ a.1 := fun e => h1 e.symm
    have e1 : (a.1 != b.1) = true := by simpa using h1
    have e2 : (b.1 != a.1) = true := by simpa using h1'
    rw [e1] at h
    rw [e2]
    simp only [cond_true, decide_eq_true_eq, decide_eq_false_iff_not] at h ⊢
    omega

def keyF (a : TFact) : Int × ByteArray × ByteArray := (a.1, a.2.1, a.2.2.1)
def sameK (a b : TFact) : Bool := a.1 == b.1 && (strEq a.2.1 b.2.1 && strEq a.2.2.1 b.2.2.1)
theorem sameK_iff {a b : TFact} : sameK a b = true ↔ keyF a = keyF b := by
  unfold sameK keyF
  simp [strEq_iff]

theorem lessF_key {a b c d : TFact} (h : keyF a = keyF c) (g : keyF b = keyF d) : lessF a b = lessF c d := by
  unfold keyF at h g
  simp only [Prod.mk.injEq] at h g
  unfold lessF
  rw [h.1, h.2.1, h.2.2, g.1, g.2.1, g.2.2]
theorem lessF_cases {a b : TFact} : lessF a b = true ↔ a.1 < b.1 ∨ (a.1 = b.1 ∧ (strLt a.2.1 b.2.1 = true ∨ (a.2.1 = b.2.1 ∧ strLt a.2.2.1 b.2.2.1 = true))) := by
  unfold lessF
  by_cases h1 : a.1 = b.1
  · by_cases h2 : a.2.1 = b.2.1
    · simp [h1, h2, strEq_self, lt_irr]
    · have e : (!strEq a.2.1 b.2.1) = true := by rw [strEq_no h2]; rfl
      simp [h1, h2, e]
  · simp [h1]
theorem lessF_trans {a b c : TFact} (h : lessF a b = true) (g : lessF b c = true) : lessF a c = true := by
  rw [lessF_cases] at h g ⊢
  rcases h with h | ⟨h1, h⟩ <;> rcases g with g | ⟨g1, g⟩
  · exact .inl (by omega)
  · exact .inl (by omega)
  · exact .inl (by omega)
  · refine .inr ⟨by omega, ?_⟩
    rcases h with h | ⟨h2, h⟩ <;> rcases g with g | ⟨g2, g⟩
    · exact .inl (lt_trans h g)
    · exact .inl (g2 ▸ h)
    · exact .inl (h2 ▸ g)
    · exact .inr ⟨h2.trans g2, lt_trans h g⟩
theorem lessF_tri {a b : TFact} (h : lessF a b = false) (g : lessF b a = false) : keyF a = keyF b := by
  have h := Bool.eq_false_iff.1 h
  have g := Bool.eq_false_iff.1 g
  rw [Ne, lessF_cases] at h g
  simp only [not_or, not_and] at h g
  have e1 : a.1 = b.1 := by omega
  have h2 := h.2 e1
  have g2 := g.2 e1.symm
  have e2 : a.2.1 = b.2.1 := Classical.byContradiction fun n => by
    rcases cmpS_ne n with ⟨q, _⟩ | ⟨q, _⟩
    · exact h2.1 q
    · exact g2.1 q
  have e3 : a.2.2.1 = b.2.2.1 := Classical.byContradiction fun n => by
    rcases cmpS_ne n with ⟨q, _⟩ | ⟨q, _⟩
    · exact h2.2 e2 q
    · exact g2.2 e2.symm q
  simp [keyF, e1, e2, e3]
theorem lessF_nkey {a b : TFact} (h : lessF a b = true) : keyF a ≠ keyF b := fun e => by
  rw [lessF_key e rfl, lessF_irr] at h; cases h

/-- A row that rises. -/
def Rs : List TFact → Prop := List.Pairwise fun a b => lessF a b = true

def strip (f : TFact) : TFact := (f.1, f.2.1, f.2.2.1, (⟨#[]⟩ : ByteArray))
theorem strip_key (f : TFact) : keyF (strip f) = keyF f := rfl

/-- What two rows have. -/
def both : List TFact → List TFact → List TFact
  | [], b => b.map strip
  | x :: a, [] => strip x :: both a []
  | x :: a, y :: b => if lessF y x then strip y :: both (x :: a) b else if lessF x y then strip x :: both a (y :: b) else strip x :: both a b
termination_by a b => a.length + b.length

theorem both_mem : ∀ (a b : List TFact) (f : TFact), f ∈ both a b → ∃ z, (z ∈ a ∨ z ∈ b) ∧ keyF z = keyF f
  | [], b, f, h => by
    rw [both, List.mem_map] at h
    obtain ⟨z, hz, rfl⟩ := h
    exact ⟨z, .inr hz, rfl⟩
  | x :: a, [], f, h => by
    rw [both, List.mem_cons] at h
    rcases h with rfl | h
    · exact ⟨x, .inl (by simp), rfl⟩
    · obtain ⟨z, hz, e⟩ := both_mem a [] f h
      exact ⟨z, hz.imp (List.mem_cons_of_mem _) id, e⟩
  | x :: a, y :: b, f, h => by
    rw [both] at h
    split at h
    · rw [List.mem_cons] at h
      rcases h with rfl | h
      · exact ⟨y, .inr (by simp), rfl⟩
      · obtain ⟨z, hz, e⟩ := both_mem (x :: a) b f h
        exact ⟨z, hz.imp id (List.mem_cons_of_mem _), e⟩
    · split at h
      · rw [List.mem_cons] at h
        rcases h with rfl | h
        · exact ⟨x, .inl (by simp), rfl⟩
        · obtain ⟨z, hz, e⟩ := both_mem a (y :: b) f h
          exact ⟨z, hz.imp (List.mem_cons_of_mem _) id, e⟩
      · rw [List.mem_cons] at h
        rcases h with rfl | h
        · exact ⟨x, .inl (by simp), rfl⟩
        · obtain ⟨z, hz, e⟩ := both_mem a b f h
          exact ⟨z, hz.imp (List.mem_cons_of_mem _) (List.mem_cons_of_mem _), e⟩
termination_by a b => a.length + b.length

/-- What a row has for a key. -/
def valueOf : List TFact → TFact → ByteArray × Bool
  | [], _ => (⟨#[]⟩, false)
  | x :: l, f => if sameK x f then (x.2.2.2, true) else valueOf l f

theorem valueOf_none {l : List TFact} {f : TFact} (h : ∀ z ∈ l, keyF z ≠ keyF f) : valueOf l f = (⟨#[]⟩, false) := by
  induction l with
  | nil => rfl
  | cons x l ih =>
    have : sameK x f = false := Bool.eq_false_iff.2 fun e => h x (by simp) (sameK_iff.1 e)
    rw [valueOf, this]
    exact ih fun z hz => h z (by simp [hz])
theorem valueOf_skip {x : TFact} {l : List TFact} {f : TFact} (h : keyF x ≠ keyF f) : valueOf (x :: l) f = valueOf l f := by
  have : sameK x f = false := Bool.eq_false_iff.2 fun e => h (sameK_iff.1 e)
  rw [valueOf, this]; rfl
theorem valueOf_head {x : TFact} {l : List TFact} {f : TFact} (h : keyF x = keyF f) : valueOf (x :: l) f = (x.2.2.2, true) := by
  rw [valueOf, sameK_iff.2 h]; rfl

theorem Rs.head {x : TFact} {l : List TFact} (h : Rs (x :: l)) {z : TFact} (hz : z ∈ l) : lessF x z = true := List.rel_of_pairwise_cons h hz
theorem Rs.tail {x : TFact} {l : List TFact} (h : Rs (x :: l)) : Rs l := List.Pairwise.of_cons h

theorem filterMap_same {α β : Type} {f g : α → Option β} : ∀ {l : List α}, (∀ x ∈ l, f x = g x) → l.filterMap f = l.filterMap g
  | [], _ => rfl
  | x :: l, h => by
    rw [List.filterMap_cons, List.filterMap_cons, h x (by simp), filterMap_same (l := l) fun z hz => h z (by simp [hz])]

end Go.Proofs.Ytmenplonaapliaa.AE
end
section
set_option linter.unusedVariables false
set_option linter.unusedSimpArgs false
set_option maxRecDepth 20000
namespace Go.Proofs.Ytmenplonaapliaa.AE
open Go

end Go.Proofs.Ytmenplonaapliaa.AE
end
section
set_option linter.unusedVariables false
set_option linter.unusedSimpArgs false
set_option maxRecDepth 20000
namespace Go.Proofs.Ytmenplonaapliaa.AE
open Go

theorem nmax_big : 1000000 ≤ nmax := by decide
theorem Value_l (l : List TFact) (f : TFact) (hl : l.length ≤ 140737488351232) : ∀ d i : Nat, i + d = l.length → V.pleachref27_Value.l1010 l f (i : Int) = some (valueOf (l.drop i) f)
  | 0, i, h => by
    refine V.pleachref27_Value.l1010.of _ _ _ ?_
    unfold F.pleachref27_Value.l1010.B
    rw [if_out (by omega), List.drop_eq_nil_of_le (by omega)]; rfl
  | d + 1, i, h => by
    have hi : i < l.length := by omega
    have ih := Value_l l f hl d (i + 1) (by omega)
    refine V.pleachref27_Value.l1010.of _ _ _ ?_
    unfold F.pleachref27_Value.l1010.B
    rw [if_in hi, guard_in hi, w64_up hi hl, ih, nat_cast, drop_rd (e := sFact) hi, valueOf]
    unfold sameK
    cases ((rd sFact l i).1 == f.1) <;> cases (strEq (rd sFact l i).2.1 f.2.1) <;> cases (strEq (rd sFact l i).2.2.1 f.2.2.1) <;> rfl

theorem Value_ok (l : List TFact) (f : TFact) (hl : l.length ≤ 140737488351232) : V.pleachref27_Value l f = some (valueOf l f) := by
  refine V.pleachref27_Value.of l f ?_
  unfold F.pleachref27_Value.B
  exact Value_l l f hl l.length 0 (by omega)

end Go.Proofs.Ytmenplonaapliaa.AE
end
section
set_option linter.unusedVariables false
set_option linter.unusedSimpArgs false
set_option maxRecDepth 20000
namespace Go.Proofs.Ytmenplonaapliaa.AE
open Go

section
variable {a b : List TFact}

theorem Both_next {i k : Nat} {out : List TFact} (hi : i < a.length) (ha : a.length ≤ 100000) {r : List TFact} (h : V.pleachref27_Both.l11100 a b ((i + 1 : Nat) : Int) (k : Int) out = some r) : V.pleachref27_Both.j111000100101111 a b (i : Int) (k : Int) out = some r := by
  refine V.pleachref27_Both.j111000100101111.of _ _ _ _ _ ?_
  unfold F.pleachref27_Both.j111000100101111.B
  rw [w64_up hi (by omega)]; exact h

theorem Both_a {i k : Nat} {out : List TFact} (hi : i < a.length) (ha : a.length ≤ 100000) (hb : b.length ≤ 100000) (ho : out.length ≤ 200000) {r : List TFact}
    (h0 : b.length ≤ k → V.pleachref27_Both.l11100 a b ((i + 1 : Nat) : Int) (k : Int) (out ++ [strip (rd sFact a i)]) = some r)
    (h1 : k < b.length → lessF (rd sFact a i) (rd sFact b k) = true → V.pleachref27_Both.l11100 a b ((i + 1 : Nat) : Int) (k : Int) (out ++ [strip (rd sFact a i)]) = some r)
    (h2 : k < b.length → lessF (rd sFact a i) (rd sFact b k) = false → V.pleachref27_Both.l11100 a b ((i + 1 : Nat) : Int) ((k + 1 : Nat) : Int) (out ++ [strip (rd sFact a i)]) = some r) :
    V.pleachref27_Both.j1110001001 a b (i : Int) (k : Int) true out = some r := by
  have hn := nmax_big
  refine V.pleachref27_Both.j1110001001.of _ _ _ _ _ _ ?_
  unfold F.pleachref27_Both.j1110001001.B
  rw [cond_true, guard_in hi, guard_dec (by simp only [List.length_cons, List.length_nil]; omega), nat_cast]
  by_cases hk : k < b.length
  · rw [if_in hk, guard_in hi, guard_in hk, nat_cast, Less_ok, Option.bind_some]
    show V.pleachref27_Both.j1110001001011101 a b (i : Int) (k : Int) (!lessF (rd sFact a i) (rd sFact b k)) (out ++ [strip (rd sFact a i)]) = some r
    refine V.pleachref27_Both.j1110001001011101.of _ _ _ _ _ _ ?_
    unfold F.pleachref27_Both.j1110001001011101.B
    by_cases hl : lessF (rd sFact a i) (rd sFact b k) = true
    · rw [hl]; exact Both_next hi ha (h1 hk hl)
    · rw [Bool.eq_false_iff.2 hl, w64_up hk (by omega)]
      exact Both_next (k := k + 1) hi ha (h2 hk (Bool.eq_false_iff.2 hl))
  · rw [if_out (by omega)]
    show V.pleachref27_Both.j1110001001011101 a b (i : Int) (k : Int) false (out ++ [strip (rd sFact a i)]) = some r
    refine V.pleachref27_Both.j1110001001011101.of _ _ _ _ _ _ ?_
    unfold F.pleachref27_Both.j1110001001011101.B
    exact Both_next hi ha (h0 (by omega))

theorem Both_b {i k : Nat} {out : List TFact} (hk : k < b.length) (hb : b.length ≤ 100000) (ho : out.length ≤ 200000) {r : List TFact}
    (h : V.pleachref27_Both.l11100 a b (i : Int) ((k + 1 : Nat) : Int) (out ++ [strip (rd sFact b k)]) = some r) : V.pleachref27_Both.j1110001001 a b (i : Int) (k : Int) false out = some r := by
  have hn := nmax_big
  refine V.pleachref27_Both.j1110001001.of _ _ _ _ _ _ ?_
  unfold F.pleachref27_Both.j1110001001.B
  rw [cond_false]
  refine V.pleachref27_Both.j111000101.of _ _ _ _ _ ?_
  unfold F.pleachref27_Both.j111000101.B
  rw [guard_in hk, guard_dec (by simp only [List.length_cons, List.length_nil]; omega), nat_cast, w64_up hk (by omega)]
  exact h

theorem Both_l (ha : a.length ≤ 100000) (hb : b.length ≤ 100000) : ∀ (n i k : Nat) (out : List TFact), (a.length - i) + (b.length - k) ≤ n → i ≤ a.length → k ≤ b.length → out.length + n ≤ 200000 → V.pleachref27_Both.l11100 a b (i : Int) (k : Int) out = some (out ++ both (a.drop i) (b.drop k)) := by
  intro n
  induction n with
  | zero =>
    intro i k out h hi hk ho
    refine V.pleachref27_Both.l11100.of _ _ _ _ _ ?_
    unfold F.pleachref27_Both.l11100.B
    rw [if_out (by omega), decide_eq_false (by omega)]
    refine V.pleachref27_Both.j11100001.of _ _ _ _ _ _ ?_
    unfold F.pleachref27_Both.j11100001.B
    rw [List.drop_eq_nil_of_le (by omega), List.drop_eq_nil_of_le (by omega), both]
    simp
  | succ n ih =>
    intro i k out h hi hk ho
    by_cases hz : (a.length - i) + (b.length - k) = 0
    · exact ih i k out (by omega) hi hk (by omega)
    have enter : V.pleachref27_Both.j1110001 a b (i : Int) (k : Int) out = some (out ++ both (a.drop i) (b.drop k)) → V.pleachref27_Both.l11100 a b (i : Int) (k : Int) out = some (out ++ both (a.drop i) (b.drop k)) := fun g => by
      have g2 : V.pleachref27_Both.j11100001 a b (i : Int) (k : Int) true out = some (out ++ both (a.drop i) (b.drop k)) := by
        refine V.pleachref27_Both.j11100001.of _ _ _ _ _ _ ?_
        unfold F.pleachref27_Both.j11100001.B
        exact g
      refine V.pleachref27_Both.l11100.of _ _ _ _ _ ?_
      unfold F.pleachref27_Both.l11100.B
      by_cases hi' : i < a.length
      · rw [if_in hi']; exact g2
      · rw [if_out (by omega), decide_eq_true (by omega)]; exact g2
    refine enter ?_
    refine V.pleachref27_Both.j1110001.of _ _ _ _ _ ?_
    unfold F.pleachref27_Both.j1110001.B
    by_cases hk' : k < b.length
    · rw [show ((k : Int) == (b.length : Int)) = false by rw [beq_eq_false_iff_ne]; omega, cond_false]
      by_cases hi' : i < a.length
      · rw [if_in hi', guard_in hk', guard_in hi', nat_cast, nat_cast, Less_ok, Option.bind_some, drop_rd (e := sFact) hi', drop_rd (e := sFact) hk']
        show V.pleachref27_Both.j1110001001 a b (i : Int) (k : Int) (!lessF (rd sFact b k) (rd sFact a i)) out = _
        rw [both]
        by_cases hg : lessF (rd sFact b k) (rd sFact a i) = true
        · rw [hg, if_pos rfl]
          refine Both_b hk' hb (by omega) ?_
          rw [ih i (k + 1) _ (by omega) hi (by omega) (by simp only [List.length_append, List.length_cons, List.length_nil]; omega), drop_rd (e := sFact) hi', List.append_assoc]; rfl
        · rw [Bool.eq_false_iff.2 hg]
          refine Both_a hi' ha hb (by omega) (fun h => by omega) (fun _ hl => ?_) (fun _ hl => ?_)
          · rw [hl, ih (i + 1) k _ (by omega) (by omega) hk (by simp only [List.length_append, List.length_cons, List.length_nil]; omega), drop_rd (e := sFact) hk', List.append_assoc]; rfl
          · rw [hl, ih (i + 1) (k + 1) _ (by omega) (by omega) (by omega) (by simp only [List.length_append, List.length_cons, List.length_nil]; omega), List.append_assoc]; rfl
      · rw [if_out (by omega), List.drop_eq_nil_of_le (by omega : a.length ≤ i), drop_rd (e := sFact) hk', both, List.map_cons]
        refine Both_b hk' hb (by omega) ?_
        rw [ih i (k + 1) _ (by omega) hi (by omega) (by simp only [List.length_append, List.length_cons, List.length_nil]; omega), List.drop_eq_nil_of_le (by omega : a.length ≤ i), both, List.append_assoc]; rfl
    · have hi' : i < a.length := by omega
      rw [show ((k : Int) == (b.length : Int)) = true by rw [beq_iff_eq]; omega, cond_true, List.drop_eq_nil_of_le (by omega : b.length ≤ k), drop_rd (e := sFact) hi', both]
      refine Both_a hi' ha hb (by omega) (fun _ => ?_) (fun h => by omega) (fun h => by omega)
      rw [ih (i + 1) k _ (by omega) (by omega) hk (by simp only [List.length_append, List.length_cons, List.length_nil]; omega), List.drop_eq_nil_of_le (by omega : b.length ≤ k), List.append_assoc]; rfl

theorem Both_ok (ha : a.length ≤ 100000) (hb : b.length ≤ 100000) : V.pleachref27_Both a b = some (both a b) := by
  refine V.pleachref27_Both.of a b ?_
  unfold F.pleachref27_Both.B
  have := Both_l ha hb _ 0 0 [] (Nat.le_refl _) (by omega) (by omega) (by simp; omega)
  simpa using this

theorem both_len : ∀ a b : List TFact, (both a b).length ≤ a.length + b.length
  | [], b => by rw [both]; simp
  | x :: a, [] => by have := both_len a []; rw [both]; simp only [List.length_cons, List.length_nil] at *; omega
  | x :: a, y :: b => by
    rw [both]
    split
    · have := both_len (x :: a) b; simp only [List.length_cons] at *; omega
    · split
      · have := both_len a (y :: b); simp only [List.length_cons] at *; omega
      · have := both_len a b; simp only [List.length_cons] at *; omega
termination_by a b => a.length + b.length

end
end Go.Proofs.Ytmenplonaapliaa.AE
end
section
set_option linter.unusedVariables false
set_option linter.unusedSimpArgs false
namespace Go.Proofs.Ytmenplonaapliaa.AE
open Go

def orL : List Int → Int
  | [] => 0
  | x :: r => if x ≠ 0 then x else orL r
theorem orL_l (l : List Int) (hs : l.length ≤ 1000) : ∀ d i : Nat, i + d = l.length → V.cmp_Or_int.l11010 l (i : Int) = some (orL (l.drop i))
  | 0, i, h => by
    refine V.cmp_Or_int.l11010.of _ _ ?_
    unfold F.cmp_Or_int.l11010.B
    rw [if_out (by omega), List.drop_eq_nil_of_le (by omega)]; rfl
  | d + 1, i, h => by
    have hi : i < l.length := by omega
    refine V.cmp_Or_int.l11010.of _ _ ?_
    unfold F.cmp_Or_int.l11010.B
    rw [if_in hi, guard_in hi, w64_up hi (by omega), nat_cast, orL_l l hs d (i + 1) (by omega), drop_rd (e := .int .i64) hi]
    obtain ⟨x, hx⟩ : ∃ x : Int, x = rd (.int .i64) l i := ⟨_, rfl⟩
    rw [← hx]
    show (bif ((x : Int) != 0) then some x else some (orL (l.drop (i + 1)))) = some (if x ≠ 0 then x else orL (l.drop (i + 1)))
    by_cases g : x = 0
    · simp [g]
    · rw [show (x != 0) = true from bne_iff_ne.2 g, cond_true, if_pos g]
theorem orL_ok (l : List Int) (hs : l.length ≤ 1000) : V.cmp_Or_int l = some (orL l) := by
  refine V.cmp_Or_int.of _ ?_
  unfold F.cmp_Or_int.B
  exact orL_l l hs l.length 0 (by omega)
def factQ (c : TConflict) : TFact := (c.1, c.2.1, c.2.2.1, (⟨#[]⟩ : ByteArray))
def lessC (a b : TConflict) : Bool := if keyF (factQ a) = keyF (factQ b) then decide (a.2.2.2 < b.2.2.2) else lessF (factQ a) (factQ b)
def cmpC (a b : TConflict) : Int := if lessC a b then -1 else if lessC b a then 1 else 0
theorem lessC_asymm {a b : TConflict} (h : lessC a b = true) : lessC b a = false := by
  unfold lessC at h ⊢
  by_cases g : keyF (factQ a) = keyF (factQ b)
  · rw [if_pos g] at h; rw [if_pos g.symm]
    simp at h ⊢; omega
  · rw [if_neg g] at h; rw [if_neg (fun e => g e.symm)]
    exact lessF_asymm h
theorem rLess_ok (a b : TConflict) : V.pleachref28_Less a b = some (lessC a b) := by
  refine V.pleachref28_Less.of a b ?_
  unfold F.pleachref28_Less.B lessC
  rw [show V.pleachref27_Less (a.1, a.2.1, a.2.2.1, (⟨#[]⟩ : ByteArray)) (b.1, b.2.1, b.2.2.1, (⟨#[]⟩ : ByteArray)) = some (lessF (factQ a) (factQ b)) from Less_ok _ _, Option.bind_some]
  have e : (a.1 == b.1 && (strEq a.2.1 b.2.1 && (strEq a.2.2.1 b.2.2.1 && (strEq (⟨#[]⟩ : ByteArray) (⟨#[]⟩ : ByteArray) && true)))) = decide (keyF (factQ a) = keyF (factQ b)) := by
    rw [Bool.eq_iff_iff]
    simp [strEq_dec, keyF, factQ]
  rw [e]
  by_cases g : keyF (factQ a) = keyF (factQ b)
  · rw [if_yes g, if_pos g]
  · rw [if_no g, if_neg g]
theorem CompareC_ok (a b : TConflict) : V.three_Compare a b = some (cmpC a b) := by
  refine V.three_Compare.of a b ?_
  unfold F.three_Compare.B
  rw [cmpCompareInt_ok, Option.bind_some, stringsCompare_ok, Option.bind_some, stringsCompare_ok, Option.bind_some, cmpCompareInt_ok, Option.bind_some, orL_ok _ (by simp), Option.bind_some]
  refine congrArg some ?_
  unfold cmpC lessC factQ keyF lessF cmpI
  simp only [orL, Prod.mk.injEq]
  by_cases h1 : a.1 = b.1
  · rw [h1]
    by_cases h2 : a.2.1 = b.2.1
    · rw [h2, cmpS_self]
      by_cases h3 : a.2.2.1 = b.2.2.1
      · rw [h3, cmpS_self]
        by_cases h4 : a.2.2.2 < b.2.2.2
        · simp [h4]
        · by_cases h5 : b.2.2.2 < a.2.2.2 <;> simp [h4, h5]
      · have h3' : b.2.2.1 ≠ a.2.2.1 := fun e => h3 e.symm
        rcases cmpS_ne h3 with ⟨g1, g2⟩ | ⟨g1, g2, g3⟩
        · simp [strEq_self, g1, g2, h3]
        · simp [strEq_self, g1, g2, g3, h3, h3']
    · have h2' : b.2.1 ≠ a.2.1 := fun e => h2 e.symm
      rcases cmpS_ne h2 with ⟨g1, g2⟩ | ⟨g1, g2, g3⟩
      · simp [strEq_no h2, strEq_no h2', g1, g2, h2]
      · simp [strEq_no h2, strEq_no h2', g1, g2, g3, h2, h2']
  · have h1' : ¬ b.1 = a.1 := fun e => h1 e.symm
    by_cases h4 : a.1 < b.1
    · simp [h1, h4]
    · have h5 : b.1 < a.1 := by omega
      simp [h1, h1', h4, h5]

/-! ### How a conflict is shown -/
def kindsT : List ByteArray := [(⟨#[110, 111, 100, 101]⟩ : ByteArray), (⟨#[108, 97, 98, 101, 108]⟩ : ByteArray), (⟨#[112, 114, 111, 112, 101, 114, 116, 121]⟩ : ByteArray), (⟨#[101, 100, 103, 101]⟩ : ByteArray), (⟨#[109, 97, 114, 107]⟩ : ByteArray), (⟨#[97, 116, 116, 114, 105, 98, 117, 116, 101]⟩ : ByteArray)]
def whyT : List ByteArray := [(⟨#[98, 111, 116, 104]⟩ : ByteArray), (⟨#[101, 110, 100]⟩ : ByteArray), (⟨#[115, 116, 114, 97, 121]⟩ : ByteArray)]
abbrev blank : ByteArray := ⟨#[32]⟩
def showC (c : TConflict) : ByteArray :=
  if 1 ≤ c.1 ∧ c.1 ≤ 6 ∧ 1 ≤ c.2.2.2 ∧ c.2.2.2 ≤ 3 then
    (if c.2.2.1 = (⟨#[]⟩ : ByteArray) then (((rd .str whyT (c.2.2.2.toNat - 1) ++ blank) ++ rd .str kindsT (c.1.toNat - 1)) ++ blank) ++ c.2.1
      else ((((((rd .str whyT (c.2.2.2.toNat - 1) ++ blank) ++ rd .str kindsT (c.1.toNat - 1)) ++ blank) ++ c.2.1) ++ blank) ++ c.2.2.1))
  else ⟨#[]⟩
theorem small_g {a b : Nat} (h : a + b ≤ 1000000000000000000) {α : Type} {x : Option α} : guardK (decide (a + b ≤ i64max)) x = x := guard_of (decide_eq_true (by unfold i64max; omega))
theorem whyT_size (n : Nat) : (rd .str whyT n).size ≤ 5 := by
  by_cases h : n < 3
  · have : ∀ k : Fin 3, (rd .str whyT (k : Nat)).size ≤ 5 := by decide
    exact this ⟨n, h⟩
  · show (whyT.getD n _).size ≤ 5
    rw [List.getD_eq_getElem?_getD, List.getElem?_eq_none (show whyT.length ≤ n by show 3 ≤ n; omega)]; decide
theorem kindsT_size (n : Nat) : (rd .str kindsT n).size ≤ 9 := by
  by_cases h : n < 6
  · have : ∀ k : Fin 6, (rd .str kindsT (k : Nat)).size ≤ 9 := by decide
    exact this ⟨n, h⟩
  · show (kindsT.getD n _).size ≤ 9
    rw [List.getD_eq_getElem?_getD, List.getElem?_eq_none (show kindsT.length ≤ n by show 6 ≤ n; omega)]; decide
theorem nat_dn {k : Int} (h0 : 1 ≤ k) (h1 : k ≤ 1000) : w64 (k - 1) = ((k.toNat - 1 : Nat) : Int) := by rw [w64_id (by omega) (by omega)]; omega
theorem ShowC_ok (c : TConflict) (hi : c.2.1.size ≤ 140737488351232) (hk : c.2.2.1.size ≤ 140737488351232) : V.three_Show c = some (showC c) := by
  have s1 : blank.size = 1 := rfl
  apply V.three_Show.of; unfold F.three_Show.B
  have bad : V.three_Show.j11101 c true = some (⟨#[]⟩ : ByteArray) := V.three_Show.j11101.of _ _ rfl
  have fin : ∀ x, V.three_Show.j111111 c x = some x := fun x => V.three_Show.j111111.of _ _ rfl
  by_cases h1 : c.1 < 1
  · rw [if_yes h1, bad]; unfold showC; rw [if_neg (by omega)]
  · rw [if_no h1]
    by_cases h2 : c.1 ≥ 7
    · rw [if_yes (by exact h2), bad]; unfold showC; rw [if_neg (by omega)]
    · rw [if_no (by exact h2)]
      by_cases h3 : c.2.2.2 < 1
      · rw [if_yes h3, bad]; unfold showC; rw [if_neg (by omega)]
      · rw [if_no h3]
        by_cases h4 : c.2.2.2 ≥ 4
        · rw [decide_eq_true (by exact h4), bad]; unfold showC; rw [if_neg (by omega)]
        · rw [decide_eq_false (by exact h4)]
          apply V.three_Show.j11101.of; unfold F.three_Show.j11101.B
          have e1 : ∀ (l : List ByteArray) (n : Nat) (z : ByteArray), 1 ≤ n → rd .str (z :: l) n = rd .str l (n - 1) := fun l n z h => by
            cases n with
            | zero => omega
            | succ n => rfl
          have w1 := whyT_size (c.2.2.2.toNat - 1)
          have w2 := kindsT_size (c.1.toNat - 1)
          have q1 : rd .str ([(⟨#[]⟩ : ByteArray), (⟨#[98, 111, 116, 104]⟩ : ByteArray), (⟨#[101, 110, 100]⟩ : ByteArray), (⟨#[115, 116, 114, 97, 121]⟩ : ByteArray)]) c.2.2.2.toNat = rd .str whyT (c.2.2.2.toNat - 1) := e1 whyT _ _ (by omega)
          have q2 : rd .str ([(⟨#[]⟩ : ByteArray), (⟨#[110, 111, 100, 101]⟩ : ByteArray), (⟨#[108, 97, 98, 101, 108]⟩ : ByteArray), (⟨#[112, 114, 111, 112, 101, 114, 116, 121]⟩ : ByteArray), (⟨#[101, 100, 103, 101]⟩ : ByteArray), (⟨#[109, 97, 114, 107]⟩ : ByteArray), (⟨#[97, 116, 116, 114, 105, 98, 117, 116, 101]⟩ : ByteArray)]) c.1.toNat = rd .str kindsT (c.1.toNat - 1) := e1 kindsT _ _ (by omega)
          rw [cond_false, guard_of (by simp; omega), q1, q2, small_g (by show _ + 1 ≤ _; omega), guard_of (by simp; omega)]
          rw [small_g (by rw [ByteArray.size_append]; show _ + 1 + _ ≤ _; omega), small_g (by simp only [ByteArray.size_append]; show _ + 1 + _ + 1 ≤ _; omega), small_g (by simp only [ByteArray.size_append]; show _ + 1 + _ + 1 + _ ≤ _; omega)]
          unfold showC
          rw [if_pos (by omega), strEq_dec]
          by_cases g : c.2.2.1 = (⟨#[]⟩ : ByteArray)
          · rw [if_pos g, decide_eq_true g, Bool.not_true, cond_false, fin]
          · rw [if_neg g, decide_eq_false g, Bool.not_false, cond_true, small_g (by show 1 + _ ≤ _; omega), small_g (by simp only [ByteArray.size_append]; show _ + 1 + _ + 1 + _ + (1 + _) ≤ _; omega), fin, ← ByteArray.append_assoc]
theorem rShowC_ok (c : TConflict) (hi : c.2.1.size ≤ 140737488351232) (hk : c.2.2.1.size ≤ 140737488351232) : V.pleachref28_Show c = some (showC c) := by
  apply V.pleachref28_Show.of; unfold F.pleachref28_Show.B
  have bad : V.pleachref28_Show.j11101 c true = some (⟨#[]⟩ : ByteArray) := V.pleachref28_Show.j11101.of _ _ rfl
  have fin : ∀ x, V.pleachref28_Show.j111111 c x = some x := fun x => V.pleachref28_Show.j111111.of _ _ rfl
  by_cases h1 : c.1 < 1
  · rw [if_yes h1, bad]; unfold showC; rw [if_neg (by omega)]
  · rw [if_no h1]
    by_cases h2 : c.1 > 6
    · rw [if_yes h2, bad]; unfold showC; rw [if_neg (by omega)]
    · rw [if_no h2]
      by_cases h3 : c.2.2.2 < 1
      · rw [if_yes h3, bad]; unfold showC; rw [if_neg (by omega)]
      · rw [if_no h3]
        by_cases h4 : c.2.2.2 > 3
        · rw [decide_eq_true h4, bad]; unfold showC; rw [if_neg (by omega)]
        · rw [decide_eq_false h4]
          apply V.pleachref28_Show.j11101.of; unfold F.pleachref28_Show.j11101.B
          have w1 := whyT_size (c.2.2.2.toNat - 1)
          have w2 := kindsT_size (c.1.toNat - 1)
          rw [cond_false, nat_dn (show 1 ≤ c.2.2.2 by omega) (by omega), nat_dn (show 1 ≤ c.1 by omega) (by omega), nat_cast, nat_cast]
          rw [guard_of (show (decide (0 ≤ ((c.2.2.2.toNat - 1 : Nat) : Int)) && _) = true by simp; omega), guard_of (show (decide (0 ≤ ((c.1.toNat - 1 : Nat) : Int)) && _) = true by simp; omega)]
          rw [show [(⟨#[98, 111, 116, 104]⟩ : ByteArray), (⟨#[101, 110, 100]⟩ : ByteArray), (⟨#[115, 116, 114, 97, 121]⟩ : ByteArray)] = whyT from rfl, show [(⟨#[110, 111, 100, 101]⟩ : ByteArray), (⟨#[108, 97, 98, 101, 108]⟩ : ByteArray), (⟨#[112, 114, 111, 112, 101, 114, 116, 121]⟩ : ByteArray), (⟨#[101, 100, 103, 101]⟩ : ByteArray), (⟨#[109, 97, 114, 107]⟩ : ByteArray), (⟨#[97, 116, 116, 114, 105, 98, 117, 116, 101]⟩ : ByteArray)] = kindsT from rfl]
          rw [small_g (by show _ + 1 ≤ _; omega)]
          rw [small_g (by rw [ByteArray.size_append]; show _ + 1 + _ ≤ _; omega), small_g (by simp only [ByteArray.size_append]; show _ + 1 + _ + 1 ≤ _; omega), small_g (by simp only [ByteArray.size_append]; show _ + 1 + _ + 1 + _ ≤ _; omega)]
          unfold showC
          rw [if_pos (by omega), strEq_dec]
          by_cases g : c.2.2.1 = (⟨#[]⟩ : ByteArray)
          · rw [if_pos g, decide_eq_true g, Bool.not_true, cond_false, fin]
          · rw [if_neg g, decide_eq_false g, Bool.not_false, cond_true, small_g (by simp only [ByteArray.size_append]; show _ + 1 + _ + 1 + _ + 1 ≤ _; omega), small_g (by simp only [ByteArray.size_append]; show _ + 1 + _ + 1 + _ + 1 + _ ≤ _; omega), fin]
end Go.Proofs.Ytmenplonaapliaa.AE
end
section
set_option linter.unusedVariables false
set_option linter.unusedSimpArgs false
set_option maxRecDepth 20000
namespace Go.Proofs.Ytmenplonaapliaa.AE
open Go

theorem cmpC_lt {a b : TConflict} : cmpC a b < 0 ↔ lessC a b = true := by
  unfold cmpC
  cases lessC a b <;> cases lessC b a <;> simp
theorem lessC_irr (a : TConflict) : lessC a a = false := by unfold lessC; rw [if_pos rfl]; simp
theorem q_weakF : Weak lessC := ⟨lessC_irr, fun a b c h g => by
  unfold lessC at h g ⊢
  by_cases h1 : keyF (factQ a) = keyF (factQ b)
  · by_cases h2 : keyF (factQ b) = keyF (factQ c)
    · rw [if_pos h1] at h; rw [if_pos h2] at g; rw [if_pos (h1.trans h2)]; simp at h g ⊢; omega
    · rw [if_neg h2] at g; rw [if_neg (fun e => h2 (h1.symm.trans e)), lessF_key h1 rfl]; exact g
  · rw [if_neg h1] at h
    by_cases h2 : keyF (factQ b) = keyF (factQ c)
    · rw [if_neg (fun e => h1 (e.trans h2.symm)), ← lessF_key rfl h2]; exact h
    · rw [if_neg h2] at g
      have := lessF_trans h g
      rw [if_neg (lessF_nkey this)]; exact this, fun a b c h => by
  unfold lessC at h ⊢
  by_cases h1 : keyF (factQ a) = keyF (factQ b)
  · by_cases h2 : keyF (factQ b) = keyF (factQ c)
    · rw [if_pos (h1.trans h2)] at h; rw [if_pos h1, if_pos h2]; simp at h ⊢; omega
    · right; rw [if_neg h2, ← lessF_key h1 rfl]; rw [if_neg (fun e => h2 (h1.symm.trans e))] at h; exact h
  · by_cases h2 : keyF (factQ b) = keyF (factQ c)
    · left; rw [if_neg h1]; rw [if_neg (fun e => h1 (e.trans h2.symm))] at h; rw [lessF_key rfl h2]; exact h
    · rw [if_neg h1, if_neg h2]
      by_cases h3 : keyF (factQ a) = keyF (factQ c)
      · cases h5 : lessF (factQ a) (factQ b) with
        | true => exact .inl rfl
        | false =>
          right
          cases h6 : lessF (factQ b) (factQ a) with
          | true => rw [lessF_key rfl h3.symm]; exact h6
          | false => exact absurd (lessF_tri h5 h6) h1
      · rw [if_neg h3] at h
        cases h5 : lessF (factQ a) (factQ b) with
        | true => exact .inl rfl
        | false =>
          right
          cases h6 : lessF (factQ b) (factQ a) with
          | true => exact lessF_trans h6 h
          | false => exact absurd (lessF_tri h5 h6) h1⟩
theorem q_cmpC_dec (a b : TConflict) : decide (cmpC a b < 0) = lessC a b := by
  rw [Bool.eq_iff_iff, decide_eq_true_iff]; exact cmpC_lt

theorem q_w64_add {x y : Nat} (h : x + y ≤ 140737488351232) : w64 ((x : Int) + (y : Int)) = ((x + y : Nat) : Int) := by rw [w64_id (by omega) (by omega)]; omega
theorem q_w64_sub {x y : Nat} (h : y ≤ x) (hb : x ≤ 140737488351232) : w64 ((x : Int) - (y : Int)) = ((x - y : Nat) : Int) := by rw [w64_id (by omega) (by omega)]; omega
theorem q_half_nat' {lo hi : Nat} (hb : lo + hi ≤ 140737488351232) : w64 (Int.fdiv (IntKind.wrap .u64 (w64 ((lo : Int) + (hi : Int)))) (2 ^ 1)) = (((lo + hi) / 2 : Nat) : Int) := by
  rw [w64_id (x := (lo : Int) + hi) (by omega) (by omega), u64_id (by omega) (by omega), Int.fdiv_eq_ediv_of_nonneg _ (by omega), w64_id (by omega) (by omega)]
  omega

theorem q_swap_rd {e : Sh} {x y z l : List (den e)} {u v : den e} {i j : Nat} (hl : l = x ++ u :: (y ++ v :: z)) (hi : i = x.length) (hj : j = x.length + (1 + y.length)) : (l.set i (rd e l j)).set j (rd e l i) = x ++ v :: (y ++ u :: z) := by
  have e1 : rd e l i = u := by rw [hl]; exact app_at _ hi u
  have e2 : rd e l j = v := by
    rw [hl, show x ++ u :: (y ++ v :: z) = (x ++ u :: y) ++ v :: z by simp]
    exact app_at _ (by simp; omega) v
  rw [e1, e2, hl]
  exact swap_at u v hi hj
theorem q_swap_rd' {e : Sh} {x y z l : List (den e)} {u v : den e} {i j : Nat} (hl : l = x ++ u :: (y ++ v :: z)) (hi : i = x.length) (hj : j = x.length + (1 + y.length)) : (l.set j (rd e l i)).set i (rd e l j) = x ++ v :: (y ++ u :: z) := by
  rw [List.set_comm _ _ (by omega)]
  exact q_swap_rd hl hi hj
theorem q_rd_app {e : Sh} {x y l : List (den e)} {u : den e} {i : Nat} (hl : l = x ++ u :: y) (hi : i = x.length) : rd e l i = u := by rw [hl]; exact app_at _ hi u

theorem q_swapRange_l (a0 A X M Y S : List TConflict) (n : Nat) (hu : X.length = n) (hv : Y.length = n) (hb : (A ++ X ++ M ++ Y ++ S).length ≤ 35184372088832) (a1 a2 : Nat) (h1 : a1 = A.length) (h2 : a2 = A.length + n + M.length) : ∀ d i : Nat, i + d = n →
    V.slices_swapRangeCmpFunc_apiConflict_by_three_Compare.l10 a0 (a1 : Int) (a2 : Int) (n : Int) (i : Int) (A ++ (Y.take i ++ X.drop i) ++ M ++ (X.take i ++ Y.drop i) ++ S) = some (A ++ Y ++ M ++ X ++ S)
  | 0, i, h => by
    refine V.slices_swapRangeCmpFunc_apiConflict_by_three_Compare.l10.of _ _ _ _ _ _ ?_
    unfold F.slices_swapRangeCmpFunc_apiConflict_by_three_Compare.l10.B
    rw [if_no (by omega), List.take_of_length_le (by omega), List.take_of_length_le (by omega), List.drop_eq_nil_of_le (by omega), List.drop_eq_nil_of_le (by omega)]
    simp
  | d + 1, i, h => by
    simp only [List.length_append] at hb
    have hi : i < X.length := by omega
    have hj : i < Y.length := by omega
    obtain ⟨u, hu'⟩ : ∃ u, X.drop i = u :: X.drop (i + 1) := ⟨_, List.drop_eq_getElem_cons hi⟩
    obtain ⟨v, hv'⟩ : ∃ v, Y.drop i = v :: Y.drop (i + 1) := ⟨_, List.drop_eq_getElem_cons hj⟩
    have tu : X.take (i + 1) = X.take i ++ [u] := by
      rw [List.take_add_one, ← List.head?_drop, hu']; rfl
    have tv : Y.take (i + 1) = Y.take i ++ [v] := by
      rw [List.take_add_one, ← List.head?_drop, hv']; rfl
    have lu : (X.take i).length = i := by rw [List.length_take]; omega
    have lv : (Y.take i).length = i := by rw [List.length_take]; omega
    have ld : (X.drop (i + 1)).length = n - (i + 1) := by rw [List.length_drop, hu]
    have ih := q_swapRange_l a0 A X M Y S n hu hv (by simp only [List.length_append]; omega) a1 a2 h1 h2 d (i + 1) (by omega)
    have hL : A ++ (Y.take i ++ X.drop i) ++ M ++ (X.take i ++ Y.drop i) ++ S = (A ++ Y.take i) ++ u :: ((X.drop (i + 1) ++ M ++ X.take i) ++ v :: (Y.drop (i + 1) ++ S)) := by rw [hu', hv']; simp
    have hlen : (A ++ (Y.take i ++ X.drop i) ++ M ++ (X.take i ++ Y.drop i) ++ S).length = A.length + n + M.length + n + S.length := by simp; omega
    have sw := q_swap_rd (e := sConflict) hL (i := a1 + i) (j := a2 + i) (by simp; omega) (by simp; omega)
    generalize A ++ (Y.take i ++ X.drop i) ++ M ++ (X.take i ++ Y.drop i) ++ S = L at hL hlen sw ⊢
    refine V.slices_swapRangeCmpFunc_apiConflict_by_three_Compare.l10.of _ _ _ _ _ _ ?_
    unfold F.slices_swapRangeCmpFunc_apiConflict_by_three_Compare.l10.B
    rw [if_yes (by omega), q_w64_add (x := a2) (y := i) (by omega), q_w64_add (x := a1) (y := i) (by omega), guard_in (by omega), guard_in (by omega), meet_self, guard_in (by omega), guard_in (by rw [List.length_set]; omega), w64_up (i := i) (n := n) (by omega) (by omega)]
    simp only [nat_cast]
    show V.slices_swapRangeCmpFunc_apiConflict_by_three_Compare.l10 a0 (a1 : Int) (a2 : Int) (n : Int) ((i + 1 : Nat) : Int) ((L.set (a1 + i) (rd sConflict L (a2 + i))).set (a2 + i) (rd sConflict L (a1 + i))) = _
    rw [sw, ← ih, tu, tv]
    simp
theorem q_swapRange_ok (A X M Y S : List TConflict) (n : Nat) (hu : X.length = n) (hv : Y.length = n) (hb : (A ++ X ++ M ++ Y ++ S).length ≤ 35184372088832) (a1 a2 : Nat) (h1 : a1 = A.length) (h2 : a2 = A.length + n + M.length) :
    V.slices_swapRangeCmpFunc_apiConflict_by_three_Compare (A ++ X ++ M ++ Y ++ S) (a1 : Int) (a2 : Int) (n : Int) = some (A ++ Y ++ M ++ X ++ S) := by
  refine V.slices_swapRangeCmpFunc_apiConflict_by_three_Compare.of _ _ _ _ ?_
  unfold F.slices_swapRangeCmpFunc_apiConflict_by_three_Compare.B
  have := q_swapRange_l (A ++ X ++ M ++ Y ++ S) A X M Y S n hu hv hb a1 a2 h1 h2 n 0 (by omega)
  simpa using this

theorem q_rotate_l (a0 : List TConflict) (a1 a3 : Int) : ∀ (k : Nat) (A X Y S : List TConflict) (m : Nat), X.length + Y.length ≤ k → 0 < X.length → 0 < Y.length → (A ++ X ++ Y ++ S).length ≤ 35184372088832 → m = A.length + X.length →
    V.slices_rotateCmpFunc_apiConflict_by_three_Compare.l1100 a0 a1 (m : Int) a3 (X.length : Int) (Y.length : Int) (A ++ X ++ Y ++ S) = some (A ++ Y ++ X ++ S)
  | 0, A, X, Y, S, m, h, hu, hv, hb, hm => by omega
  | k + 1, A, X, Y, S, m, h, hu, hv, hb, hm => by
    have hb' := hb
    simp only [List.length_append] at hb'
    refine V.slices_rotateCmpFunc_apiConflict_by_three_Compare.l1100.of _ _ _ _ _ _ _ ?_
    unfold F.slices_rotateCmpFunc_apiConflict_by_three_Compare.l1100.B
    rcases Nat.lt_trichotomy X.length Y.length with hlt | heq | hgt
    · rw [show ((X.length : Int) != (Y.length : Int)) = true by simp; omega, cond_true, if_no (by omega), q_w64_sub (x := m) (y := X.length) (by omega) (by omega), q_w64_add (x := m) (y := Y.length) (by omega), q_w64_sub (x := m + Y.length) (y := X.length) (by omega) (by omega), q_w64_sub (x := Y.length) (y := X.length) (by omega) (by omega)]
      -- Y = Y1 Y2, as many in Y2 as in X
      have e : Y = Y.take (Y.length - X.length) ++ Y.drop (Y.length - X.length) := (List.take_append_drop _ _).symm
      have l1 : (Y.take (Y.length - X.length)).length = Y.length - X.length := by rw [List.length_take]; omega
      have l2 : (Y.drop (Y.length - X.length)).length = X.length := by rw [List.length_drop]; omega
      generalize Y.take (Y.length - X.length) = Y1 at e l1
      generalize Y.drop (Y.length - X.length) = Y2 at e l2
      subst e
      have ll : (Y1 ++ Y2).length - X.length = Y1.length := by simp; omega
      have hs := q_swapRange_ok A X Y1 Y2 S X.length rfl l2 (by simp only [List.length_append] at hb' ⊢; omega) (m - X.length) (m + (Y1 ++ Y2).length - X.length) (by omega) (by simp only [List.length_append]; omega)
      have hr := q_rotate_l a0 a1 a3 k A Y2 Y1 (X ++ S) m (by simp only [List.length_append] at h; omega) (by omega) (by simp only [List.length_append] at hlt; omega) (by simp only [List.length_append] at hb' ⊢; omega) (by omega)
      rw [show A ++ X ++ (Y1 ++ Y2) ++ S = A ++ X ++ Y1 ++ Y2 ++ S by simp, hs, Option.bind_some, ll]
      rw [l2] at hr
      rw [show A ++ Y2 ++ Y1 ++ X ++ S = A ++ Y2 ++ Y1 ++ (X ++ S) by simp, hr]
      simp
    · rw [show ((X.length : Int) != (Y.length : Int)) = false by simp; omega, cond_false, q_w64_sub (x := m) (y := X.length) (by omega) (by omega)]
      have hs := q_swapRange_ok A X [] Y S X.length rfl heq.symm (by simpa using hb) (m - X.length) m (by omega) (by simp; omega)
      rw [show A ++ X ++ Y ++ S = A ++ X ++ [] ++ Y ++ S by simp, hs]
      simp
    · rw [show ((X.length : Int) != (Y.length : Int)) = true by simp; omega, cond_true, if_yes (by omega), q_w64_sub (x := m) (y := X.length) (by omega) (by omega), q_w64_sub (x := X.length) (y := Y.length) (by omega) (by omega)]
      have e : X = X.take Y.length ++ X.drop Y.length := (List.take_append_drop _ _).symm
      have l1 : (X.take Y.length).length = Y.length := by rw [List.length_take]; omega
      have l2 : (X.drop Y.length).length = X.length - Y.length := by rw [List.length_drop]
      generalize X.take Y.length = X1 at e l1
      generalize X.drop Y.length = X2 at e l2
      subst e
      have hs := q_swapRange_ok A X1 X2 Y S Y.length l1 rfl (by simp only [List.length_append] at hb' ⊢; omega) (m - (X1 ++ X2).length) m (by omega) (by simp only [List.length_append] at hm ⊢; omega)
      have hr := q_rotate_l a0 a1 a3 k (A ++ Y) X2 X1 S m (by simp only [List.length_append] at h; omega) (by simp only [List.length_append] at hgt; omega) (by omega) (by simp only [List.length_append] at hb' ⊢; omega) (by simp only [List.length_append] at hm ⊢; omega)
      rw [show A ++ (X1 ++ X2) ++ Y ++ S = A ++ X1 ++ X2 ++ Y ++ S by simp, hs, Option.bind_some, show (X1 ++ X2).length - Y.length = X2.length by simp; omega]
      rw [l1] at hr
      rw [hr]
      simp
theorem q_rotate_ok (A X Y S : List TConflict) (hu : 0 < X.length) (hv : 0 < Y.length) (hb : (A ++ X ++ Y ++ S).length ≤ 35184372088832) (a m b : Nat) (ha : a = A.length) (hm : m = a + X.length) (hbb : b = m + Y.length) :
    V.slices_rotateCmpFunc_apiConflict_by_three_Compare (A ++ X ++ Y ++ S) (a : Int) (m : Int) (b : Int) = some (A ++ Y ++ X ++ S) := by
  have hb' := hb
  simp only [List.length_append] at hb'
  refine V.slices_rotateCmpFunc_apiConflict_by_three_Compare.of _ _ _ _ ?_
  unfold F.slices_rotateCmpFunc_apiConflict_by_three_Compare.B
  rw [q_w64_sub (x := m) (y := a) (by omega) (by omega), q_w64_sub (x := b) (y := m) (by omega) (by omega), show m - a = X.length by omega, show b - m = Y.length by omega]
  exact q_rotate_l _ _ _ _ A X Y S m (Nat.le_refl _) hu hv hb (by omega)

end Go.Proofs.Ytmenplonaapliaa.AE
end
section
set_option linter.unusedVariables false
set_option linter.unusedSimpArgs false
set_option maxRecDepth 20000
namespace Go.Proofs.Ytmenplonaapliaa.AE
open Go

theorem q_snoc_of {α : Type} {l : List α} {k : Nat} (h : l.length = k + 1) : ∃ y u, l = y ++ [u] ∧ y.length = k := by
  have hn : l ≠ [] := fun e => by rw [e] at h; cases h
  exact ⟨l.dropLast, l.getLast hn, (List.dropLast_concat_getLast hn).symm, by rw [List.length_dropLast]; omega⟩

/-! ### Insertions -/

theorem q_ins_in (a0 : List TConflict) (a1 : Nat) (a2 : Int) (i : Nat) : ∀ (k : Nat) (A Z1 Z2 T : List TConflict) (x : TConflict), Z1.length = k → a1 = A.length → i = A.length + Z1.length + Z2.length → (A ++ Z1 ++ x :: (Z2 ++ T)).length ≤ 35184372088832 →
    Srt lessC (Z1 ++ Z2) → (∀ z ∈ Z2, lessC x z = true) → ∀ j : Nat, j = A.length + Z1.length →
    ∃ Z', Z'.Perm (x :: (Z1 ++ Z2)) ∧ Srt lessC Z' ∧ ∀ r, V.slices_insertionSortCmpFunc_apiConflict_by_three_Compare.l10 a0 (a1 : Int) a2 ((i + 1 : Nat) : Int) (A ++ Z' ++ T) = some r →
      V.slices_insertionSortCmpFunc_apiConflict_by_three_Compare.l10010010 a0 (a1 : Int) a2 (i : Int) (j : Int) (A ++ Z1 ++ x :: (Z2 ++ T)) = some r
  | 0, A, Z1, Z2, T, x, hk, h1, hi, hb, hs, hz, j, hj => by
    have : Z1 = [] := List.length_eq_zero_iff.1 hk
    subst this
    refine ⟨x :: Z2, List.Perm.refl _, srt_cons.2 ⟨fun b hb => lessC_asymm (hz b hb), hs⟩, fun r hr => ?_⟩
    simp only [List.length_append, List.length_cons] at hb
    refine V.slices_insertionSortCmpFunc_apiConflict_by_three_Compare.l10010010.of _ _ _ _ _ _ ?_
    unfold F.slices_insertionSortCmpFunc_apiConflict_by_three_Compare.l10010010.B
    simp only [List.length_nil] at hi hj
    rw [if_no (by omega), w64_up (i := i) (n := i + 1) (by omega) (by omega), ← hr]
    simp
  | k + 1, A, Z1, Z2, T, x, hk, h1, hi, hb, hs, hz, j, hj => by
    obtain ⟨Y, u, rfl, hy⟩ := q_snoc_of hk
    have hb' := hb
    simp only [List.length_append, List.length_cons, List.length_nil] at hb' hi hj
    have hL : A ++ (Y ++ [u]) ++ x :: (Z2 ++ T) = (A ++ Y) ++ u :: ([] ++ x :: (Z2 ++ T)) := by simp
    have hlen : (A ++ (Y ++ [u]) ++ x :: (Z2 ++ T)).length = A.length + Y.length + 2 + Z2.length + T.length := by simp; omega
    have sw := q_swap_rd' (e := sConflict) hL (i := j - 1) (j := j) (by simp; omega) (by simp; omega)
    have e1 : rd sConflict (A ++ (Y ++ [u]) ++ x :: (Z2 ++ T)) j = x := q_rd_app (e := sConflict) rfl (by simp; omega)
    have e2 : rd sConflict (A ++ (Y ++ [u]) ++ x :: (Z2 ++ T)) (j - 1) = u := q_rd_app (e := sConflict) hL (by simp; omega)
    cases hc : lessC x u with
    | true =>
      obtain ⟨Z', p1, p2, p3⟩ := q_ins_in a0 a1 a2 i k A Y (u :: Z2) T x hy h1 (by simp; omega) (by simp; omega) (by simpa using hs) (fun z hz' => by
        rcases List.mem_cons.1 hz' with rfl | hz'
        · exact hc
        · exact hz z hz') (j - 1) (by omega)
      refine ⟨Z', by simpa using p1, p2, fun r hr => ?_⟩
      have h3 := p3 r hr
      generalize A ++ (Y ++ [u]) ++ x :: (Z2 ++ T) = L at hlen sw e1 e2 ⊢
      refine V.slices_insertionSortCmpFunc_apiConflict_by_three_Compare.l10010010.of _ _ _ _ _ _ ?_
      unfold F.slices_insertionSortCmpFunc_apiConflict_by_three_Compare.l10010010.B
      rw [if_yes (by omega), guard_in (by omega), show ((j : Int) - 1) = ((j : Int) - ((1 : Nat) : Int)) from rfl, q_w64_sub (x := j) (y := 1) (by omega) (by omega), guard_in (by omega)]
      simp only [nat_cast]
      rw [show V.three_Compare ((rd sConflict L j).1, (rd sConflict L j).2.1, (rd sConflict L j).2.2.1, (rd sConflict L j).2.2.2) ((rd sConflict L (j - 1)).1, (rd sConflict L (j - 1)).2.1, (rd sConflict L (j - 1)).2.2.1, (rd sConflict L (j - 1)).2.2.2) = some (cmpC (rd sConflict L j) (rd sConflict L (j - 1))) from CompareC_ok _ _, Option.bind_some, q_cmpC_dec, (show lessC (rd sConflict L j) (rd sConflict L (j - 1)) = true from by rw [e1, e2]; exact hc), cond_true, guard_in (by omega), guard_in (by omega), meet_self, guard_in (by omega), guard_in (by rw [List.length_set]; omega)]
      rw [← h3]
      show V.slices_insertionSortCmpFunc_apiConflict_by_three_Compare.l10010010 a0 (a1 : Int) a2 (i : Int) ((j - 1 : Nat) : Int) ((L.set j (rd sConflict L (j - 1))).set (j - 1) (rd sConflict L j)) = _
      rw [sw]
      simp
    | false =>
      refine ⟨(Y ++ [u]) ++ x :: Z2, List.perm_middle, insert_down q_weakF hs (.inr ⟨Y, u, rfl, hc⟩) ?_, fun r hr => ?_⟩
      · cases Z2 with
        | nil => exact .inl rfl
        | cons v w => exact .inr ⟨v, w, rfl, hz v (by simp)⟩
      · have hr' : V.slices_insertionSortCmpFunc_apiConflict_by_three_Compare.l10 a0 (a1 : Int) a2 ((i + 1 : Nat) : Int) (A ++ (Y ++ [u]) ++ x :: (Z2 ++ T)) = some r := by rw [← hr]; simp
        generalize A ++ (Y ++ [u]) ++ x :: (Z2 ++ T) = L at hlen sw e1 e2 hr' ⊢
        refine V.slices_insertionSortCmpFunc_apiConflict_by_three_Compare.l10010010.of _ _ _ _ _ _ ?_
        unfold F.slices_insertionSortCmpFunc_apiConflict_by_three_Compare.l10010010.B
        rw [if_yes (by omega), guard_in (by omega), show ((j : Int) - 1) = ((j : Int) - ((1 : Nat) : Int)) from rfl, q_w64_sub (x := j) (y := 1) (by omega) (by omega), guard_in (by omega)]
        simp only [nat_cast]
        rw [show V.three_Compare ((rd sConflict L j).1, (rd sConflict L j).2.1, (rd sConflict L j).2.2.1, (rd sConflict L j).2.2.2) ((rd sConflict L (j - 1)).1, (rd sConflict L (j - 1)).2.1, (rd sConflict L (j - 1)).2.2.1, (rd sConflict L (j - 1)).2.2.2) = some (cmpC (rd sConflict L j) (rd sConflict L (j - 1))) from CompareC_ok _ _, Option.bind_some, q_cmpC_dec, (show lessC (rd sConflict L j) (rd sConflict L (j - 1)) = false from by rw [e1, e2]; exact hc), cond_false, w64_up (i := i) (n := i + 1) (by omega) (by omega)]
        exact hr'
theorem q_ins_out (a0 : List TConflict) (a1 b : Nat) : ∀ (d : Nat) (i : Nat) (A Z T : List TConflict), a1 = A.length → i = A.length + Z.length → i + d = b → d ≤ T.length → (A ++ Z ++ T).length ≤ 35184372088832 → Srt lessC Z →
    ∃ Z', Z'.Perm (Z ++ T.take d) ∧ Srt lessC Z' ∧ V.slices_insertionSortCmpFunc_apiConflict_by_three_Compare.l10 a0 (a1 : Int) (b : Int) (i : Int) (A ++ Z ++ T) = some (A ++ Z' ++ T.drop d)
  | 0, i, A, Z, T, h1, hi, hd, ht, hb, hs => by
    refine ⟨Z, by simp, hs, ?_⟩
    refine V.slices_insertionSortCmpFunc_apiConflict_by_three_Compare.l10.of _ _ _ _ _ ?_
    unfold F.slices_insertionSortCmpFunc_apiConflict_by_three_Compare.l10.B
    rw [if_no (by omega)]
    rfl
  | d + 1, i, A, Z, [], h1, hi, hd, ht, hb, hs => by simp at ht
  | d + 1, i, A, Z, x :: T, h1, hi, hd, ht, hb, hs => by
    obtain ⟨Z', p1, p2, p3⟩ := q_ins_in a0 a1 (b : Int) i Z.length A Z [] T x rfl h1 (by simpa using hi) (by simpa using hb) (by simpa using hs) (by simp) i (by simpa using hi)
    have hl := p1.length_eq
    simp at hl
    have hb' := hb
    simp only [List.length_append, List.length_cons] at hb' ht
    obtain ⟨Z2, q1, q2, q3⟩ := q_ins_out a0 a1 b d (i + 1) A Z' T h1 (by omega) (by omega) (by omega) (by simp only [List.length_append]; omega) p2
    refine ⟨Z2, ?_, q2, ?_⟩
    · refine q1.trans ?_
      rw [List.take_succ_cons]
      refine (p1.append_right _).trans ?_
      simp only [List.append_nil]
      exact List.perm_middle.symm
    · refine V.slices_insertionSortCmpFunc_apiConflict_by_three_Compare.l10.of _ _ _ _ _ ?_
      unfold F.slices_insertionSortCmpFunc_apiConflict_by_three_Compare.l10.B
      rw [if_yes (by omega)]
      exact p3 _ q3
theorem q_ins_ok (l : List TConflict) (a b : Nat) (h : a ≤ b) (hbl : b ≤ l.length) (hb : l.length ≤ 35184372088832) : ∃ l', V.slices_insertionSortCmpFunc_apiConflict_by_three_Compare l (a : Int) (b : Int) = some l' ∧ Done lessC a b l l' := by
  have hl : (l.take a).length = a := by rw [List.length_take]; omega
  rcases Nat.eq_or_lt_of_le h with e | e
  · subst e
    refine ⟨l, ?_, ⟨[], by simp, by rw [List.drop_eq_nil_of_le (by rw [List.length_take]; omega)], srt_nil⟩⟩
    refine V.slices_insertionSortCmpFunc_apiConflict_by_three_Compare.of _ _ _ ?_
    unfold F.slices_insertionSortCmpFunc_apiConflict_by_three_Compare.B
    rw [w64_up (i := a) (n := a + 1) (by omega) (by omega)]
    refine V.slices_insertionSortCmpFunc_apiConflict_by_three_Compare.l10.of _ _ _ _ _ ?_
    unfold F.slices_insertionSortCmpFunc_apiConflict_by_three_Compare.l10.B
    rw [if_no (by omega)]
  · have hlt : a < l.length := by omega
    have e1 : l = l.take a ++ [l[a]] ++ l.drop (a + 1) := by
      rw [List.append_assoc, List.singleton_append, ← List.drop_eq_getElem_cons hlt, List.take_append_drop]
    obtain ⟨Z', q1, q2, q3⟩ := q_ins_out l a b (b - (a + 1)) (a + 1) (l.take a) [l[a]] (l.drop (a + 1)) (by omega) (by simp; omega) (by omega) (by rw [List.length_drop]; omega) (by rw [← e1]; exact hb) (srt_one _)
    refine ⟨l.take a ++ Z' ++ l.drop b, ?_, ⟨Z', rfl, ?_, q2⟩⟩
    · refine V.slices_insertionSortCmpFunc_apiConflict_by_three_Compare.of _ _ _ ?_
      unfold F.slices_insertionSortCmpFunc_apiConflict_by_three_Compare.B
      rw [w64_up (i := a) (n := a + 1) (by omega) (by omega)]
      rw [← e1, List.drop_drop, show a + 1 + (b - (a + 1)) = b by omega] at q3
      exact q3
    · refine q1.trans ?_
      have e2 : (l.take b).drop a = [l[a]] ++ (l.drop (a + 1)).take (b - (a + 1)) := by
        rw [List.drop_take, List.drop_eq_getElem_cons hlt, show b - a = (b - (a + 1)) + 1 by omega, List.take_succ_cons]
        rfl
      rw [e2]

/-! ### Merging by halves -/

theorem q_find_gen {R : Type} (p : Nat → Bool) (S : Int → Int → Option R) (E : Nat → Option R) :
    ∀ (d lo hi : Nat), hi - lo ≤ d → lo ≤ hi →
    (∀ (lo' hi' : Nat) r, lo ≤ lo' → lo' < hi' → hi' ≤ hi → (if p ((lo' + hi') / 2) = true then S (((lo' + hi') / 2 + 1 : Nat) : Int) (hi' : Int) else S (lo' : Int) (((lo' + hi') / 2 : Nat) : Int)) = some r → S (lo' : Int) (hi' : Int) = some r) →
    (∀ (i : Nat) r, lo ≤ i → i ≤ hi → E i = some r → S (i : Int) (i : Int) = some r) →
    ∃ i, lo ≤ i ∧ i ≤ hi ∧ (i = lo ∨ p (i - 1) = true) ∧ (i = hi ∨ p i = false) ∧ ∀ r, E i = some r → S (lo : Int) (hi : Int) = some r := by
  intro d
  induction d with
  | zero =>
    intro lo hi h hle h1 h2
    have e : lo = hi := by omega
    subst e
    exact ⟨lo, Nat.le_refl _, Nat.le_refl _, .inl rfl, .inl rfl, fun r hr => h2 lo r (Nat.le_refl _) (Nat.le_refl _) hr⟩
  | succ d ih =>
    intro lo hi h hle h1 h2
    rcases Nat.eq_or_lt_of_le hle with e | e
    · subst e
      exact ⟨lo, Nat.le_refl _, Nat.le_refl _, .inl rfl, .inl rfl, fun r hr => h2 lo r (Nat.le_refl _) (Nat.le_refl _) hr⟩
    · cases hp : p ((lo + hi) / 2) with
      | true =>
        obtain ⟨i, g1, g2, g3, g4, g5⟩ := ih ((lo + hi) / 2 + 1) hi (by omega) (by omega) (fun lo' hi' r q1 q2 q3 => h1 lo' hi' r (by omega) q2 q3) (fun i r q1 q2 => h2 i r (by omega) q2)
        refine ⟨i, by omega, g2, ?_, g4, fun r hr => h1 lo hi r (Nat.le_refl _) e (Nat.le_refl _) (by rw [if_pos hp]; exact g5 r hr)⟩
        rcases g3 with g3 | g3
        · right; rw [g3, Nat.add_sub_cancel]; exact hp
        · exact .inr g3
      | false =>
        obtain ⟨i, g1, g2, g3, g4, g5⟩ := ih lo ((lo + hi) / 2) (by omega) (by omega) (fun lo' hi' r q1 q2 q3 => h1 lo' hi' r q1 q2 (by omega)) (fun i r q1 q2 => h2 i r q1 (by omega))
        refine ⟨i, g1, by omega, g3, ?_, fun r hr => h1 lo hi r (Nat.le_refl _) e (Nat.le_refl _) (by rw [if_neg (by rw [hp]; simp)]; exact g5 r hr)⟩
        rcases g4 with g4 | g4
        · right; rw [g4]; exact hp
        · exact .inr g4

theorem q_up_l (a0 : List TConflict) (a1 a2 a3 : Int) (A Y1 T : List TConflict) (x : TConflict) (hb : (A ++ (Y1 ++ x :: T)).length ≤ 35184372088832) (i : Nat) (hi : i = A.length + 1 + Y1.length) : ∀ d t : Nat, t + d = Y1.length → ∀ k : Nat, k = A.length + t →
    V.slices_symMergeCmpFunc_apiConflict_by_three_Compare.l010111010 a0 a1 a2 a3 (i : Int) (k : Int) (A ++ (Y1.take t ++ x :: (Y1.drop t ++ T))) = some (A ++ (Y1 ++ x :: T))
  | 0, t, h, k, hk => by
    simp only [List.length_append, List.length_cons] at hb
    refine V.slices_symMergeCmpFunc_apiConflict_by_three_Compare.l010111010.of _ _ _ _ _ _ _ ?_
    unfold F.slices_symMergeCmpFunc_apiConflict_by_three_Compare.l010111010.B
    rw [show ((i : Int) - 1) = ((i : Int) - ((1 : Nat) : Int)) from rfl, q_w64_sub (x := i) (y := 1) (by omega) (by omega), if_no (by omega), List.take_of_length_le (by omega), List.drop_eq_nil_of_le (by omega)]
    rfl
  | d + 1, t, h, k, hk => by
    have hb' := hb
    simp only [List.length_append, List.length_cons] at hb'
    have ht : t < Y1.length := by omega
    obtain ⟨u, hu⟩ : ∃ u, Y1.drop t = u :: Y1.drop (t + 1) := ⟨_, List.drop_eq_getElem_cons ht⟩
    have tu : Y1.take (t + 1) = Y1.take t ++ [u] := by
      rw [List.take_add_one, ← List.head?_drop, hu]; rfl
    have lt' : (Y1.take t).length = t := by rw [List.length_take]; omega
    have ld : (Y1.drop (t + 1)).length = Y1.length - (t + 1) := List.length_drop
    have hL : A ++ (Y1.take t ++ x :: (Y1.drop t ++ T)) = (A ++ Y1.take t) ++ x :: ([] ++ u :: (Y1.drop (t + 1) ++ T)) := by rw [hu]; simp
    have hlen : (A ++ (Y1.take t ++ x :: (Y1.drop t ++ T))).length = A.length + 1 + Y1.length + T.length := by simp; omega
    have sw := q_swap_rd (e := sConflict) hL (i := k) (j := k + 1) (by simp; omega) (by simp; omega)
    have ih := q_up_l a0 a1 a2 a3 A Y1 T x hb i hi d (t + 1) (by omega) (k + 1) (by omega)
    generalize A ++ (Y1.take t ++ x :: (Y1.drop t ++ T)) = L at hlen sw ⊢
    refine V.slices_symMergeCmpFunc_apiConflict_by_three_Compare.l010111010.of _ _ _ _ _ _ _ ?_
    unfold F.slices_symMergeCmpFunc_apiConflict_by_three_Compare.l010111010.B
    rw [show ((i : Int) - 1) = ((i : Int) - ((1 : Nat) : Int)) from rfl, q_w64_sub (x := i) (y := 1) (by omega) (by omega), if_yes (by omega), w64_up (i := k) (n := k + 1) (by omega) (by omega), guard_in (by omega), guard_in (by omega), meet_self, guard_in (by omega), guard_in (by rw [List.length_set]; omega)]
    simp only [nat_cast]
    refine V.slices_symMergeCmpFunc_apiConflict_by_three_Compare.j010111010011.of _ _ _ _ _ _ _ ?_
    unfold F.slices_symMergeCmpFunc_apiConflict_by_three_Compare.j010111010011.B
    rw [w64_up (i := k) (n := k + 1) (by omega) (by omega), ← ih]
    show V.slices_symMergeCmpFunc_apiConflict_by_three_Compare.l010111010 a0 a1 a2 a3 (i : Int) ((k + 1 : Nat) : Int) ((L.set k (rd sConflict L (k + 1))).set (k + 1) (rd sConflict L k)) = _
    rw [sw, tu]
    simp
theorem q_down_l (a0 : List TConflict) (a1 a2 a3 : Int) (y : TConflict) (i : Nat) : ∀ (d : Nat) (B P T : List TConflict), P.length = d → i = B.length → (B ++ (P ++ y :: T)).length ≤ 35184372088832 → ∀ k : Nat, k = B.length + P.length →
    V.slices_symMergeCmpFunc_apiConflict_by_three_Compare.l1010111010 a0 a1 a2 a3 (i : Int) (k : Int) (B ++ (P ++ y :: T)) = some (B ++ y :: (P ++ T))
  | 0, B, P, T, h, hi, hb, k, hk => by
    have : P = [] := List.length_eq_zero_iff.1 h
    subst this
    refine V.slices_symMergeCmpFunc_apiConflict_by_three_Compare.l1010111010.of _ _ _ _ _ _ _ ?_
    unfold F.slices_symMergeCmpFunc_apiConflict_by_three_Compare.l1010111010.B
    simp only [List.length_nil] at hk
    rw [if_no (by omega)]
    rfl
  | d + 1, B, P, T, h, hi, hb, k, hk => by
    obtain ⟨Q, u, rfl, hq⟩ := q_snoc_of h
    have hb' := hb
    simp only [List.length_append, List.length_cons, List.length_nil] at hb' hk
    have hL : B ++ ((Q ++ [u]) ++ y :: T) = (B ++ Q) ++ u :: ([] ++ y :: T) := by simp
    have hlen : (B ++ ((Q ++ [u]) ++ y :: T)).length = B.length + Q.length + 2 + T.length := by simp; omega
    have sw := q_swap_rd' (e := sConflict) hL (i := k - 1) (j := k) (by simp; omega) (by simp; omega)
    have ih := q_down_l a0 a1 a2 a3 y i d B Q (u :: T) hq hi (by simp; omega) (k - 1) (by omega)
    generalize B ++ ((Q ++ [u]) ++ y :: T) = L at hlen sw ⊢
    refine V.slices_symMergeCmpFunc_apiConflict_by_three_Compare.l1010111010.of _ _ _ _ _ _ _ ?_
    unfold F.slices_symMergeCmpFunc_apiConflict_by_three_Compare.l1010111010.B
    rw [if_yes (by omega), show ((k : Int) - 1) = ((k : Int) - ((1 : Nat) : Int)) from rfl, q_w64_sub (x := k) (y := 1) (by omega) (by omega), guard_in (by omega), guard_in (by omega), meet_self, guard_in (by omega), guard_in (by rw [List.length_set]; omega)]
    simp only [nat_cast]
    refine V.slices_symMergeCmpFunc_apiConflict_by_three_Compare.j1010111010011.of _ _ _ _ _ _ _ ?_
    unfold F.slices_symMergeCmpFunc_apiConflict_by_three_Compare.j1010111010011.B
    rw [show ((k : Int) - 1) = ((k : Int) - ((1 : Nat) : Int)) from rfl, q_w64_sub (x := k) (y := 1) (by omega) (by omega)]
    show V.slices_symMergeCmpFunc_apiConflict_by_three_Compare.l1010111010 a0 a1 a2 a3 (i : Int) ((k - 1 : Nat) : Int) ((L.set k (rd sConflict L (k - 1))).set (k - 1) (rd sConflict L k)) = _
    rw [sw]
    have e : (B ++ Q) ++ y :: ([] ++ u :: T) = B ++ (Q ++ y :: (u :: T)) := by simp
    rw [e, ih]
    simp

/-- A place in the midst of a row. -/
theorem q_rd_mid {A X R : List TConflict} {c : Nat} (h1 : A.length ≤ c) (h2 : c < A.length + X.length) : rd sConflict (A ++ X ++ R) c = rd sConflict X (c - A.length) := by
  show (A ++ X ++ R).getD c _ = X.getD (c - A.length) _
  rw [List.getD_eq_getElem?_getD, List.getD_eq_getElem?_getD, List.getElem?_append_left (by simp; omega), List.getElem?_append_right h1]
theorem q_part_last {l : List TConflict} {k : Nat} (h : 0 < k) (hk : k ≤ l.length) : ∃ x, l.take k = x ++ [rd sConflict l (k - 1)] := ⟨l.take (k - 1), by
  have := take_rd (e := sConflict) (l := l) (i := k - 1) (by omega)
  rwa [show k - 1 + 1 = k by omega] at this⟩

end Go.Proofs.Ytmenplonaapliaa.AE
end
section
set_option linter.unusedVariables false
set_option linter.unusedSimpArgs false
set_option maxRecDepth 20000
namespace Go.Proofs.Ytmenplonaapliaa.AE
open Go

theorem q_cmp_rd (L : List TConflict) (i j : Nat) : V.three_Compare ((rd sConflict L i).1, (rd sConflict L i).2.1, (rd sConflict L i).2.2.1, (rd sConflict L i).2.2.2) ((rd sConflict L j).1, (rd sConflict L j).2.1, (rd sConflict L j).2.2.1, (rd sConflict L j).2.2.2) = some (cmpC (rd sConflict L i) (rd sConflict L j)) := CompareC_ok _ _
theorem q_part_first {l : List TConflict} {k : Nat} (hk : k < l.length) : l.drop k = rd sConflict l k :: l.drop (k + 1) := drop_rd (e := sConflict) hk

theorem q_sym_one (A Y S : List TConflict) (x : TConflict) (hs : Srt lessC Y) (hb : (A ++ [x] ++ Y ++ S).length ≤ 35184372088832) (a m b : Nat) (ha : a = A.length) (hm : m = a + 1) (hbb : b = m + Y.length) :
    ∃ Z, Z.Perm ([x] ++ Y) ∧ Srt lessC Z ∧ V.slices_symMergeCmpFunc_apiConflict_by_three_Compare.l0101100 (A ++ [x] ++ Y ++ S) (a : Int) (m : Int) (b : Int) (m : Int) (b : Int) = some (A ++ Z ++ S) := by
  have hlen : (A ++ [x] ++ Y ++ S).length = A.length + 1 + Y.length + S.length := by simp; omega
  have ex : rd sConflict (A ++ [x] ++ Y ++ S) a = x := q_rd_app (e := sConflict) (x := A) (y := Y ++ S) (by simp) ha
  have ey : ∀ c, m ≤ c → c < b → rd sConflict (A ++ [x] ++ Y ++ S) c = rd sConflict Y (c - m) := fun c h1 h2 => by
    have := q_rd_mid (A := A ++ [x]) (X := Y) (R := S) (c := c) (by simp; omega) (by simp; omega)
    rw [this]; congr 1; simp; omega
  obtain ⟨i, g1, g2, g3, g4, g5⟩ := q_find_gen (fun h => lessC (rd sConflict (A ++ [x] ++ Y ++ S) h) x)
    (fun i j => V.slices_symMergeCmpFunc_apiConflict_by_three_Compare.l0101100 (A ++ [x] ++ Y ++ S) (a : Int) (m : Int) (b : Int) i j)
    (fun i => V.slices_symMergeCmpFunc_apiConflict_by_three_Compare.l010111010 (A ++ [x] ++ Y ++ S) (a : Int) (m : Int) (b : Int) (i : Int) (a : Int) (A ++ [x] ++ Y ++ S)) (b - m) m b (by omega) (by omega)
    (fun lo hi r q1 q2 q3 hr => by
      refine V.slices_symMergeCmpFunc_apiConflict_by_three_Compare.l0101100.of _ _ _ _ _ _ ?_
      unfold F.slices_symMergeCmpFunc_apiConflict_by_three_Compare.l0101100.B
      rw [if_yes (by omega), q_half_nat' (by omega), guard_in (by omega), guard_in (by omega), nat_cast, nat_cast, q_cmp_rd, Option.bind_some, q_cmpC_dec, w64_up (n := b) (by omega) (by omega), ← hr, ex]
      cases lessC (rd sConflict (A ++ [x] ++ Y ++ S) ((lo + hi) / 2)) x <;> rfl)
    (fun i r q1 q2 hr => by
      refine V.slices_symMergeCmpFunc_apiConflict_by_three_Compare.l0101100.of _ _ _ _ _ _ ?_
      unfold F.slices_symMergeCmpFunc_apiConflict_by_three_Compare.l0101100.B
      rw [if_no (by omega)]
      exact hr)
  have eY : Y = Y.take (i - m) ++ Y.drop (i - m) := (List.take_append_drop _ _).symm
  have l1 : (Y.take (i - m)).length = i - m := by rw [List.length_take]; omega
  refine ⟨Y.take (i - m) ++ x :: Y.drop (i - m), ?_, insert_up q_weakF (by rw [← eY]; exact hs) ?_ ?_, ?_⟩
  · conv => rhs; rw [eY]
    exact List.perm_middle
  · rcases Nat.eq_or_lt_of_le g1 with e | e
    · left; rw [show i - m = 0 by omega]; rfl
    · right
      obtain ⟨y, hy⟩ := q_part_last (l := Y) (k := i - m) (by omega) (by omega)
      refine ⟨y, _, hy, ?_⟩
      rcases g3 with g3 | g3
      · omega
      · rw [ey (i - 1) (by omega) (by omega), show i - 1 - m = i - m - 1 by omega] at g3
        exact g3
  · rcases Nat.eq_or_lt_of_le g2 with e | e
    · left; exact List.drop_eq_nil_of_le (by omega)
    · right
      refine ⟨_, _, q_part_first (by omega), ?_⟩
      rcases g4 with g4 | g4
      · omega
      · rwa [ey i (by omega) (by omega)] at g4
  · refine g5 _ ?_
    have := q_up_l (A ++ [x] ++ Y ++ S) (a : Int) (m : Int) (b : Int) A (Y.take (i - m)) (Y.drop (i - m) ++ S) x (by simp; omega) i (by omega) (i - m) 0 (by omega) a (by omega)
    rw [List.take_zero, List.drop_zero, List.nil_append] at this
    have e2 : A ++ (x :: (Y.take (i - m) ++ (Y.drop (i - m) ++ S))) = A ++ [x] ++ Y ++ S := by
      rw [← List.append_assoc (Y.take (i - m)), List.take_append_drop]; simp
    rw [e2] at this
    rw [this]
    simp
theorem q_sym_one' (A X S : List TConflict) (y : TConflict) (hs : Srt lessC X) (hb : (A ++ X ++ [y] ++ S).length ≤ 35184372088832) (a m b : Nat) (ha : a = A.length) (hm : m = a + X.length) (hbb : b = m + 1) :
    ∃ Z, Z.Perm (X ++ [y]) ∧ Srt lessC Z ∧ V.slices_symMergeCmpFunc_apiConflict_by_three_Compare.l10101100 (A ++ X ++ [y] ++ S) (a : Int) (m : Int) (b : Int) (a : Int) (m : Int) = some (A ++ Z ++ S) := by
  have hlen : (A ++ X ++ [y] ++ S).length = A.length + X.length + 1 + S.length := by simp; omega
  have ey : rd sConflict (A ++ X ++ [y] ++ S) m = y := q_rd_app (e := sConflict) (x := A ++ X) (y := S) (by simp) (by simp; omega)
  have exx : ∀ c, a ≤ c → c < m → rd sConflict (A ++ X ++ [y] ++ S) c = rd sConflict X (c - a) := fun c h1 h2 => by
    have := q_rd_mid (A := A) (X := X) (R := [y] ++ S) (c := c) (by omega) (by omega)
    rw [show A ++ X ++ [y] ++ S = A ++ X ++ ([y] ++ S) by simp, this, ha]
  obtain ⟨i, g1, g2, g3, g4, g5⟩ := q_find_gen (fun h => !lessC y (rd sConflict (A ++ X ++ [y] ++ S) h))
    (fun i j => V.slices_symMergeCmpFunc_apiConflict_by_three_Compare.l10101100 (A ++ X ++ [y] ++ S) (a : Int) (m : Int) (b : Int) i j)
    (fun i => V.slices_symMergeCmpFunc_apiConflict_by_three_Compare.l1010111010 (A ++ X ++ [y] ++ S) (a : Int) (m : Int) (b : Int) (i : Int) (m : Int) (A ++ X ++ [y] ++ S)) (m - a) a m (by omega) (by omega)
    (fun lo hi r q1 q2 q3 hr => by
      refine V.slices_symMergeCmpFunc_apiConflict_by_three_Compare.l10101100.of _ _ _ _ _ _ ?_
      unfold F.slices_symMergeCmpFunc_apiConflict_by_three_Compare.l10101100.B
      rw [if_yes (by omega), q_half_nat' (by omega), guard_in (by omega), guard_in (by omega), nat_cast, nat_cast, q_cmp_rd, Option.bind_some, q_cmpC_dec, w64_up (n := m) (by omega) (by omega), ← hr, ey]
      cases lessC y (rd sConflict (A ++ X ++ [y] ++ S) ((lo + hi) / 2)) <;> rfl)
    (fun i r q1 q2 hr => by
      refine V.slices_symMergeCmpFunc_apiConflict_by_three_Compare.l10101100.of _ _ _ _ _ _ ?_
      unfold F.slices_symMergeCmpFunc_apiConflict_by_three_Compare.l10101100.B
      rw [if_no (by omega)]
      exact hr)
  have eX : X = X.take (i - a) ++ X.drop (i - a) := (List.take_append_drop _ _).symm
  have l1 : (X.take (i - a)).length = i - a := by rw [List.length_take]; omega
  have l2 : (X.drop (i - a)).length = X.length - (i - a) := List.length_drop
  refine ⟨X.take (i - a) ++ y :: X.drop (i - a), ?_, insert_down q_weakF (by rw [← eX]; exact hs) ?_ ?_, ?_⟩
  · conv => rhs; rw [eX]
    exact List.perm_middle.trans (List.perm_append_comm (l₁ := [y]))
  · rcases Nat.eq_or_lt_of_le g1 with e | e
    · left; rw [show i - a = 0 by omega]; rfl
    · right
      obtain ⟨z, hz⟩ := q_part_last (l := X) (k := i - a) (by omega) (by omega)
      refine ⟨z, _, hz, ?_⟩
      rcases g3 with g3 | g3
      · omega
      · rw [exx (i - 1) (by omega) (by omega), show i - 1 - a = i - a - 1 by omega] at g3
        simpa using g3
  · rcases Nat.eq_or_lt_of_le g2 with e | e
    · left; exact List.drop_eq_nil_of_le (by omega)
    · right
      refine ⟨_, _, q_part_first (by omega), ?_⟩
      rcases g4 with g4 | g4
      · omega
      · rw [exx i (by omega) (by omega)] at g4
        simpa using g4
  · refine g5 _ ?_
    have := q_down_l (A ++ X ++ [y] ++ S) (a : Int) (m : Int) (b : Int) y i (X.drop (i - a)).length (A ++ X.take (i - a)) (X.drop (i - a)) S rfl (by simp; omega) (by simp; omega) m (by simp; omega)
    have e2 : (A ++ X.take (i - a)) ++ (X.drop (i - a) ++ y :: S) = A ++ X ++ [y] ++ S := by
      rw [List.append_assoc A, ← List.append_assoc (X.take (i - a)), List.take_append_drop]; simp
    rw [e2] at this
    rw [this]
    simp

set_option maxHeartbeats 2000000 in
theorem q_sym_ok : ∀ (k : Nat) (A X Y S : List TConflict) (a m b : Nat), X.length + Y.length ≤ k → 0 < X.length → 0 < Y.length → (A ++ X ++ Y ++ S).length ≤ 35184372088832 → Srt lessC X → Srt lessC Y → a = A.length → m = a + X.length → b = m + Y.length →
    ∃ Z, Z.Perm (X ++ Y) ∧ Srt lessC Z ∧ V.slices_symMergeCmpFunc_apiConflict_by_three_Compare (A ++ X ++ Y ++ S) (a : Int) (m : Int) (b : Int) = some (A ++ Z ++ S)
  | 0, A, X, Y, S, a, m, b, h, hx, hy, hb, sx, sy, ha, hm, hbb => by omega
  | k + 1, A, X, Y, S, a, m, b, h, hx, hy, hb, sx, sy, ha, hm, hbb => by
    have hlen : (A ++ X ++ Y ++ S).length = A.length + X.length + Y.length + S.length := by simp; omega
    have hbn : A.length + X.length + Y.length + S.length ≤ 35184372088832 := hlen ▸ hb
    -- what the search by halves finds
    have mid_eq : w64 (Int.fdiv (IntKind.wrap .u64 (w64 ((a : Int) + (b : Int)))) (2 ^ 1)) = (((a + b) / 2 : Nat) : Int) := q_half_nat' (by omega)
    by_cases h1 : X.length = 1
    · obtain ⟨x, rfl⟩ := List.length_eq_one_iff.1 h1
      obtain ⟨Z, p1, p2, p3⟩ := q_sym_one A Y S x sy hb a m b ha (by omega) hbb
      refine ⟨Z, p1, p2, V.slices_symMergeCmpFunc_apiConflict_by_three_Compare.of _ _ _ _ ?_⟩
      unfold F.slices_symMergeCmpFunc_apiConflict_by_three_Compare.B
      rw [q_w64_sub (x := m) (y := a) (by omega) (by omega), show (((m - a : Nat) : Int) == 1) = true by simp; omega, cond_true]
      exact p3
    · by_cases h2 : Y.length = 1
      · obtain ⟨y, rfl⟩ := List.length_eq_one_iff.1 h2
        obtain ⟨Z, p1, p2, p3⟩ := q_sym_one' A X S y sx hb a m b ha hm (by simpa using hbb)
        refine ⟨Z, p1, p2, V.slices_symMergeCmpFunc_apiConflict_by_three_Compare.of _ _ _ _ ?_⟩
        unfold F.slices_symMergeCmpFunc_apiConflict_by_three_Compare.B
        rw [q_w64_sub (x := m) (y := a) (by omega) (by omega), show (((m - a : Nat) : Int) == 1) = false by simp; omega, cond_false, q_w64_sub (x := b) (y := m) (by omega) (by omega), show (((b - m : Nat) : Int) == 1) = true by simp; simp at hbb; omega, cond_true]
        exact p3
      · obtain ⟨mid, hmid⟩ : ∃ mid, mid = (a + b) / 2 := ⟨_, rfl⟩
        rw [← hmid] at mid_eq
        obtain ⟨s0, r0, hs0⟩ : ∃ s0 r0 : Nat, (mid < m ∧ s0 = mid + m - b ∧ r0 = mid) ∨ (m ≤ mid ∧ s0 = a ∧ r0 = m) := by
          rcases Nat.lt_or_ge mid m with g | g
          · exact ⟨_, _, .inl ⟨g, rfl, rfl⟩⟩
          · exact ⟨_, _, .inr ⟨g, rfl, rfl⟩⟩
        have exx : ∀ c, a ≤ c → c < m → rd sConflict (A ++ X ++ Y ++ S) c = rd sConflict X (c - a) := fun c q1 q2 => by
          have := q_rd_mid (A := A) (X := X) (R := Y ++ S) (c := c) (by omega) (by omega)
          rw [show A ++ X ++ Y ++ S = A ++ X ++ (Y ++ S) by simp, this, ha]
        have eyy : ∀ c, m ≤ c → c < b → rd sConflict (A ++ X ++ Y ++ S) c = rd sConflict Y (c - m) := fun c q1 q2 => by
          have := q_rd_mid (A := A ++ X) (X := Y) (R := S) (c := c) (by simp; omega) (by simp; omega)
          rw [this]; congr 1; simp; omega
        obtain ⟨L, hL⟩ : ∃ L, L = A ++ X ++ Y ++ S := ⟨_, rfl⟩
        rw [← hL] at hlen exx eyy ⊢
        obtain ⟨st, g1, g2, g3, g4, g5⟩ := q_find_gen (fun c => !lessC (rd sConflict L (mid + m - 1 - c)) (rd sConflict L c))
          (fun i j => V.slices_symMergeCmpFunc_apiConflict_by_three_Compare.l111111100 L (a : Int) (m : Int) (b : Int) i j)
          (fun c => bif decide (c < m) then V.slices_symMergeCmpFunc_apiConflict_by_three_Compare.j11111111101 L (a : Int) (m : Int) (b : Int) (c : Int) ((mid + m - c : Nat) : Int) (decide (m < mid + m - c)) else V.slices_symMergeCmpFunc_apiConflict_by_three_Compare.j11111111101 L (a : Int) (m : Int) (b : Int) (c : Int) ((mid + m - c : Nat) : Int) false) (r0 - s0) s0 r0 (by omega) (by omega)
          (fun lo hi r q1 q2 q3 hr => by
            refine V.slices_symMergeCmpFunc_apiConflict_by_three_Compare.l111111100.of _ _ _ _ _ _ ?_
            unfold F.slices_symMergeCmpFunc_apiConflict_by_three_Compare.l111111100.B
            rw [if_yes (by omega), mid_eq, q_half_nat' (by omega), q_w64_add (x := mid) (y := m) (by omega), show (((mid + m : Nat) : Int) - 1) = (((mid + m : Nat) : Int) - ((1 : Nat) : Int)) from rfl, q_w64_sub (x := mid + m) (y := 1) (by omega) (by omega), q_w64_sub (x := mid + m - 1) (y := (lo + hi) / 2) (by omega) (by omega), guard_in (by omega), guard_in (by omega), nat_cast, nat_cast, q_cmp_rd, Option.bind_some, q_cmpC_dec, w64_up (n := r0) (by omega) (by omega), ← hr]
            cases lessC (rd sConflict L (mid + m - 1 - (lo + hi) / 2)) (rd sConflict L ((lo + hi) / 2)) <;> rfl)
          (fun i r q1 q2 hr => by
            refine V.slices_symMergeCmpFunc_apiConflict_by_three_Compare.l111111100.of _ _ _ _ _ _ ?_
            unfold F.slices_symMergeCmpFunc_apiConflict_by_three_Compare.l111111100.B
            rw [if_no (by omega), mid_eq, q_w64_add (x := mid) (y := m) (by omega), q_w64_sub (x := mid + m) (y := i) (by omega) (by omega), ← hr]
            by_cases q : i < m
            · rw [if_yes (by omega), if_yes q]
              congr 2
              exact propext (by omega)
            · rw [if_no (by omega), if_no q])
        obtain ⟨en, hen⟩ : ∃ en, en = mid + m - st := ⟨_, rfl⟩
        rw [← hen] at g5
        have b1 : a ≤ st := by omega
        have b2 : st ≤ m := by omega
        have b3 : m ≤ en := by omega
        have b4 : en ≤ b := by omega
        obtain ⟨X1, hX1⟩ : ∃ X1, X1 = X.take (st - a) := ⟨_, rfl⟩
        obtain ⟨X2, hX2⟩ : ∃ X2, X2 = X.drop (st - a) := ⟨_, rfl⟩
        obtain ⟨Y1, hY1⟩ : ∃ Y1, Y1 = Y.take (en - m) := ⟨_, rfl⟩
        obtain ⟨Y2, hY2⟩ : ∃ Y2, Y2 = Y.drop (en - m) := ⟨_, rfl⟩
        have eX : X = X1 ++ X2 := by rw [hX1, hX2, List.take_append_drop]
        have eY : Y = Y1 ++ Y2 := by rw [hY1, hY2, List.take_append_drop]
        have lX1 : X1.length = st - a := by rw [hX1, List.length_take]; omega
        have lX2 : X2.length = m - st := by rw [hX2, List.length_drop]; omega
        have lY1 : Y1.length = en - m := by rw [hY1, List.length_take]; omega
        have lY2 : Y2.length = b - en := by rw [hY2, List.length_drop]; omega
        rw [eX] at sx
        rw [eY] at sy
        have hh := halves q_weakF sx sy
          (by
            by_cases q : st = s0
            · rcases hs0 with ⟨q1, q2, q3⟩ | ⟨q1, q2, q3⟩
              · right; left; exact List.length_eq_zero_iff.1 (by omega)
              · left; exact List.length_eq_zero_iff.1 (by omega)
            · by_cases q2 : en = b
              · right; left; exact List.length_eq_zero_iff.1 (by omega)
              · right; right
                obtain ⟨z, hz⟩ := q_part_last (l := X) (k := st - a) (by omega) (by omega)
                refine ⟨_, z, _, _, by rw [hX1]; exact hz, by rw [hY2]; exact q_part_first (by omega), ?_⟩
                rcases g3 with g3 | g3
                · exact absurd g3 q
                · rw [show mid + m - 1 - (st - 1) = en by omega, eyy en (by omega) (by omega), exx (st - 1) (by omega) (by omega), show st - 1 - a = st - a - 1 by omega] at g3
                  simpa using g3)
          (by
            by_cases q : st = r0
            · rcases hs0 with ⟨q1, q2, q3⟩ | ⟨q1, q2, q3⟩
              · left; exact List.length_eq_zero_iff.1 (by omega)
              · right; left; exact List.length_eq_zero_iff.1 (by omega)
            · right; right
              obtain ⟨z, hz⟩ := q_part_last (l := Y) (k := en - m) (by omega) (by omega)
              refine ⟨_, z, _, _, by rw [hY1]; exact hz, by rw [hX2]; exact q_part_first (by omega), ?_⟩
              rcases g4 with g4 | g4
              · exact absurd g4 q
              · rw [show mid + m - 1 - st = en - 1 by omega, eyy (en - 1) (by omega) (by omega), exx st (by omega) (by omega), show en - 1 - m = en - m - 1 by omega] at g4
                simpa using g4)
        obtain ⟨sx1, sx2, _⟩ := srt_app.1 sx
        obtain ⟨sy1, sy2, _⟩ := srt_app.1 sy
        have hb2 : A.length + (X1.length + X2.length) + (Y1.length + Y2.length) + S.length ≤ 35184372088832 := by
          have e1 : X.length = X1.length + X2.length := by rw [eX, List.length_append]
          have e2 : Y.length = Y1.length + Y2.length := by rw [eY, List.length_append]
          omega
        -- the first half
        obtain ⟨Z1, p1, p2, p3⟩ : ∃ Z1, Z1.Perm (X1 ++ Y1) ∧ Srt lessC Z1 ∧ ∀ r, V.slices_symMergeCmpFunc_apiConflict_by_three_Compare.j11111111111 L (a : Int) (m : Int) (b : Int) (en : Int) (A ++ Z1 ++ (X2 ++ Y2 ++ S)) = some r →
            V.slices_symMergeCmpFunc_apiConflict_by_three_Compare.j1111111111 L (a : Int) (m : Int) (b : Int) (st : Int) (en : Int) (A ++ X1 ++ Y1 ++ (X2 ++ Y2 ++ S)) = some r := by
          have join : ∀ (flag : Bool) (L1 : List TConflict) (r : List TConflict), flag = false → V.slices_symMergeCmpFunc_apiConflict_by_three_Compare.j11111111111 L (a : Int) (m : Int) (b : Int) (en : Int) L1 = some r → V.slices_symMergeCmpFunc_apiConflict_by_three_Compare.j111111111101 L (a : Int) (m : Int) (b : Int) (st : Int) (en : Int) flag L1 = some r := fun flag L1 r hf hr => by
            subst hf
            refine V.slices_symMergeCmpFunc_apiConflict_by_three_Compare.j111111111101.of _ _ _ _ _ _ _ _ ?_
            unfold F.slices_symMergeCmpFunc_apiConflict_by_three_Compare.j111111111101.B
            exact hr
          by_cases q1 : a < st
          · by_cases q2 : st < mid
            · obtain ⟨Z1, p1, p2, p3⟩ := q_sym_ok k A X1 Y1 (X2 ++ Y2 ++ S) a st mid (by omega) (by omega) (by omega) (by simp only [List.length_append]; omega) sx1 sy1 ha (by omega) (by omega)
              refine ⟨Z1, p1, p2, fun r hr => ?_⟩
              refine V.slices_symMergeCmpFunc_apiConflict_by_three_Compare.j1111111111.of _ _ _ _ _ _ _ ?_
              unfold F.slices_symMergeCmpFunc_apiConflict_by_three_Compare.j1111111111.B
              rw [if_yes (by omega), mid_eq, show decide ((st : Int) < (mid : Int)) = true by simp; omega]
              refine V.slices_symMergeCmpFunc_apiConflict_by_three_Compare.j111111111101.of _ _ _ _ _ _ _ _ ?_
              unfold F.slices_symMergeCmpFunc_apiConflict_by_three_Compare.j111111111101.B
              rw [cond_true, mid_eq, p3, Option.bind_some]
              exact hr
            · have e : Y1 = [] := List.length_eq_zero_iff.1 (by omega)
              refine ⟨X1, by rw [e, List.append_nil], sx1, fun r hr => ?_⟩
              refine V.slices_symMergeCmpFunc_apiConflict_by_three_Compare.j1111111111.of _ _ _ _ _ _ _ ?_
              unfold F.slices_symMergeCmpFunc_apiConflict_by_three_Compare.j1111111111.B
              rw [if_yes (by omega), mid_eq]
              exact join _ _ r (by simp; omega) (by rw [e]; simpa using hr)
          · have e : X1 = [] := List.length_eq_zero_iff.1 (by omega)
            refine ⟨Y1, by rw [e, List.nil_append], sy1, fun r hr => ?_⟩
            refine V.slices_symMergeCmpFunc_apiConflict_by_three_Compare.j1111111111.of _ _ _ _ _ _ _ ?_
            unfold F.slices_symMergeCmpFunc_apiConflict_by_three_Compare.j1111111111.B
            rw [if_no (by omega)]
            exact join _ _ r rfl (by rw [e]; simpa using hr)
        have lZ1 : Z1.length = mid - a := by rw [p1.length_eq, List.length_append]; omega
        -- the second half
        obtain ⟨Z2, p4, p5, p6⟩ : ∃ Z2, Z2.Perm (X2 ++ Y2) ∧ Srt lessC Z2 ∧ V.slices_symMergeCmpFunc_apiConflict_by_three_Compare.j11111111111 L (a : Int) (m : Int) (b : Int) (en : Int) (A ++ Z1 ++ (X2 ++ Y2 ++ S)) = some (A ++ Z1 ++ (Z2 ++ S)) := by
          have join : ∀ (flag : Bool) (L1 : List TConflict), flag = false → V.slices_symMergeCmpFunc_apiConflict_by_three_Compare.j111111111111 L (a : Int) (m : Int) (b : Int) (en : Int) flag L1 = some L1 := fun flag L1 hf => by
            subst hf
            refine V.slices_symMergeCmpFunc_apiConflict_by_three_Compare.j111111111111.of _ _ _ _ _ _ _ ?_
            rfl
          by_cases q1 : mid < en
          · by_cases q2 : en < b
            · obtain ⟨Z2, p4, p5, p6⟩ := q_sym_ok k (A ++ Z1) X2 Y2 S mid en b (by omega) (by omega) (by omega) (by simp only [List.length_append]; omega) sx2 sy2 (by simp only [List.length_append]; omega) (by omega) (by omega)
              refine ⟨Z2, p4, p5, ?_⟩
              refine V.slices_symMergeCmpFunc_apiConflict_by_three_Compare.j11111111111.of _ _ _ _ _ _ ?_
              unfold F.slices_symMergeCmpFunc_apiConflict_by_three_Compare.j11111111111.B
              rw [mid_eq, if_yes (by omega), show decide ((en : Int) < (b : Int)) = true by simp; omega]
              refine V.slices_symMergeCmpFunc_apiConflict_by_three_Compare.j111111111111.of _ _ _ _ _ _ _ ?_
              unfold F.slices_symMergeCmpFunc_apiConflict_by_three_Compare.j111111111111.B
              rw [cond_true, mid_eq, show A ++ Z1 ++ (X2 ++ Y2 ++ S) = A ++ Z1 ++ X2 ++ Y2 ++ S by simp, p6]
              simp
            · have e : Y2 = [] := List.length_eq_zero_iff.1 (by omega)
              refine ⟨X2, by rw [e, List.append_nil], sx2, ?_⟩
              refine V.slices_symMergeCmpFunc_apiConflict_by_three_Compare.j11111111111.of _ _ _ _ _ _ ?_
              unfold F.slices_symMergeCmpFunc_apiConflict_by_three_Compare.j11111111111.B
              rw [mid_eq, if_yes (by omega), join _ _ (by simp; omega), e]
              simp
          · have e : X2 = [] := List.length_eq_zero_iff.1 (by omega)
            refine ⟨Y2, by rw [e, List.nil_append], sy2, ?_⟩
            refine V.slices_symMergeCmpFunc_apiConflict_by_three_Compare.j11111111111.of _ _ _ _ _ _ ?_
            unfold F.slices_symMergeCmpFunc_apiConflict_by_three_Compare.j11111111111.B
            rw [mid_eq, if_no (by omega), join _ _ rfl, e]
            simp
        have p7 := p3 _ p6
        refine ⟨Z1 ++ Z2, ?_, ?_, ?_⟩
        · rw [eX, eY]
          refine (p1.append p4).trans ?_
          simp only [List.append_assoc]
          refine List.Perm.append_left _ ?_
          rw [← List.append_assoc, ← List.append_assoc]
          exact List.perm_append_comm.append_right _
        · exact srt_app.2 ⟨p2, p5, fun u hu v hv => hh u (p1.subset hu) v (p4.subset hv)⟩
        · have q7 : V.slices_symMergeCmpFunc_apiConflict_by_three_Compare.l111111100 L (a : Int) (m : Int) (b : Int) (s0 : Int) (r0 : Int) = some (A ++ (Z1 ++ Z2) ++ S) := by
            refine g5 _ ?_
            have e0 : A ++ (Z1 ++ Z2) ++ S = A ++ Z1 ++ (Z2 ++ S) := by simp
            rw [e0]
            by_cases q1 : st < m
            · rw [if_yes q1]
              refine V.slices_symMergeCmpFunc_apiConflict_by_three_Compare.j11111111101.of _ _ _ _ _ _ _ ?_
              unfold F.slices_symMergeCmpFunc_apiConflict_by_three_Compare.j11111111101.B
              by_cases q2 : m < en
              · have hr := q_rotate_ok (A ++ X1) X2 Y1 (Y2 ++ S) (by omega) (by omega) (by simp only [List.length_append]; omega) st m en (by simp only [List.length_append]; omega) (by omega) (by omega)
                rw [show A ++ X1 ++ X2 ++ Y1 ++ (Y2 ++ S) = L by rw [hL, eX, eY]; simp] at hr
                rw [if_yes q2, hr, Option.bind_some, ← p7]
                simp
              · have e : Y1 = [] := List.length_eq_zero_iff.1 (by omega)
                rw [if_no q2, ← p7, hL, eX, eY, e]
                simp
            · have e : X2 = [] := List.length_eq_zero_iff.1 (by omega)
              rw [if_no q1]
              refine V.slices_symMergeCmpFunc_apiConflict_by_three_Compare.j11111111101.of _ _ _ _ _ _ _ ?_
              unfold F.slices_symMergeCmpFunc_apiConflict_by_three_Compare.j11111111101.B
              rw [cond_false, ← p7, hL, eX, eY, e]
              simp
          have q8 : V.slices_symMergeCmpFunc_apiConflict_by_three_Compare.j111111 L (a : Int) (m : Int) (b : Int) (s0 : Int) (r0 : Int) = some (A ++ (Z1 ++ Z2) ++ S) := by
            refine V.slices_symMergeCmpFunc_apiConflict_by_three_Compare.j111111.of _ _ _ _ _ _ ?_
            unfold F.slices_symMergeCmpFunc_apiConflict_by_three_Compare.j111111.B
            exact q7
          refine V.slices_symMergeCmpFunc_apiConflict_by_three_Compare.of _ _ _ _ ?_
          unfold F.slices_symMergeCmpFunc_apiConflict_by_three_Compare.B
          rw [q_w64_sub (x := m) (y := a) (by omega) (by omega), show (((m - a : Nat) : Int) == 1) = false by simp; omega, cond_false, q_w64_sub (x := b) (y := m) (by omega) (by omega), show (((b - m : Nat) : Int) == 1) = false by simp; omega, cond_false, mid_eq]
          rcases hs0 with ⟨q1, q2, q3⟩ | ⟨q1, q2, q3⟩
          · rw [if_yes (by omega), q_w64_add (x := mid) (y := m) (by omega), q_w64_sub (x := mid + m) (y := b) (by omega) (by omega), ← q2, ← q3]
            exact q8
          · rw [if_no (by omega)]
            rw [q2, q3] at q8
            exact q8

/-- A merge of two neighbours. -/
theorem q_merge_ok (l : List TConflict) (a m b : Nat) (h1 : a < m) (h2 : m < b) (h3 : b ≤ l.length) (hb : l.length ≤ 35184372088832) (sx : Srt lessC ((l.take m).drop a)) (sy : Srt lessC ((l.take b).drop m)) :
    ∃ l', V.slices_symMergeCmpFunc_apiConflict_by_three_Compare l (a : Int) (m : Int) (b : Int) = some l' ∧ Done lessC a b l l' := by
  have e : l = l.take a ++ (l.take m).drop a ++ (l.take b).drop m ++ l.drop b := by
    have e1 := seg_split (l.take b) (a := a) (b := m) (by omega)
    have e2 : (l.take b).take m = l.take m := by rw [List.take_take, Nat.min_eq_left (by omega)]
    have e3 : (l.take b).take a = l.take a := by rw [List.take_take, Nat.min_eq_left (by omega)]
    rw [e2, e3] at e1
    rw [← e1, List.take_append_drop]
  have l0 : (l.take a).length = a := by rw [List.length_take]; omega
  have l1 : ((l.take m).drop a).length = m - a := by rw [List.length_drop, List.length_take]; omega
  have l2 : ((l.take b).drop m).length = b - m := by rw [List.length_drop, List.length_take]; omega
  obtain ⟨Z, p1, p2, p3⟩ := q_sym_ok _ (l.take a) ((l.take m).drop a) ((l.take b).drop m) (l.drop b) a m b (Nat.le_refl _) (by omega) (by omega) (by rw [← e]; exact hb) sx sy l0.symm (by omega) (by omega)
  rw [← e] at p3
  refine ⟨_, p3, ⟨Z, rfl, p1.trans ?_, p2⟩⟩
  have e4 : (l.take b).drop a = (l.take m).drop a ++ (l.take b).drop m := by
    conv => lhs; rw [← List.take_append_drop m (l.take b), List.take_take, Nat.min_eq_left (by omega : m ≤ b)]
    rw [List.drop_append, List.length_take, Nat.min_eq_left (by omega : m ≤ l.length), show a - m = 0 by omega, List.drop_zero]
  rw [e4]

end Go.Proofs.Ytmenplonaapliaa.AE
end
section
set_option linter.unusedVariables false
set_option linter.unusedSimpArgs false
set_option maxRecDepth 20000
namespace Go.Proofs.Ytmenplonaapliaa.AE
open Go

/-- Each block of so many is sorted. -/
def q_AllB (k : Nat) (l : List TConflict) : Prop := ∀ j : Nat, Srt lessC ((l.drop (j * k)).take k)
theorem q_srt_past {l : List TConflict} {c k : Nat} (h : l.length ≤ c) : Srt lessC ((l.drop c).take k) := by
  rw [List.drop_eq_nil_of_le h, List.take_nil]; exact srt_nil
theorem q_seg_take (l : List TConflict) (a k : Nat) : (l.take (a + k)).drop a = (l.drop a).take k := by rw [List.drop_take]; congr 1; omega

theorem q_blocks_l (a0 : List TConflict) (n : Nat) (hn : n ≤ 35184372088832) : ∀ (d q : Nat) (l : List TConflict), n - q * 20 ≤ d → q * 20 ≤ n → l.length = n → (∀ j, j < q → Srt lessC ((l.drop (j * 20)).take 20)) → ∀ a b : Nat, a = q * 20 → b = a + 20 →
    ∃ l', l'.Perm l ∧ q_AllB 20 l' ∧ ∀ r, V.slices_stableCmpFunc_apiConflict_by_three_Compare.l11110 a0 (n : Int) 20 l' = some r → V.slices_stableCmpFunc_apiConflict_by_three_Compare.l1100 a0 (n : Int) (a : Int) (b : Int) l = some r := by
  intro d
  induction d with
  | zero =>
    intro q l h1 h2 h3 h4 a b ha hb
    obtain ⟨l', g1, g2⟩ := q_ins_ok l a n (by omega) (by omega) (by omega)
    have gl := g2.len (by omega)
    refine ⟨l', g2.perm (by omega), fun j => ?_, fun r hr => ?_⟩
    · rcases Nat.lt_or_ge j q with hj | hj
      · have := h4 j hj
        rw [← q_seg_take] at this ⊢
        rwa [g2.take (by omega) (by omega) (by omega)]
      · exact q_srt_past (by omega)
    · refine V.slices_stableCmpFunc_apiConflict_by_three_Compare.l1100.of _ _ _ _ _ ?_
      unfold F.slices_stableCmpFunc_apiConflict_by_three_Compare.l1100.B
      rw [if_no (by omega), g1, Option.bind_some]
      exact hr
  | succ d ih =>
    intro q l h1 h2 h3 h4 a b ha hb
    by_cases hle : b ≤ n
    · obtain ⟨l1, g1, g2⟩ := q_ins_ok l a b (by omega) (by omega) (by omega)
      have gl := g2.len (by omega)
      obtain ⟨l', p1, p2, p3⟩ := ih (q + 1) l1 (by omega) (by omega) (by omega) (fun j hj => by
        rw [← q_seg_take]
        rcases Nat.lt_or_ge j q with hq | hq
        · have := h4 j hq
          rw [← q_seg_take] at this
          rwa [g2.take (by omega) (by omega) (by omega)]
        · have e : j * 20 = a := by omega
          rw [e, ← hb]
          exact g2.mid (by omega) (by omega)) b (b + 20) (by omega) rfl
      refine ⟨l', p1.trans (g2.perm (by omega)), p2, fun r hr => ?_⟩
      have h5 := p3 r hr
      refine V.slices_stableCmpFunc_apiConflict_by_three_Compare.l1100.of _ _ _ _ _ ?_
      unfold F.slices_stableCmpFunc_apiConflict_by_three_Compare.l1100.B
      rw [if_yes (by omega), g1, Option.bind_some, show ((b : Int) + 20) = ((b : Int) + ((20 : Nat) : Int)) from rfl, q_w64_add (x := b) (y := 20) (by omega)]
      exact h5
    · obtain ⟨l', g1, g2⟩ := q_ins_ok l a n (by omega) (by omega) (by omega)
      have gl := g2.len (by omega)
      refine ⟨l', g2.perm (by omega), fun j => ?_, fun r hr => ?_⟩
      · rcases Nat.lt_trichotomy j q with hj | hj | hj
        · have := h4 j hj
          rw [← q_seg_take] at this ⊢
          rwa [g2.take (by omega) (by omega) (by omega)]
        · have := g2.mid (by omega) (by omega)
          rw [List.take_of_length_le (by omega)] at this
          rw [hj, ← ha]
          exact srt_take this _
        · exact q_srt_past (by omega)
      · refine V.slices_stableCmpFunc_apiConflict_by_three_Compare.l1100.of _ _ _ _ _ ?_
        unfold F.slices_stableCmpFunc_apiConflict_by_three_Compare.l1100.B
        rw [if_no (by omega), g1, Option.bind_some]
        exact hr

theorem q_pass_l (a0 : List TConflict) (n k : Nat) (hn : n ≤ 35184372088832) (hk : 0 < k) (hkn : k < n) : ∀ (d q : Nat) (l : List TConflict), n - q * (2 * k) ≤ d → q * (2 * k) ≤ n → l.length = n →
    (∀ j, j < q → Srt lessC ((l.drop (j * (2 * k))).take (2 * k))) → (∀ j, 2 * q ≤ j → Srt lessC ((l.drop (j * k)).take k)) → ∀ a b : Nat, a = q * (2 * k) → b = a + 2 * k →
    ∃ l', l'.Perm l ∧ q_AllB (2 * k) l' ∧ ∀ r, V.slices_stableCmpFunc_apiConflict_by_three_Compare.l11110 a0 (n : Int) ((2 * k : Nat) : Int) l' = some r → V.slices_stableCmpFunc_apiConflict_by_three_Compare.l11110010100 a0 (n : Int) (k : Int) (a : Int) (b : Int) l = some r := by
  intro d
  induction d with
  | zero =>
    intro q l h1 h2 h3 h4 h5 a b ha hb
    refine ⟨l, List.Perm.refl _, fun j => ?_, fun r hr => ?_⟩
    · rcases Nat.lt_or_ge j q with hj | hj
      · exact h4 j hj
      · have := Nat.mul_le_mul_right (2 * k) hj
        exact q_srt_past (by omega)
    · refine V.slices_stableCmpFunc_apiConflict_by_three_Compare.l11110010100.of _ _ _ _ _ _ ?_
      unfold F.slices_stableCmpFunc_apiConflict_by_three_Compare.l11110010100.B
      rw [if_no (by omega), q_w64_add (x := a) (y := k) (by omega), if_no (by omega), show ((k : Int) * 2) = ((k : Int) + (k : Int)) by omega, q_w64_add (x := k) (y := k) (by omega), show k + k = 2 * k by omega]
      exact hr
  | succ d ih =>
    intro q l h1 h2 h3 h4 h5 a b ha hb
    have e2 : 2 * q * k = a := by rw [ha, Nat.mul_comm 2 q, Nat.mul_assoc]
    have e3 : (2 * q + 1) * k = a + k := by rw [Nat.add_mul, e2, Nat.one_mul]
    have s1 := h5 (2 * q) (Nat.le_refl _)
    have s2 := h5 (2 * q + 1) (by omega)
    rw [e2, ← q_seg_take] at s1
    rw [e3, ← q_seg_take] at s2
    by_cases hle : b ≤ n
    · obtain ⟨l1, g1, g2⟩ := q_merge_ok l a (a + k) b (by omega) (by omega) (by omega) (by omega) s1 (by rw [show b = a + k + k by omega]; exact s2)
      have gl := g2.len (by omega)
      have e4 : (q + 1) * (2 * k) = b := by rw [Nat.add_mul, Nat.one_mul]; omega
      obtain ⟨l', p1, p2, p3⟩ := ih (q + 1) l1 (by omega) (by omega) (by omega) (fun j hj => by
        rw [← q_seg_take]
        rcases Nat.lt_or_ge j q with hq | hq
        · have := h4 j hq
          rw [← q_seg_take] at this
          have hm := Nat.mul_le_mul_right (2 * k) (show j + 1 ≤ q by omega)
          rw [Nat.add_mul, Nat.one_mul] at hm
          rwa [g2.take (by omega) (by omega) (by omega)]
        · have e : j * (2 * k) = a := by rw [ha]; congr 1; omega
          rw [e, ← hb]
          exact g2.mid (by omega) (by omega)) (fun j hj => by
        have hm := Nat.mul_le_mul_right k hj
        have e5 : 2 * (q + 1) * k = b := by rw [← e4, Nat.mul_comm 2 (q + 1), Nat.mul_assoc]
        rw [g2.drop (by omega) (by omega) (by omega)]
        exact h5 j (by omega)) b (b + 2 * k) e4.symm rfl
      refine ⟨l', p1.trans (g2.perm (by omega)), p2, fun r hr => ?_⟩
      have h6 := p3 r hr
      refine V.slices_stableCmpFunc_apiConflict_by_three_Compare.l11110010100.of _ _ _ _ _ _ ?_
      unfold F.slices_stableCmpFunc_apiConflict_by_three_Compare.l11110010100.B
      rw [if_yes (by omega), q_w64_add (x := a) (y := k) (by omega), g1, Option.bind_some, show (2 * (k : Int)) = ((k : Int) + (k : Int)) by omega, q_w64_add (x := k) (y := k) (by omega), q_w64_add (x := b) (y := k + k) (by omega), show b + (k + k) = b + 2 * k by omega]
      exact h6
    · have rest : ∀ j, q < j → l.length ≤ j * (2 * k) := fun j hj => by
        have hm := Nat.mul_le_mul_right (2 * k) (show q + 1 ≤ j by omega)
        rw [Nat.add_mul, Nat.one_mul] at hm
        omega
      by_cases hm : a + k < n
      · obtain ⟨l1, g1, g2⟩ := q_merge_ok l a (a + k) n (by omega) (by omega) (by omega) (by omega) s1 (by
          rw [List.take_of_length_le (by omega)] at s2 ⊢
          exact s2)
        have gl := g2.len (by omega)
        refine ⟨l1, g2.perm (by omega), fun j => ?_, fun r hr => ?_⟩
        · rcases Nat.lt_trichotomy j q with hj | hj | hj
          · have := h4 j hj
            rw [← q_seg_take] at this ⊢
            have hm := Nat.mul_le_mul_right (2 * k) (show j + 1 ≤ q by omega)
            rw [Nat.add_mul, Nat.one_mul] at hm
            rwa [g2.take (by omega) (by omega) (by omega)]
          · have := g2.mid (by omega) (by omega)
            rw [List.take_of_length_le (by omega)] at this
            rw [hj, ← ha]
            exact srt_take this _
          · exact q_srt_past (by rw [gl]; exact rest j hj)
        · refine V.slices_stableCmpFunc_apiConflict_by_three_Compare.l11110010100.of _ _ _ _ _ _ ?_
          unfold F.slices_stableCmpFunc_apiConflict_by_three_Compare.l11110010100.B
          rw [if_no (by omega), q_w64_add (x := a) (y := k) (by omega), if_yes (by omega), g1, Option.bind_some, show ((k : Int) * 2) = ((k : Int) + (k : Int)) by omega, q_w64_add (x := k) (y := k) (by omega), show k + k = 2 * k by omega]
          exact hr
      · refine ⟨l, List.Perm.refl _, fun j => ?_, fun r hr => ?_⟩
        · rcases Nat.lt_trichotomy j q with hj | hj | hj
          · exact h4 j hj
          · rw [List.take_of_length_le (by omega)] at s1
            rw [hj, ← ha]
            exact srt_take s1 _
          · exact q_srt_past (rest j hj)
        · refine V.slices_stableCmpFunc_apiConflict_by_three_Compare.l11110010100.of _ _ _ _ _ _ ?_
          unfold F.slices_stableCmpFunc_apiConflict_by_three_Compare.l11110010100.B
          rw [if_no (by omega), q_w64_add (x := a) (y := k) (by omega), if_no (by omega), show ((k : Int) * 2) = ((k : Int) + (k : Int)) by omega, q_w64_add (x := k) (y := k) (by omega), show k + k = 2 * k by omega]
          exact hr
theorem q_passes_l (a0 : List TConflict) (n : Nat) (hn : n ≤ 35184372088832) : ∀ (d k : Nat) (l : List TConflict), n - k ≤ d → 0 < k → l.length = n → q_AllB k l → ∃ l', l'.Perm l ∧ Srt lessC l' ∧ V.slices_stableCmpFunc_apiConflict_by_three_Compare.l11110 a0 (n : Int) (k : Int) l = some l' := by
  intro d
  induction d with
  | zero =>
    intro k l h1 h2 h3 h4
    have := h4 0
    rw [Nat.zero_mul, List.drop_zero, List.take_of_length_le (by omega)] at this
    refine ⟨l, List.Perm.refl _, this, ?_⟩
    refine V.slices_stableCmpFunc_apiConflict_by_three_Compare.l11110.of _ _ _ _ ?_
    unfold F.slices_stableCmpFunc_apiConflict_by_three_Compare.l11110.B
    rw [if_no (by omega)]
  | succ d ih =>
    intro k l h1 h2 h3 h4
    by_cases hk : k < n
    · obtain ⟨l1, p1, p2, p3⟩ := q_pass_l a0 n k hn h2 hk n 0 l (by omega) (by omega) h3 (by omega) (fun j _ => h4 j) 0 (2 * k) (by omega) (by omega)
      obtain ⟨l', q1, q2, q3⟩ := ih (2 * k) l1 (by omega) (by omega) (by rw [p1.length_eq, h3]) p2
      refine ⟨l', q1.trans p1, q2, ?_⟩
      refine V.slices_stableCmpFunc_apiConflict_by_three_Compare.l11110.of _ _ _ _ ?_
      unfold F.slices_stableCmpFunc_apiConflict_by_three_Compare.l11110.B
      rw [if_yes (by omega), show (2 * (k : Int)) = ((k : Int) + (k : Int)) by omega, q_w64_add (x := k) (y := k) (by omega), show k + k = 2 * k by omega]
      exact p3 _ q3
    · exact ih k l (by omega) h2 h3 h4
theorem q_sort_ok (l : List TConflict) (hb : l.length ≤ 35184372088832) : ∃ l', V.slices_SortStableFunc_apiConflictapiConflict_by_three_Compare l = some l' ∧ l'.Perm l ∧ Srt lessC l' := by
  obtain ⟨l1, p1, p2, p3⟩ := q_blocks_l l l.length hb l.length 0 l (by omega) (by omega) rfl (by omega) 0 20 rfl rfl
  obtain ⟨l', q1, q2, q3⟩ := q_passes_l l l.length hb l.length 20 l1 (by omega) (by omega) p1.length_eq p2
  refine ⟨l', ?_, q1.trans p1, q2⟩
  refine V.slices_SortStableFunc_apiConflictapiConflict_by_three_Compare.of _ ?_
  unfold F.slices_SortStableFunc_apiConflictapiConflict_by_three_Compare.B
  have h : V.slices_stableCmpFunc_apiConflict_by_three_Compare l (l.length : Int) = some l' := by
    refine V.slices_stableCmpFunc_apiConflict_by_three_Compare.of _ _ ?_
    unfold F.slices_stableCmpFunc_apiConflict_by_three_Compare.B
    exact p3 _ q3
  rw [h, Option.bind_some]
/-- What is sorted is the row of the same ones that rises. -/
theorem q_sort_is (l k : List TConflict) (hb : l.length ≤ 35184372088832) (hp : l.Perm k) (hk : k.Pairwise fun a b => lessC a b = true) : V.slices_SortStableFunc_apiConflictapiConflict_by_three_Compare l = some k := by
  obtain ⟨l', h1, h2, h3⟩ := q_sort_ok l hb
  rw [h1, srt_unique q_weakF (h2.trans hp) h3 hk]

end Go.Proofs.Ytmenplonaapliaa.AE
end
section
set_option linter.unusedVariables false
set_option linter.unusedSimpArgs false
set_option maxRecDepth 20000
namespace Go.Proofs.Ytmenplonaapliaa.AE
open Go

theorem tl_take {α : Type} (y : α) (b : List α) : ((y :: b).take (((y :: b).length : Int).toNat)).drop 1 = b := by
  show ((y :: b).take (y :: b).length).drop 1 = b
  rw [List.take_length]; rfl
theorem tl_pos {α : Type} (y : α) (b : List α) : 0 < ((y :: b).length : Int) := by simp only [List.length_cons]; omega
theorem tl_one {α : Type} (y : α) (b : List α) : (decide (1 ≤ ((y :: b).length : Int)) && decide (((y :: b).length : Int) ≤ ((y :: b).length : Int))) = true := by
  have := tl_pos y b
  rw [Bool.and_eq_true]; exact ⟨decide_eq_true (by omega), decide_eq_true (by omega)⟩
/-- Which of three rows has the least head: the first of these; -1: none. -/
def best2 (X Y : List TFact) : Int := match X, Y with
  | [], [] => -1
  | _ :: _, [] => 0
  | [], _ :: _ => 1
  | x :: _, y :: _ => if lessF y x then 1 else 0
def best3 (X Y Z : List TFact) : Int := match Z with
  | [] => best2 X Y
  | z :: _ => if best2 X Y = 0 then (match X with | x :: _ => if lessF z x then 2 else 0 | [] => 2) else if best2 X Y = 1 then (match Y with | y :: _ => if lessF z y then 2 else 1 | [] => 2) else 2
section
variable {a0 : List TFact × (List TFact × List TFact)} {out : List Tcolumn} {r : List Tcolumn}
theorem bs0_n_e {Y Z : List TFact} (h : V.three_lay.l110001010 a0 (-1) [] Y Z 1 [] Y Z out = some r) : V.three_lay.l110001010 a0 (-1) [] Y Z 0 [] Y Z out = some r := by
  apply V.three_lay.l110001010.of; unfold F.three_lay.l110001010.B
  rw [show decide ((0 : Int) < 3) = true from rfl, cond_true, show ((0 : Int) == 0) = true from rfl, cond_true, show (decide (((([] : List TFact).length : Nat) : Int) > 0)) = false from rfl, cond_false]
  apply V.three_lay.j1100010100110011.of; unfold F.three_lay.j1100010100110011.B
  apply V.three_lay.j1100010100111.of; unfold F.three_lay.j1100010100111.B
  exact h
theorem bs0_n_c {x : TFact} {X Y Z : List TFact} (h : V.three_lay.l110001010 a0 0 (x :: X) Y Z 1 (x :: X) Y Z out = some r) : V.three_lay.l110001010 a0 (-1) (x :: X) Y Z 0 (x :: X) Y Z out = some r := by
  apply V.three_lay.l110001010.of; unfold F.three_lay.l110001010.B
  rw [show decide ((0 : Int) < 3) = true from rfl, cond_true, show ((0 : Int) == 0) = true from rfl, cond_true, decide_eq_true (show (((x :: X).length : Nat) : Int) > 0 from tl_pos _ _), cond_true, show decide ((-1 : Int) < 0) = true from rfl, cond_true]
  apply V.three_lay.j1100010100110011.of; unfold F.three_lay.j1100010100110011.B
  apply V.three_lay.j1100010100111.of; unfold F.three_lay.j1100010100111.B
  exact h
theorem bs1_n_e {X Z : List TFact} (h : V.three_lay.l110001010 a0 (-1) X [] Z 2 X [] Z out = some r) : V.three_lay.l110001010 a0 (-1) X [] Z 1 X [] Z out = some r := by
  apply V.three_lay.l110001010.of; unfold F.three_lay.l110001010.B
  rw [show decide ((1 : Int) < 3) = true from rfl, cond_true, show ((1 : Int) == 0) = false from rfl, cond_false, show ((1 : Int) == 1) = true from rfl, cond_true, show (decide (((([] : List TFact).length : Nat) : Int) > 0)) = false from rfl, cond_false]
  apply V.three_lay.j1100010100110011.of; unfold F.three_lay.j1100010100110011.B
  apply V.three_lay.j1100010100111.of; unfold F.three_lay.j1100010100111.B
  exact h
theorem bs1_n_c {y : TFact} {X Y Z : List TFact} (h : V.three_lay.l110001010 a0 1 X (y :: Y) Z 2 X (y :: Y) Z out = some r) : V.three_lay.l110001010 a0 (-1) X (y :: Y) Z 1 X (y :: Y) Z out = some r := by
  apply V.three_lay.l110001010.of; unfold F.three_lay.l110001010.B
  rw [show decide ((1 : Int) < 3) = true from rfl, cond_true, show ((1 : Int) == 0) = false from rfl, cond_false, show ((1 : Int) == 1) = true from rfl, cond_true, decide_eq_true (show (((y :: Y).length : Nat) : Int) > 0 from tl_pos _ _), cond_true, show decide ((-1 : Int) < 0) = true from rfl, cond_true]
  apply V.three_lay.j1100010100110011.of; unfold F.three_lay.j1100010100110011.B
  apply V.three_lay.j1100010100111.of; unfold F.three_lay.j1100010100111.B
  exact h
theorem bs1_0_e {X Z : List TFact} (h : V.three_lay.l110001010 a0 0 X [] Z 2 X [] Z out = some r) : V.three_lay.l110001010 a0 0 X [] Z 1 X [] Z out = some r := by
  apply V.three_lay.l110001010.of; unfold F.three_lay.l110001010.B
  rw [show decide ((1 : Int) < 3) = true from rfl, cond_true, show ((1 : Int) == 0) = false from rfl, cond_false, show ((1 : Int) == 1) = true from rfl, cond_true, show (decide (((([] : List TFact).length : Nat) : Int) > 0)) = false from rfl, cond_false]
  apply V.three_lay.j1100010100110011.of; unfold F.three_lay.j1100010100110011.B
  apply V.three_lay.j1100010100111.of; unfold F.three_lay.j1100010100111.B
  exact h
theorem bs1_0_y {y x : TFact} {X Y Z : List TFact} (hl : lessF y x = true) (h : V.three_lay.l110001010 a0 1 (x :: X) (y :: Y) Z 2 (x :: X) (y :: Y) Z out = some r) : V.three_lay.l110001010 a0 0 (x :: X) (y :: Y) Z 1 (x :: X) (y :: Y) Z out = some r := by
  apply V.three_lay.l110001010.of; unfold F.three_lay.l110001010.B
  rw [show decide ((1 : Int) < 3) = true from rfl, cond_true, show ((1 : Int) == 0) = false from rfl, cond_false, show ((1 : Int) == 1) = true from rfl, cond_true, decide_eq_true (show (((y :: Y).length : Nat) : Int) > 0 from tl_pos _ _), cond_true, show decide ((0 : Int) < 0) = false from rfl, cond_false, guard_tt, show ((0 : Int) == 0) = true from rfl, cond_true, guard_dec (tl_pos _ _)]
  rw [show V.facts_Compare ((rd sFact (y :: Y) 0).1, ((rd sFact (y :: Y) 0).2).1, (((rd sFact (y :: Y) 0).2).2).1, (((rd sFact (y :: Y) 0).2).2).2) ((rd sFact (x :: X) 0).1, ((rd sFact (x :: X) 0).2).1, (((rd sFact (x :: X) 0).2).2).1, (((rd sFact (x :: X) 0).2).2).2) = some (cmpF y x) from Compare_ok _ _, Option.bind_some, decide_eq_true (cmpF_lt.2 hl)]
  apply V.three_lay.j1100010100110011.of; unfold F.three_lay.j1100010100110011.B
  apply V.three_lay.j1100010100111.of; unfold F.three_lay.j1100010100111.B
  exact h
theorem bs1_0_n {y x : TFact} {X Y Z : List TFact} (hl : lessF y x = false) (h : V.three_lay.l110001010 a0 0 (x :: X) (y :: Y) Z 2 (x :: X) (y :: Y) Z out = some r) : V.three_lay.l110001010 a0 0 (x :: X) (y :: Y) Z 1 (x :: X) (y :: Y) Z out = some r := by
  apply V.three_lay.l110001010.of; unfold F.three_lay.l110001010.B
  rw [show decide ((1 : Int) < 3) = true from rfl, cond_true, show ((1 : Int) == 0) = false from rfl, cond_false, show ((1 : Int) == 1) = true from rfl, cond_true, decide_eq_true (show (((y :: Y).length : Nat) : Int) > 0 from tl_pos _ _), cond_true, show decide ((0 : Int) < 0) = false from rfl, cond_false, guard_tt, show ((0 : Int) == 0) = true from rfl, cond_true, guard_dec (tl_pos _ _)]
  rw [show V.facts_Compare ((rd sFact (y :: Y) 0).1, ((rd sFact (y :: Y) 0).2).1, (((rd sFact (y :: Y) 0).2).2).1, (((rd sFact (y :: Y) 0).2).2).2) ((rd sFact (x :: X) 0).1, ((rd sFact (x :: X) 0).2).1, (((rd sFact (x :: X) 0).2).2).1, (((rd sFact (x :: X) 0).2).2).2) = some (cmpF y x) from Compare_ok _ _, Option.bind_some, decide_eq_false (fun g => by rw [cmpF_lt.1 g] at hl; cases hl)]
  apply V.three_lay.j1100010100110011.of; unfold F.three_lay.j1100010100110011.B
  apply V.three_lay.j1100010100111.of; unfold F.three_lay.j1100010100111.B
  exact h
theorem bs2_n_e {X Y : List TFact} (h : V.three_lay.l110001010 a0 (-1) X Y [] 3 X Y [] out = some r) : V.three_lay.l110001010 a0 (-1) X Y [] 2 X Y [] out = some r := by
  apply V.three_lay.l110001010.of; unfold F.three_lay.l110001010.B
  rw [show decide ((2 : Int) < 3) = true from rfl, cond_true, show ((2 : Int) == 0) = false from rfl, cond_false, show ((2 : Int) == 1) = false from rfl, cond_false, show ((2 : Int) == 2) = true from rfl, cond_true, show (decide (((([] : List TFact).length : Nat) : Int) > 0)) = false from rfl, cond_false]
  apply V.three_lay.j1100010100110011.of; unfold F.three_lay.j1100010100110011.B
  apply V.three_lay.j1100010100111.of; unfold F.three_lay.j1100010100111.B
  exact h
theorem bs2_n_c {z : TFact} {X Y Z : List TFact} (h : V.three_lay.l110001010 a0 2 X Y (z :: Z) 3 X Y (z :: Z) out = some r) : V.three_lay.l110001010 a0 (-1) X Y (z :: Z) 2 X Y (z :: Z) out = some r := by
  apply V.three_lay.l110001010.of; unfold F.three_lay.l110001010.B
  rw [show decide ((2 : Int) < 3) = true from rfl, cond_true, show ((2 : Int) == 0) = false from rfl, cond_false, show ((2 : Int) == 1) = false from rfl, cond_false, show ((2 : Int) == 2) = true from rfl, cond_true, decide_eq_true (show (((z :: Z).length : Nat) : Int) > 0 from tl_pos _ _), cond_true, show decide ((-1 : Int) < 0) = true from rfl, cond_true]
  apply V.three_lay.j1100010100110011.of; unfold F.three_lay.j1100010100110011.B
  apply V.three_lay.j1100010100111.of; unfold F.three_lay.j1100010100111.B
  exact h
theorem bs2_0_e {X Y : List TFact} (h : V.three_lay.l110001010 a0 0 X Y [] 3 X Y [] out = some r) : V.three_lay.l110001010 a0 0 X Y [] 2 X Y [] out = some r := by
  apply V.three_lay.l110001010.of; unfold F.three_lay.l110001010.B
  rw [show decide ((2 : Int) < 3) = true from rfl, cond_true, show ((2 : Int) == 0) = false from rfl, cond_false, show ((2 : Int) == 1) = false from rfl, cond_false, show ((2 : Int) == 2) = true from rfl, cond_true, show (decide (((([] : List TFact).length : Nat) : Int) > 0)) = false from rfl, cond_false]
  apply V.three_lay.j1100010100110011.of; unfold F.three_lay.j1100010100110011.B
  apply V.three_lay.j1100010100111.of; unfold F.three_lay.j1100010100111.B
  exact h
theorem bs2_0_y {z x : TFact} {X Y Z : List TFact} (hl : lessF z x = true) (h : V.three_lay.l110001010 a0 2 (x :: X) Y (z :: Z) 3 (x :: X) Y (z :: Z) out = some r) : V.three_lay.l110001010 a0 0 (x :: X) Y (z :: Z) 2 (x :: X) Y (z :: Z) out = some r := by
  apply V.three_lay.l110001010.of; unfold F.three_lay.l110001010.B
  rw [show decide ((2 : Int) < 3) = true from rfl, cond_true, show ((2 : Int) == 0) = false from rfl, cond_false, show ((2 : Int) == 1) = false from rfl, cond_false, show ((2 : Int) == 2) = true from rfl, cond_true, decide_eq_true (show (((z :: Z).length : Nat) : Int) > 0 from tl_pos _ _), cond_true, show decide ((0 : Int) < 0) = false from rfl, cond_false, guard_tt, show ((0 : Int) == 0) = true from rfl, cond_true, guard_dec (tl_pos _ _)]
  rw [show V.facts_Compare ((rd sFact (z :: Z) 0).1, ((rd sFact (z :: Z) 0).2).1, (((rd sFact (z :: Z) 0).2).2).1, (((rd sFact (z :: Z) 0).2).2).2) ((rd sFact (x :: X) 0).1, ((rd sFact (x :: X) 0).2).1, (((rd sFact (x :: X) 0).2).2).1, (((rd sFact (x :: X) 0).2).2).2) = some (cmpF z x) from Compare_ok _ _, Option.bind_some, decide_eq_true (cmpF_lt.2 hl)]
  apply V.three_lay.j1100010100110011.of; unfold F.three_lay.j1100010100110011.B
  apply V.three_lay.j1100010100111.of; unfold F.three_lay.j1100010100111.B
  exact h
theorem bs2_0_n {z x : TFact} {X Y Z : List TFact} (hl : lessF z x = false) (h : V.three_lay.l110001010 a0 0 (x :: X) Y (z :: Z) 3 (x :: X) Y (z :: Z) out = some r) : V.three_lay.l110001010 a0 0 (x :: X) Y (z :: Z) 2 (x :: X) Y (z :: Z) out = some r := by
  apply V.three_lay.l110001010.of; unfold F.three_lay.l110001010.B
  rw [show decide ((2 : Int) < 3) = true from rfl, cond_true, show ((2 : Int) == 0) = false from rfl, cond_false, show ((2 : Int) == 1) = false from rfl, cond_false, show ((2 : Int) == 2) = true from rfl, cond_true, decide_eq_true (show (((z :: Z).length : Nat) : Int) > 0 from tl_pos _ _), cond_true, show decide ((0 : Int) < 0) = false from rfl, cond_false, guard_tt, show ((0 : Int) == 0) = true from rfl, cond_true, guard_dec (tl_pos _ _)]
  rw [show V.facts_Compare ((rd sFact (z :: Z) 0).1, ((rd sFact (z :: Z) 0).2).1, (((rd sFact (z :: Z) 0).2).2).1, (((rd sFact (z :: Z) 0).2).2).2) ((rd sFact (x :: X) 0).1, ((rd sFact (x :: X) 0).2).1, (((rd sFact (x :: X) 0).2).2).1, (((rd sFact (x :: X) 0).2).2).2) = some (cmpF z x) from Compare_ok _ _, Option.bind_some, decide_eq_false (fun g => by rw [cmpF_lt.1 g] at hl; cases hl)]
  apply V.three_lay.j1100010100110011.of; unfold F.three_lay.j1100010100110011.B
  apply V.three_lay.j1100010100111.of; unfold F.three_lay.j1100010100111.B
  exact h
theorem bs2_1_e {X Y : List TFact} (h : V.three_lay.l110001010 a0 1 X Y [] 3 X Y [] out = some r) : V.three_lay.l110001010 a0 1 X Y [] 2 X Y [] out = some r := by
  apply V.three_lay.l110001010.of; unfold F.three_lay.l110001010.B
  rw [show decide ((2 : Int) < 3) = true from rfl, cond_true, show ((2 : Int) == 0) = false from rfl, cond_false, show ((2 : Int) == 1) = false from rfl, cond_false, show ((2 : Int) == 2) = true from rfl, cond_true, show (decide (((([] : List TFact).length : Nat) : Int) > 0)) = false from rfl, cond_false]
  apply V.three_lay.j1100010100110011.of; unfold F.three_lay.j1100010100110011.B
  apply V.three_lay.j1100010100111.of; unfold F.three_lay.j1100010100111.B
  exact h
theorem bs2_1_y {z y : TFact} {X Y Z : List TFact} (hl : lessF z y = true) (h : V.three_lay.l110001010 a0 2 X (y :: Y) (z :: Z) 3 X (y :: Y) (z :: Z) out = some r) : V.three_lay.l110001010 a0 1 X (y :: Y) (z :: Z) 2 X (y :: Y) (z :: Z) out = some r := by
  apply V.three_lay.l110001010.of; unfold F.three_lay.l110001010.B
  rw [show decide ((2 : Int) < 3) = true from rfl, cond_true, show ((2 : Int) == 0) = false from rfl, cond_false, show ((2 : Int) == 1) = false from rfl, cond_false, show ((2 : Int) == 2) = true from rfl, cond_true, decide_eq_true (show (((z :: Z).length : Nat) : Int) > 0 from tl_pos _ _), cond_true, show decide ((1 : Int) < 0) = false from rfl, cond_false, guard_tt, show ((1 : Int) == 0) = false from rfl, cond_false, show ((1 : Int) == 1) = true from rfl, cond_true, guard_dec (tl_pos _ _)]
  rw [show V.facts_Compare ((rd sFact (z :: Z) 0).1, ((rd sFact (z :: Z) 0).2).1, (((rd sFact (z :: Z) 0).2).2).1, (((rd sFact (z :: Z) 0).2).2).2) ((rd sFact (y :: Y) 0).1, ((rd sFact (y :: Y) 0).2).1, (((rd sFact (y :: Y) 0).2).2).1, (((rd sFact (y :: Y) 0).2).2).2) = some (cmpF z y) from Compare_ok _ _, Option.bind_some, decide_eq_true (cmpF_lt.2 hl)]
  apply V.three_lay.j1100010100110011.of; unfold F.three_lay.j1100010100110011.B
  apply V.three_lay.j1100010100111.of; unfold F.three_lay.j1100010100111.B
  exact h
theorem bs2_1_n {z y : TFact} {X Y Z : List TFact} (hl : lessF z y = false) (h : V.three_lay.l110001010 a0 1 X (y :: Y) (z :: Z) 3 X (y :: Y) (z :: Z) out = some r) : V.three_lay.l110001010 a0 1 X (y :: Y) (z :: Z) 2 X (y :: Y) (z :: Z) out = some r := by
  apply V.three_lay.l110001010.of; unfold F.three_lay.l110001010.B
  rw [show decide ((2 : Int) < 3) = true from rfl, cond_true, show ((2 : Int) == 0) = false from rfl, cond_false, show ((2 : Int) == 1) = false from rfl, cond_false, show ((2 : Int) == 2) = true from rfl, cond_true, decide_eq_true (show (((z :: Z).length : Nat) : Int) > 0 from tl_pos _ _), cond_true, show decide ((1 : Int) < 0) = false from rfl, cond_false, guard_tt, show ((1 : Int) == 0) = false from rfl, cond_false, show ((1 : Int) == 1) = true from rfl, cond_true, guard_dec (tl_pos _ _)]
  rw [show V.facts_Compare ((rd sFact (z :: Z) 0).1, ((rd sFact (z :: Z) 0).2).1, (((rd sFact (z :: Z) 0).2).2).1, (((rd sFact (z :: Z) 0).2).2).2) ((rd sFact (y :: Y) 0).1, ((rd sFact (y :: Y) 0).2).1, (((rd sFact (y :: Y) 0).2).2).1, (((rd sFact (y :: Y) 0).2).2).2) = some (cmpF z y) from Compare_ok _ _, Option.bind_some, decide_eq_false (fun g => by rw [cmpF_lt.1 g] at hl; cases hl)]
  apply V.three_lay.j1100010100110011.of; unfold F.three_lay.j1100010100110011.B
  apply V.three_lay.j1100010100111.of; unfold F.three_lay.j1100010100111.B
  exact h
theorem best_ok (X Y Z : List TFact) (h : V.three_lay.l110001010 a0 (best3 X Y Z) X Y Z 3 X Y Z out = some r) : V.three_lay.l110001010 a0 (-1) X Y Z 0 X Y Z out = some r := by
  cases X with
  | nil =>
    apply bs0_n_e
    cases Y with
    | nil =>
      apply bs1_n_e
      cases Z with
      | nil => exact bs2_n_e h
      | cons z Z => exact bs2_n_c h
    | cons y Y =>
      apply bs1_n_c
      cases Z with
      | nil => exact bs2_1_e h
      | cons z Z =>
        cases hl : lessF z y with
        | true => exact bs2_1_y hl (by rw [show best3 [] (y :: Y) (z :: Z) = 2 by simp [best3, best2, hl]] at h; exact h)
        | false => exact bs2_1_n hl (by rw [show best3 [] (y :: Y) (z :: Z) = 1 by simp [best3, best2, hl]] at h; exact h)
  | cons x X =>
    apply bs0_n_c
    cases Y with
    | nil =>
      apply bs1_0_e
      cases Z with
      | nil => exact bs2_0_e h
      | cons z Z =>
        cases hl : lessF z x with
        | true => exact bs2_0_y hl (by rw [show best3 (x :: X) [] (z :: Z) = 2 by simp [best3, best2, hl]] at h; exact h)
        | false => exact bs2_0_n hl (by rw [show best3 (x :: X) [] (z :: Z) = 0 by simp [best3, best2, hl]] at h; exact h)
    | cons y Y =>
      cases hy : lessF y x with
      | true =>
        apply bs1_0_y hy
        cases Z with
        | nil => exact bs2_1_e (by rw [show best3 (x :: X) (y :: Y) [] = 1 by simp [best3, best2, hy]] at h; exact h)
        | cons z Z =>
          cases hl : lessF z y with
          | true => exact bs2_1_y hl (by rw [show best3 (x :: X) (y :: Y) (z :: Z) = 2 by simp [best3, best2, hy, hl]] at h; exact h)
          | false => exact bs2_1_n hl (by rw [show best3 (x :: X) (y :: Y) (z :: Z) = 1 by simp [best3, best2, hy, hl]] at h; exact h)
      | false =>
        apply bs1_0_n hy
        cases Z with
        | nil => exact bs2_0_e (by rw [show best3 (x :: X) (y :: Y) [] = 0 by simp [best3, best2, hy]] at h; exact h)
        | cons z Z =>
          cases hl : lessF z x with
          | true => exact bs2_0_y hl (by rw [show best3 (x :: X) (y :: Y) (z :: Z) = 2 by simp [best3, best2, hy, hl]] at h; exact h)
          | false => exact bs2_0_n hl (by rw [show best3 (x :: X) (y :: Y) (z :: Z) = 0 by simp [best3, best2, hy, hl]] at h; exact h)

/-! ### A column -/
def takeP (f : TFact) : List TFact → ByteArray × Int × List TFact
  | [] => (⟨#[]⟩, 0, [])
  | x :: l => if cmpF x f = 0 then (x.2.2.2, 1, l) else (⟨#[]⟩, 0, x :: l)
theorem takeP_y {f x : TFact} {l : List TFact} (h : cmpF x f = 0) : takeP f (x :: l) = (x.2.2.2, 1, l) := if_pos h
theorem takeP_n {f x : TFact} {l : List TFact} (h : cmpF x f ≠ 0) : takeP f (x :: l) = (⟨#[]⟩, 0, x :: l) := if_neg h
variable {C1 C2 C3 : List TFact} {f : TFact}
theorem tk0 {X : List TFact} {R2 R3 : List TFact} {v2 v3 : ByteArray} {t2 t3 : Int} (h : V.three_lay.l110001111010 a0 X C2 C3 1 (takeP f X).2.2 R2 R3 out f.1 f.2.1 f.2.2.1 f.2.2.2 (takeP f X).1 v2 v3 (takeP f X).2.1 t2 t3 = some r) : V.three_lay.l110001111010 a0 X C2 C3 0 X R2 R3 out f.1 f.2.1 f.2.2.1 f.2.2.2 (⟨#[]⟩ : ByteArray) v2 v3 0 t2 t3 = some r := by
  cases X with
  | nil =>
    apply V.three_lay.l110001111010.of; unfold F.three_lay.l110001111010.B
    rw [show decide ((0 : Int) < 3) = true from rfl, cond_true, show ((0 : Int) == 0) = true from rfl, cond_true, show (decide (((([] : List TFact).length : Nat) : Int) > 0)) = false from rfl, cond_false]
    apply V.three_lay.j1100011110100110011.of; unfold F.three_lay.j1100011110100110011.B
    apply V.three_lay.j1100011110100111.of; unfold F.three_lay.j1100011110100111.B
    exact h
  | cons x X =>
    apply V.three_lay.l110001111010.of; unfold F.three_lay.l110001111010.B
    rw [show decide ((0 : Int) < 3) = true from rfl, cond_true, show ((0 : Int) == 0) = true from rfl, cond_true, decide_eq_true (show (((x :: X).length : Nat) : Int) > 0 from tl_pos _ _), cond_true, guard_tt]
    rw [show V.facts_Compare ((rd sFact (x :: X) 0).1, ((rd sFact (x :: X) 0).2).1, (((rd sFact (x :: X) 0).2).2).1, (((rd sFact (x :: X) 0).2).2).2) (f.1, f.2.1, f.2.2.1, f.2.2.2) = some (cmpF x f) from Compare_ok _ _, Option.bind_some]
    apply V.three_lay.j1100011110100110011.of; unfold F.three_lay.j1100011110100110011.B
    by_cases g : cmpF x f = 0
    · rw [takeP_y g] at h
      rw [show (cmpF x f == 0) = true by simp [g], cond_true, guard_dec (tl_pos _ _), guard_of (tl_one _ _), tl_take]
      refine (show V.three_lay.j1100011110100111 a0 (x :: X) C2 C3 0 X R2 R3 out f.1 f.2.1 f.2.2.1 f.2.2.2 x.2.2.2 v2 v3 1 t2 t3 = some r from ?_)
      apply V.three_lay.j1100011110100111.of; unfold F.three_lay.j1100011110100111.B
      exact h
    · rw [takeP_n g] at h
      rw [show (cmpF x f == 0) = false by simp [g], cond_false]
      apply V.three_lay.j1100011110100111.of; unfold F.three_lay.j1100011110100111.B
      exact h
theorem tk1 {Y : List TFact} {R1 R3 : List TFact} {v1 v3 : ByteArray} {t1 t3 : Int} (h : V.three_lay.l110001111010 a0 C1 Y C3 2 R1 (takeP f Y).2.2 R3 out f.1 f.2.1 f.2.2.1 f.2.2.2 v1 (takeP f Y).1 v3 t1 (takeP f Y).2.1 t3 = some r) : V.three_lay.l110001111010 a0 C1 Y C3 1 R1 Y R3 out f.1 f.2.1 f.2.2.1 f.2.2.2 v1 (⟨#[]⟩ : ByteArray) v3 t1 0 t3 = some r := by
  cases Y with
  | nil =>
    apply V.three_lay.l110001111010.of; unfold F.three_lay.l110001111010.B
    rw [show decide ((1 : Int) < 3) = true from rfl, cond_true, show ((1 : Int) == 0) = false from rfl, cond_false, show ((1 : Int) == 1) = true from rfl, cond_true, show (decide (((([] : List TFact).length : Nat) : Int) > 0)) = false from rfl, cond_false]
    apply V.three_lay.j1100011110100110011.of; unfold F.three_lay.j1100011110100110011.B
    apply V.three_lay.j1100011110100111.of; unfold F.three_lay.j1100011110100111.B
    exact h
  | cons y Y =>
    apply V.three_lay.l110001111010.of; unfold F.three_lay.l110001111010.B
    rw [show decide ((1 : Int) < 3) = true from rfl, cond_true, show ((1 : Int) == 0) = false from rfl, cond_false, show ((1 : Int) == 1) = true from rfl, cond_true, decide_eq_true (show (((y :: Y).length : Nat) : Int) > 0 from tl_pos _ _), cond_true, guard_tt]
    rw [show V.facts_Compare ((rd sFact (y :: Y) 0).1, ((rd sFact (y :: Y) 0).2).1, (((rd sFact (y :: Y) 0).2).2).1, (((rd sFact (y :: Y) 0).2).2).2) (f.1, f.2.1, f.2.2.1, f.2.2.2) = some (cmpF y f) from Compare_ok _ _, Option.bind_some]
    apply V.three_lay.j1100011110100110011.of; unfold F.three_lay.j1100011110100110011.B
    by_cases g : cmpF y f = 0
    · rw [takeP_y g] at h
      rw [show (cmpF y f == 0) = true by simp [g], cond_true, guard_dec (tl_pos _ _), guard_of (tl_one _ _), tl_take]
      refine (show V.three_lay.j1100011110100111 a0 C1 (y :: Y) C3 1 R1 Y R3 out f.1 f.2.1 f.2.2.1 f.2.2.2 v1 y.2.2.2 v3 t1 1 t3 = some r from ?_)
      apply V.three_lay.j1100011110100111.of; unfold F.three_lay.j1100011110100111.B
      exact h
    · rw [takeP_n g] at h
      rw [show (cmpF y f == 0) = false by simp [g], cond_false]
      apply V.three_lay.j1100011110100111.of; unfold F.three_lay.j1100011110100111.B
      exact h
theorem tk2 {Z : List TFact} {R1 R2 : List TFact} {v1 v2 : ByteArray} {t1 t2 : Int} (h : V.three_lay.l110001111010 a0 C1 C2 Z 3 R1 R2 (takeP f Z).2.2 out f.1 f.2.1 f.2.2.1 f.2.2.2 v1 v2 (takeP f Z).1 t1 t2 (takeP f Z).2.1 = some r) : V.three_lay.l110001111010 a0 C1 C2 Z 2 R1 R2 Z out f.1 f.2.1 f.2.2.1 f.2.2.2 v1 v2 (⟨#[]⟩ : ByteArray) t1 t2 0 = some r := by
  cases Z with
  | nil =>
    apply V.three_lay.l110001111010.of; unfold F.three_lay.l110001111010.B
    rw [show decide ((2 : Int) < 3) = true from rfl, cond_true, show ((2 : Int) == 0) = false from rfl, cond_false, show ((2 : Int) == 1) = false from rfl, cond_false, show ((2 : Int) == 2) = true from rfl, cond_true, show (decide (((([] : List TFact).length : Nat) : Int) > 0)) = false from rfl, cond_false]
    apply V.three_lay.j1100011110100110011.of; unfold F.three_lay.j1100011110100110011.B
    apply V.three_lay.j1100011110100111.of; unfold F.three_lay.j1100011110100111.B
    exact h
  | cons z Z =>
    apply V.three_lay.l110001111010.of; unfold F.three_lay.l110001111010.B
    rw [show decide ((2 : Int) < 3) = true from rfl, cond_true, show ((2 : Int) == 0) = false from rfl, cond_false, show ((2 : Int) == 1) = false from rfl, cond_false, show ((2 : Int) == 2) = true from rfl, cond_true, decide_eq_true (show (((z :: Z).length : Nat) : Int) > 0 from tl_pos _ _), cond_true, guard_tt]
    rw [show V.facts_Compare ((rd sFact (z :: Z) 0).1, ((rd sFact (z :: Z) 0).2).1, (((rd sFact (z :: Z) 0).2).2).1, (((rd sFact (z :: Z) 0).2).2).2) (f.1, f.2.1, f.2.2.1, f.2.2.2) = some (cmpF z f) from Compare_ok _ _, Option.bind_some]
    apply V.three_lay.j1100011110100110011.of; unfold F.three_lay.j1100011110100110011.B
    by_cases g : cmpF z f = 0
    · rw [takeP_y g] at h
      rw [show (cmpF z f == 0) = true by simp [g], cond_true, guard_dec (tl_pos _ _), guard_of (tl_one _ _), tl_take]
      refine (show V.three_lay.j1100011110100111 a0 C1 C2 (z :: Z) 2 R1 R2 Z out f.1 f.2.1 f.2.2.1 f.2.2.2 v1 v2 z.2.2.2 t1 t2 1 = some r from ?_)
      apply V.three_lay.j1100011110100111.of; unfold F.three_lay.j1100011110100111.B
      exact h
    · rw [takeP_n g] at h
      rw [show (cmpF z f == 0) = false by simp [g], cond_false]
      apply V.three_lay.j1100011110100111.of; unfold F.three_lay.j1100011110100111.B
      exact h
def colA (f : TFact) (X Y Z : List TFact) : Tcolumn := (f, ((takeP f X).1, (takeP f Y).1, (takeP f Z).1), (takeP f X).2.1, (takeP f Y).2.1, (takeP f Z).2.1)
theorem col_ok {X Y Z : List TFact} (ho : out.length ≤ 1000000) (h : V.three_lay.l110 a0 (takeP f X).2.2 (takeP f Y).2.2 (takeP f Z).2.2 (out ++ [colA f X Y Z]) = some r) : V.three_lay.l110001111010 a0 X Y Z 0 X Y Z out f.1 f.2.1 f.2.2.1 f.2.2.2 (⟨#[]⟩ : ByteArray) (⟨#[]⟩ : ByteArray) (⟨#[]⟩ : ByteArray) 0 0 0 = some r := by
  apply tk0; apply tk1; apply tk2
  apply V.three_lay.l110001111010.of; unfold F.three_lay.l110001111010.B
  rw [show decide ((3 : Int) < 3) = false from rfl, cond_false, guard_dec (by simp only [List.length_cons, List.length_nil]; unfold nmax; omega)]
  exact h
end
def headOf : List TFact → TFact
  | x :: _ => x
  | [] => (0, ⟨#[]⟩, ⟨#[]⟩, ⟨#[]⟩)
def bestF (X Y Z : List TFact) : TFact := if best3 X Y Z = 0 then headOf X else if best3 X Y Z = 1 then headOf Y else headOf Z
def colsP : Nat → List TFact → List TFact → List TFact → List Tcolumn
  | 0, _, _, _ => []
  | n + 1, X, Y, Z => if best3 X Y Z < 0 then [] else colA (bestF X Y Z) X Y Z :: colsP n (takeP (bestF X Y Z) X).2.2 (takeP (bestF X Y Z) Y).2.2 (takeP (bestF X Y Z) Z).2.2
theorem takeP_len (f : TFact) (l : List TFact) : (takeP f l).2.2.length ≤ l.length := by
  cases l with
  | nil => exact Nat.le_refl _
  | cons x l =>
    by_cases h : cmpF x f = 0
    · rw [takeP_y h]; simp
    · rw [takeP_n h]; exact Nat.le_refl _
theorem takeP_head (x : TFact) (l : List TFact) : takeP x (x :: l) = (x.2.2.2, 1, l) := by
  have : cmpF x x = 0 := by unfold cmpF; rw [lessF_irr]; rfl
  exact takeP_y this
theorem best3_cases (X Y Z : List TFact) : (best3 X Y Z = -1 ∧ X = [] ∧ Y = [] ∧ Z = []) ∨ (best3 X Y Z = 0 ∧ ∃ x X', X = x :: X') ∨ (best3 X Y Z = 1 ∧ ∃ y Y', Y = y :: Y') ∨ (best3 X Y Z = 2 ∧ ∃ z Z', Z = z :: Z') := by
  unfold best3 best2
  cases X <;> cases Y <;> cases Z <;> simp <;> (repeat' split) <;> simp_all
theorem Lay_l (a0 : List TFact × (List TFact × List TFact)) : ∀ (n : Nat) (X Y Z : List TFact) (out : List Tcolumn), X.length + Y.length + Z.length < n → out.length + n ≤ 1000000 → V.three_lay.l110 a0 X Y Z out = some (out ++ colsP n X Y Z)
  | 0, X, Y, Z, out, h, ho => absurd h (Nat.not_lt_zero _)
  | n + 1, X, Y, Z, out, h, ho => by
    apply V.three_lay.l110.of; unfold F.three_lay.l110.B
    apply best_ok
    apply V.three_lay.l110001010.of; unfold F.three_lay.l110001010.B
    rw [show decide ((3 : Int) < 3) = false from rfl, cond_false]
    unfold colsP
    have l1 := takeP_len (bestF X Y Z) X
    have l2 := takeP_len (bestF X Y Z) Y
    have l3 := takeP_len (bestF X Y Z) Z
    have next : (takeP (bestF X Y Z) X).2.2.length + (takeP (bestF X Y Z) Y).2.2.length + (takeP (bestF X Y Z) Z).2.2.length < n → V.three_lay.l110001111010 a0 X Y Z 0 X Y Z out (bestF X Y Z).1 (bestF X Y Z).2.1 (bestF X Y Z).2.2.1 (bestF X Y Z).2.2.2 (⟨#[]⟩ : ByteArray) (⟨#[]⟩ : ByteArray) (⟨#[]⟩ : ByteArray) 0 0 0 = some (out ++ (colA (bestF X Y Z) X Y Z :: colsP n (takeP (bestF X Y Z) X).2.2 (takeP (bestF X Y Z) Y).2.2 (takeP (bestF X Y Z) Z).2.2)) := fun hn => by
      refine col_ok (f := bestF X Y Z) (by omega) ?_
      rw [Lay_l a0 n _ _ _ _ hn (by simp; omega), List.append_assoc]; rfl
    rcases best3_cases X Y Z with ⟨hb, _⟩ | ⟨hb, x, X', rfl⟩ | ⟨hb, y, Y', rfl⟩ | ⟨hb, z, Z', rfl⟩
    · rw [hb, show decide ((-1 : Int) < 0) = true from rfl, cond_true, if_pos (by decide), List.append_nil]
    · rw [if_neg (by omega)]
      have hf : bestF (x :: X') Y Z = x := by unfold bestF; rw [hb]; rfl
      rw [hf] at next l1 l2 l3 ⊢
      rw [hb, show decide ((0 : Int) < 0) = false from rfl, cond_false, show ((0 : Int) == 0) = true from rfl, cond_true, guard_dec (tl_pos _ _)]
      rw [takeP_head] at next
      rw [takeP_head]
      exact next (by simp only [List.length_cons] at h; show X'.length + _ + _ < n; omega)
    · rw [if_neg (by omega)]
      have hf : bestF X (y :: Y') Z = y := by unfold bestF; rw [hb]; rfl
      rw [hf] at next l1 l2 l3 ⊢
      rw [hb, show decide ((1 : Int) < 0) = false from rfl, cond_false, show ((1 : Int) == 0) = false from rfl, cond_false, show ((1 : Int) == 1) = true from rfl, cond_true, guard_dec (tl_pos _ _)]
      rw [takeP_head] at next
      rw [takeP_head]
      exact next (by simp only [List.length_cons] at h; show _ + Y'.length + _ < n; omega)
    · rw [if_neg (by omega)]
      have hf : bestF X Y (z :: Z') = z := by unfold bestF; rw [hb]; rfl
      rw [hf] at next l1 l2 l3 ⊢
      rw [hb, show decide ((2 : Int) < 0) = false from rfl, cond_false, show ((2 : Int) == 0) = false from rfl, cond_false, show ((2 : Int) == 1) = false from rfl, cond_false, show ((2 : Int) == 2) = true from rfl, cond_true, guard_dec (tl_pos _ _)]
      rw [takeP_head] at next
      rw [takeP_head]
      exact next (by simp only [List.length_cons] at h; show _ + _ + Z'.length < n; omega)
theorem Lay_ok (X Y Z : List TFact) (h : X.length + Y.length + Z.length ≤ 500000) : V.three_lay (X, Y, Z) = some (colsP (X.length + Y.length + Z.length + 1) X Y Z) := by
  apply V.three_lay.of; unfold F.three_lay.B
  have := Lay_l (X, Y, Z) (X.length + Y.length + Z.length + 1) X Y Z [] (by omega) (by simp; omega)
  rwa [List.nil_append] at this
end Go.Proofs.Ytmenplonaapliaa.AE
end
section
set_option linter.unusedVariables false
set_option linter.unusedSimpArgs false
set_option maxRecDepth 20000
namespace Go.Proofs.Ytmenplonaapliaa.AE
open Go

theorem cmpF_zero {x f : TFact} : cmpF x f = 0 ↔ keyF x = keyF f := by
  unfold cmpF
  constructor
  · intro h
    cases h1 : lessF x f with
    | true => rw [h1] at h; simp at h
    | false =>
      cases h2 : lessF f x with
      | true => rw [h1, h2] at h; simp at h
      | false => exact lessF_tri h1 h2
  · intro h
    have h1 : lessF x f = false := by
      cases g : lessF x f with
      | false => rfl
      | true => exact absurd h (lessF_nkey g)
    have h2 : lessF f x = false := by
      cases g : lessF f x with
      | false => rfl
      | true => exact absurd h.symm (lessF_nkey g)
    rw [h1, h2]; rfl
theorem strip_eq {x f : TFact} (h : keyF x = keyF f) : strip x = strip f := by
  unfold keyF at h
  simp only [Prod.mk.injEq] at h
  unfold strip; rw [h.1, h.2.1, h.2.2]
abbrev dropK (g : TFact) (l : List TFact) : List TFact := (takeP g l).2.2
/-- A fact's key stands ahead of no one's in a row, but its own. -/
def Low (g : TFact) (l : List TFact) : Prop := ∀ z ∈ l, keyF z = keyF g ∨ lessF g z = true
theorem dropK_y {g x : TFact} {l : List TFact} (h : keyF x = keyF g) : dropK g (x :: l) = l := by
  show (takeP g (x :: l)).2.2 = l
  rw [takeP_y (cmpF_zero.2 h)]
theorem dropK_n {g x : TFact} {l : List TFact} (h : keyF x ≠ keyF g) : dropK g (x :: l) = x :: l := by
  show (takeP g (x :: l)).2.2 = x :: l
  rw [takeP_n (fun e => h (cmpF_zero.1 e))]
theorem dropK_nil (g : TFact) : dropK g [] = [] := rfl
theorem both_nil (l : List TFact) : both [] l = l.map strip := by rw [both]
theorem both_nil' (x : TFact) (l : List TFact) : both (x :: l) [] = strip x :: both l [] := by rw [both]
theorem both_step {g : TFact} {A B : List TFact} (ha : Low g A) (hb : Low g B) (h : (∃ x A', A = x :: A' ∧ keyF x = keyF g) ∨ (∃ y B', B = y :: B' ∧ keyF y = keyF g)) : both A B = strip g :: both (dropK g A) (dropK g B) := by
  cases A with
  | nil =>
    rcases h with ⟨x, A', e, _⟩ | ⟨y, B', rfl, hk⟩
    · cases e
    · rw [dropK_y hk, dropK_nil, both_nil, both_nil, List.map_cons, strip_eq hk]
  | cons x A =>
    cases B with
    | nil =>
      rcases h with ⟨x', A', e, hk⟩ | ⟨y, B', e, _⟩
      · cases e
        rw [dropK_y hk, dropK_nil, both_nil', strip_eq hk]
      · cases e
    | cons y B =>
      have hx := ha x List.mem_cons_self
      have hy := hb y List.mem_cons_self
      rw [both]
      rcases hx with hx | hx <;> rcases hy with hy | hy
      · have e1 : lessF y x = false := by
          cases g1 : lessF y x with
          | false => rfl
          | true => exact absurd (hy.trans hx.symm) (lessF_nkey g1)
        have e2 : lessF x y = false := by
          cases g1 : lessF x y with
          | false => rfl
          | true => exact absurd (hx.trans hy.symm) (lessF_nkey g1)
        rw [e1, e2, if_neg (by decide), if_neg (by decide), dropK_y hx, dropK_y hy, strip_eq hx]
      · have e2 : lessF x y = true := by rw [lessF_key hx rfl]; exact hy
        have e1 := lessF_asymm e2
        have hn : keyF y ≠ keyF g := fun e => lessF_nkey hy e.symm
        rw [e1, e2, if_neg (by decide), if_pos rfl, dropK_y hx, dropK_n hn, strip_eq hx]
      · have e1 : lessF y x = true := by rw [lessF_key hy rfl]; exact hx
        have hn : keyF x ≠ keyF g := fun e => lessF_nkey hx e.symm
        rw [e1, if_pos rfl, dropK_n hn, dropK_y hy, strip_eq hy]
      · exfalso
        rcases h with ⟨x', A', e, hk⟩ | ⟨y', B', e, hk⟩
        · cases e; exact lessF_nkey hx hk.symm
        · cases e; exact lessF_nkey hy hk.symm
theorem low_both {g : TFact} {A B : List TFact} (ha : Low g A) (hb : Low g B) : Low g (both A B) := fun z hz => by
  obtain ⟨q, hq, hk⟩ := both_mem A B z hz
  rcases hq with hq | hq
  · rcases ha q hq with e | e
    · exact .inl (hk.symm.trans e)
    · right; rw [← lessF_key rfl hk]; exact e
  · rcases hb q hq with e | e
    · exact .inl (hk.symm.trans e)
    · right; rw [← lessF_key rfl hk]; exact e
theorem both3_step {g : TFact} {X Y Z : List TFact} (hx : Low g X) (hy : Low g Y) (hz : Low g Z) (h : (∃ x A', X = x :: A' ∧ keyF x = keyF g) ∨ (∃ y B', Y = y :: B' ∧ keyF y = keyF g) ∨ (∃ z C', Z = z :: C' ∧ keyF z = keyF g)) :
    both (both X Y) Z = strip g :: both (both (dropK g X) (dropK g Y)) (dropK g Z) := by
  by_cases h1 : (∃ x A', X = x :: A' ∧ keyF x = keyF g) ∨ (∃ y B', Y = y :: B' ∧ keyF y = keyF g)
  · have e := both_step hx hy h1
    have hl := low_both hx hy
    rw [e] at hl ⊢
    rw [both_step hl hz (.inl ⟨_, _, rfl, strip_key g⟩), dropK_y (strip_key g)]
  · have h2 := h.imp id id
    have hz' : ∃ z C', Z = z :: C' ∧ keyF z = keyF g := by
      rcases h with h | h | h
      · exact absurd (.inl h) h1
      · exact absurd (.inr h) h1
      · exact h
    have nx : dropK g X = X := by
      cases X with
      | nil => rfl
      | cons x X => exact dropK_n (fun e => h1 (.inl ⟨_, _, rfl, e⟩))
    have ny : dropK g Y = Y := by
      cases Y with
      | nil => rfl
      | cons y Y => exact dropK_n (fun e => h1 (.inr ⟨_, _, rfl, e⟩))
    have nb : dropK g (both X Y) = both X Y := by
      cases X with
      | nil =>
        cases Y with
        | nil => rw [both_nil]; rfl
        | cons y Y => rw [both_nil, List.map_cons]; exact dropK_n (fun e => h1 (.inr ⟨_, _, rfl, e⟩))
      | cons x X =>
        have kx : keyF x ≠ keyF g := fun e => h1 (.inl ⟨_, _, rfl, e⟩)
        cases Y with
        | nil => rw [both_nil']; exact dropK_n kx
        | cons y Y =>
          have ky : keyF y ≠ keyF g := fun e => h1 (.inr ⟨_, _, rfl, e⟩)
          rw [both]
          split
          · exact dropK_n ky
          · split <;> exact dropK_n kx
    rw [both_step (low_both hx hy) hz (.inr hz'), nb, nx, ny]

/-! ### Columns -/
def thereI (b : Bool) : Int := if b then 1 else 0
def dataOf (X Y Z : List TFact) (f : TFact) : (ByteArray × ByteArray × ByteArray) × Int × Int × Int := (((valueOf X f).1, (valueOf Y f).1, (valueOf Z f).1), thereI (valueOf X f).2, thereI (valueOf Y f).2, thereI (valueOf Z f).2)
theorem take_value {g : TFact} {l : List TFact} (h : Low g l) (hs : Rs l) : (takeP g l).1 = (valueOf l (strip g)).1 ∧ (takeP g l).2.1 = thereI (valueOf l (strip g)).2 := by
  cases l with
  | nil => exact ⟨rfl, rfl⟩
  | cons x l =>
    by_cases e : keyF x = keyF g
    · rw [takeP_y (cmpF_zero.2 e), valueOf_head (e.trans (strip_key g).symm)]; exact ⟨rfl, rfl⟩
    · have hx : lessF g x = true := (h x List.mem_cons_self).resolve_left e
      rw [takeP_n (fun q => e (cmpF_zero.1 q)), valueOf_none (fun z hz q => by
        have hz' : lessF g z = true := by
          rcases List.mem_cons.1 hz with rfl | hz
          · exact hx
          · exact lessF_trans hx (hs.head hz)
        exact lessF_nkey hz' ((strip_key g).symm.trans q.symm))]
      exact ⟨rfl, rfl⟩
theorem drop_sub {g : TFact} {l : List TFact} {z : TFact} (h : z ∈ dropK g l) : z ∈ l := by
  cases l with
  | nil => exact h
  | cons x l =>
    by_cases e : keyF x = keyF g
    · rw [dropK_y e] at h; exact List.mem_cons_of_mem _ h
    · rw [dropK_n e] at h; exact h
theorem drop_rs {g : TFact} {l : List TFact} (h : Rs l) : Rs (dropK g l) := by
  cases l with
  | nil => exact h
  | cons x l =>
    by_cases e : keyF x = keyF g
    · rw [dropK_y e]; exact h.tail
    · rw [dropK_n e]; exact h
/-- Behind the least one all stand behind it. -/
theorem drop_above {g : TFact} {l : List TFact} (h : Low g l) (hs : Rs l) : ∀ z ∈ dropK g l, lessF g z = true := by
  cases l with
  | nil => exact fun _ h => absurd h List.not_mem_nil
  | cons x l =>
    by_cases e : keyF x = keyF g
    · rw [dropK_y e]
      exact fun z hz => by rw [← lessF_key e rfl]; exact hs.head hz
    · rw [dropK_n e]
      have hx := (h x List.mem_cons_self).resolve_left e
      intro z hz
      rcases List.mem_cons.1 hz with rfl | hz
      · exact hx
      · exact lessF_trans hx (hs.head hz)
theorem drop_value {g f : TFact} {l : List TFact} (h : keyF f ≠ keyF g) : valueOf (dropK g l) f = valueOf l f := by
  cases l with
  | nil => rfl
  | cons x l =>
    by_cases e : keyF x = keyF g
    · rw [dropK_y e, valueOf_skip (fun q => h (q.symm.trans e))]
    · rw [dropK_n e]
theorem rs_low {x : TFact} {l : List TFact} (h : Rs (x :: l)) : Low x (x :: l) := fun z hz => by
  rcases List.mem_cons.1 hz with rfl | hz
  · exact .inl rfl
  · exact .inr (h.head hz)
theorem low_of {g x : TFact} {l : List TFact} (h : Rs (x :: l)) (hg : lessF x g = false) : Low g (x :: l) := fun z hz => by
  have key : ∀ z, (z = x ∨ lessF x z = true) → keyF z = keyF g ∨ lessF g z = true := by
    intro z hz
    cases h1 : lessF g x with
    | true =>
      rcases hz with rfl | hz
      · exact .inr h1
      · exact .inr (lessF_trans h1 hz)
    | false =>
      have := lessF_tri hg h1
      rcases hz with rfl | hz
      · exact .inl this
      · right; rw [← lessF_key this rfl]; exact hz
  rcases List.mem_cons.1 hz with rfl | hz
  · exact key _ (.inl rfl)
  · exact key _ (.inr (h.head hz))
/-- What the best one is. -/
theorem best_low (X Y Z : List TFact) (hX : Rs X) (hY : Rs Y) (hZ : Rs Z) (hb : ¬ best3 X Y Z < 0) : Low (bestF X Y Z) X ∧ Low (bestF X Y Z) Y ∧ Low (bestF X Y Z) Z ∧ ((∃ x A', X = x :: A' ∧ keyF x = keyF (bestF X Y Z)) ∨ (∃ y B', Y = y :: B' ∧ keyF y = keyF (bestF X Y Z)) ∨ (∃ z C', Z = z :: C' ∧ keyF z = keyF (bestF X Y Z))) := by
  have nilL : ∀ g, Low g [] := fun g z hz => absurd hz List.not_mem_nil
  have neg : ∀ {x y z : TFact}, lessF y x = true → lessF z y = true → lessF x z = false := fun h1 h2 => lessF_asymm (lessF_trans h2 h1)
  have weak : ∀ {x y z : TFact}, lessF y x = false → lessF z y = false → lessF z x = false := fun {x y z} h1 h2 => by
    cases h3 : lessF z x with
    | false => rfl
    | true =>
      cases h4 : lessF x y with
      | true => rw [lessF_trans h3 h4] at h2; cases h2
      | false => rw [← lessF_key rfl (lessF_tri h4 h1), h3] at h2; cases h2
  cases X with
  | nil =>
    cases Y with
    | nil =>
      cases Z with
      | nil => exact absurd (show (-1 : Int) < 0 by decide) hb
      | cons z Z => exact ⟨nilL _, nilL _, rs_low hZ, .inr (.inr ⟨z, Z, rfl, rfl⟩)⟩
    | cons y Y =>
      cases Z with
      | nil => exact ⟨nilL _, rs_low hY, nilL _, .inr (.inl ⟨y, Y, rfl, rfl⟩)⟩
      | cons z Z =>
        cases h1 : lessF z y with
        | true =>
          have e : bestF [] (y :: Y) (z :: Z) = z := by simp [bestF, best3, best2, h1, headOf]
          rw [e]; exact ⟨nilL _, low_of hY (lessF_asymm h1), rs_low hZ, .inr (.inr ⟨z, Z, rfl, rfl⟩)⟩
        | false =>
          have e : bestF [] (y :: Y) (z :: Z) = y := by simp [bestF, best3, best2, h1, headOf]
          rw [e]; exact ⟨nilL _, rs_low hY, low_of hZ h1, .inr (.inl ⟨y, Y, rfl, rfl⟩)⟩
  | cons x X =>
    cases Y with
    | nil =>
      cases Z with
      | nil => exact ⟨rs_low hX, nilL _, nilL _, .inl ⟨x, X, rfl, rfl⟩⟩
      | cons z Z =>
        cases h1 : lessF z x with
        | true =>
          have e : bestF (x :: X) [] (z :: Z) = z := by simp [bestF, best3, best2, h1, headOf]
          rw [e]; exact ⟨low_of hX (lessF_asymm h1), nilL _, rs_low hZ, .inr (.inr ⟨z, Z, rfl, rfl⟩)⟩
        | false =>
          have e : bestF (x :: X) [] (z :: Z) = x := by simp [bestF, best3, best2, h1, headOf]
          rw [e]; exact ⟨rs_low hX, nilL _, low_of hZ h1, .inl ⟨x, X, rfl, rfl⟩⟩
    | cons y Y =>
      cases h2 : lessF y x with
      | true =>
        cases Z with
        | nil =>
          have e : bestF (x :: X) (y :: Y) [] = y := by simp [bestF, best3, best2, h2, headOf]
          rw [e]; exact ⟨low_of hX (lessF_asymm h2), rs_low hY, nilL _, .inr (.inl ⟨y, Y, rfl, rfl⟩)⟩
        | cons z Z =>
          cases h1 : lessF z y with
          | true =>
            have e : bestF (x :: X) (y :: Y) (z :: Z) = z := by simp [bestF, best3, best2, h1, h2, headOf]
            rw [e]; exact ⟨low_of hX (neg h2 h1), low_of hY (lessF_asymm h1), rs_low hZ, .inr (.inr ⟨z, Z, rfl, rfl⟩)⟩
          | false =>
            have e : bestF (x :: X) (y :: Y) (z :: Z) = y := by simp [bestF, best3, best2, h1, h2, headOf]
            rw [e]; exact ⟨low_of hX (lessF_asymm h2), rs_low hY, low_of hZ h1, .inr (.inl ⟨y, Y, rfl, rfl⟩)⟩
      | false =>
        cases Z with
        | nil =>
          have e : bestF (x :: X) (y :: Y) [] = x := by simp [bestF, best3, best2, h2, headOf]
          rw [e]; exact ⟨rs_low hX, low_of hY h2, nilL _, .inl ⟨x, X, rfl, rfl⟩⟩
        | cons z Z =>
          cases h1 : lessF z x with
          | true =>
            have e : bestF (x :: X) (y :: Y) (z :: Z) = z := by simp [bestF, best3, best2, h1, h2, headOf]
            rw [e]; refine ⟨low_of hX (lessF_asymm h1), low_of hY ?_, rs_low hZ, .inr (.inr ⟨z, Z, rfl, rfl⟩)⟩
            cases h3 : lessF y z with
            | false => rfl
            | true => rw [lessF_trans h3 h1] at h2; cases h2
          | false =>
            have e : bestF (x :: X) (y :: Y) (z :: Z) = x := by simp [bestF, best3, best2, h1, h2, headOf]
            rw [e]; exact ⟨rs_low hX, low_of hY h2, low_of hZ h1, .inl ⟨x, X, rfl, rfl⟩⟩
theorem cols_is : ∀ (n : Nat) (X Y Z : List TFact), Rs X → Rs Y → Rs Z → X.length + Y.length + Z.length < n → (colsP n X Y Z).map (fun c => (strip c.1, c.2)) = (both (both X Y) Z).map (fun f => (f, dataOf X Y Z f)) ∧ ∀ c ∈ colsP n X Y Z, (c.1 ∈ X ∨ c.1 ∈ Y ∨ c.1 ∈ Z)
  | 0, X, Y, Z, hX, hY, hZ, h => absurd h (Nat.not_lt_zero _)
  | n + 1, X, Y, Z, hX, hY, hZ, h => by
    unfold colsP
    by_cases hb : best3 X Y Z < 0
    · rw [if_pos hb]
      rcases best3_cases X Y Z with ⟨_, rfl, rfl, rfl⟩ | ⟨e, _⟩ | ⟨e, _⟩ | ⟨e, _⟩
      · exact ⟨by simp only [colsP, both_nil, List.map_nil], fun _ h => absurd h List.not_mem_nil⟩
      · omega
      · omega
      · omega
    · rw [if_neg hb]
      obtain ⟨l1, l2, l3, l4⟩ := best_low X Y Z hX hY hZ hb
      have hmem : bestF X Y Z ∈ X ∨ bestF X Y Z ∈ Y ∨ bestF X Y Z ∈ Z := by
        unfold bestF
        rcases best3_cases X Y Z with ⟨e, _⟩ | ⟨e, x, X', rfl⟩ | ⟨e, y, Y', rfl⟩ | ⟨e, z, Z', rfl⟩
        · omega
        · rw [e]; exact .inl List.mem_cons_self
        · rw [e]; exact .inr (.inl List.mem_cons_self)
        · rw [e]; exact .inr (.inr List.mem_cons_self)
      have hlen : (dropK (bestF X Y Z) X).length + (dropK (bestF X Y Z) Y).length + (dropK (bestF X Y Z) Z).length < n := by
        have q1 := takeP_len (bestF X Y Z) X
        have q2 := takeP_len (bestF X Y Z) Y
        have q3 := takeP_len (bestF X Y Z) Z
        rcases l4 with ⟨x, A, e, hk⟩ | ⟨x, A, e, hk⟩ | ⟨x, A, e, hk⟩
        · have : (dropK (bestF X Y Z) X).length + 1 = X.length := by rw [e] at hk ⊢; rw [dropK_y hk]; simp
          show _ + (takeP (bestF X Y Z) Y).2.2.length + (takeP (bestF X Y Z) Z).2.2.length < n
          omega
        · have : (dropK (bestF X Y Z) Y).length + 1 = Y.length := by rw [e] at hk ⊢; rw [dropK_y hk]; simp
          show (takeP (bestF X Y Z) X).2.2.length + _ + (takeP (bestF X Y Z) Z).2.2.length < n
          omega
        · have : (dropK (bestF X Y Z) Z).length + 1 = Z.length := by rw [e] at hk ⊢; rw [dropK_y hk]; simp
          show (takeP (bestF X Y Z) X).2.2.length + (takeP (bestF X Y Z) Y).2.2.length + _ < n
          omega
      have b3 := both3_step l1 l2 l3 l4
      have t1 := take_value l1 hX
      have t2 := take_value l2 hY
      have t3 := take_value l3 hZ
      have a1 := drop_above l1 hX
      have a2 := drop_above l2 hY
      have a3 := drop_above l3 hZ
      generalize bestF X Y Z = g at *
      obtain ⟨ih1, ih2⟩ := cols_is n (dropK g X) (dropK g Y) (dropK g Z) (drop_rs hX) (drop_rs hY) (drop_rs hZ) hlen
      constructor
      · rw [b3, List.map_cons, List.map_cons, ih1]
        congr 1
        · show (strip g, ((takeP g X).1, (takeP g Y).1, (takeP g Z).1), (takeP g X).2.1, (takeP g Y).2.1, (takeP g Z).2.1) = (strip g, dataOf X Y Z (strip g))
          unfold dataOf
          rw [t1.1, t2.1, t3.1, t1.2, t2.2, t3.2]
        · refine List.map_congr_left fun f hf => ?_
          have hk : keyF f ≠ keyF g := by
            obtain ⟨q, hq, hqk⟩ := both_mem _ _ f hf
            rcases hq with hq | hq
            · obtain ⟨p, hp, hpk⟩ := both_mem _ _ q hq
              rcases hp with hp | hp
              · have := a1 p hp; exact fun e => lessF_nkey this (hpk.trans (hqk.trans e)).symm
              · have := a2 p hp; exact fun e => lessF_nkey this (hpk.trans (hqk.trans e)).symm
            · have := a3 q hq; exact fun e => lessF_nkey this (hqk.trans e).symm
          unfold dataOf
          rw [drop_value hk, drop_value hk, drop_value hk]
      · intro c hc
        rcases List.mem_cons.1 hc with rfl | hc
        · exact hmem
        · rcases ih2 c hc with q | q | q
          · exact .inl (drop_sub q)
          · exact .inr (.inl (drop_sub q))
          · exact .inr (.inr (drop_sub q))
end Go.Proofs.Ytmenplonaapliaa.AE
end
section
set_option linter.unusedVariables false
set_option linter.unusedSimpArgs false
set_option maxRecDepth 20000
namespace Go.Proofs.Ytmenplonaapliaa.AE
open Go

theorem Same27_l (l : List TFact) (hl : l.length ≤ 140737488351232) : ∀ d i : Nat, i + d = l.length → V.pleachref27_Same.l11010 l l (i : Int) = some true
  | 0, i, h => by
    refine V.pleachref27_Same.l11010.of _ _ _ ?_
    unfold F.pleachref27_Same.l11010.B
    rw [if_out (by omega)]
  | d + 1, i, h => by
    have hi : i < l.length := by omega
    refine V.pleachref27_Same.l11010.of _ _ _ ?_
    unfold F.pleachref27_Same.l11010.B
    rw [if_in hi, guard_in hi, guard_in hi, w64_up hi hl, Same27_l l hl d (i + 1) (by omega), nat_cast, strEq_self, strEq_self, strEq_self, beq_self_eq_true]
    rfl
theorem Same27_self (l : List TFact) (hl : l.length ≤ 140737488351232) : V.pleachref27_Same l l = some true := by
  refine V.pleachref27_Same.of l l ?_
  unfold F.pleachref27_Same.B
  rw [show ((l.length : Int) != (l.length : Int)) = false by simp, cond_false]
  exact Same27_l l hl l.length 0 (by omega)

/-! ### Facts behind changes -/

end Go.Proofs.Ytmenplonaapliaa.AE
end
section
set_option linter.unusedVariables false
set_option linter.unusedSimpArgs false
set_option maxRecDepth 20000
namespace Go.Proofs.Ytmenplonaapliaa.AE
open Go

/-! ### What counts of a fact -/
def cntP (X Y Z : List TFact) (f : TFact) : ByteArray × Bool × Bool :=
  if valueOf Y f = valueOf Z f then ((valueOf Y f).1, (valueOf Y f).2, true) else if valueOf Z f = valueOf X f then ((valueOf Y f).1, (valueOf Y f).2, true) else if valueOf Y f = valueOf X f then ((valueOf Z f).1, (valueOf Z f).2, true) else (⟨#[]⟩, false, false)
theorem Counts_ok (X Y Z : List TFact) (f : TFact) (hX : X.length ≤ 140737488351232) (hY : Y.length ≤ 140737488351232) (hZ : Z.length ≤ 140737488351232) : V.pleachref28_Counts X Y Z f = some (cntP X Y Z f) := by
  apply V.pleachref28_Counts.of; unfold F.pleachref28_Counts.B cntP
  have e : (f.1, f.2.1, f.2.2.1, f.2.2.2) = f := rfl
  rw [e, Value_ok X f hX, Value_ok Y f hY, Value_ok Z f hZ]
  simp only [Option.bind_some, strEq_dec]
  obtain ⟨x1, x2⟩ := valueOf X f
  obtain ⟨y1, y2⟩ := valueOf Y f
  obtain ⟨z1, z2⟩ := valueOf Z f
  simp only [Prod.mk.injEq]
  by_cases h1 : y1 = z1 <;> by_cases h2 : z1 = x1 <;> by_cases h3 : y1 = x1 <;> cases x2 <;> cases y2 <;> cases z2 <;> simp [h1, h2, h3] <;> simp_all
def stP (X Y Z : List TFact) (f : TFact) : Bool := (cntP X Y Z f).2.1 || !(cntP X Y Z f).2.2
theorem there_ok (X Y Z : List TFact) (k : Int) (s : ByteArray) (hX : X.length ≤ 140737488351232) (hY : Y.length ≤ 140737488351232) (hZ : Z.length ≤ 140737488351232) : V.pleachref28_there X Y Z k s = some (stP X Y Z (k, s, (⟨#[]⟩ : ByteArray), (⟨#[]⟩ : ByteArray))) := by
  apply V.pleachref28_there.of; unfold F.pleachref28_there.B stP
  rw [Counts_ok X Y Z _ hX hY hZ, Option.bind_some]
  cases (cntP X Y Z (k, s, (⟨#[]⟩ : ByteArray), (⟨#[]⟩ : ByteArray))).2.1 <;> rfl

/-! ### Which of three counts -/
theorem same12 (c : Tcolumn) : V.three_column_same c 1 2 = some ((c.2.2.2.1 == c.2.2.2.2) && strEq c.2.1.2.1 c.2.1.2.2) := by
  apply V.three_column_same.of; unfold F.three_column_same.B
  show (bif (c.2.2.2.1 == c.2.2.2.2) then some (strEq c.2.1.2.1 c.2.1.2.2) else some false) = _
  cases (c.2.2.2.1 == c.2.2.2.2) <;> rfl
theorem same02 (c : Tcolumn) : V.three_column_same c 0 2 = some ((c.2.2.1 == c.2.2.2.2) && strEq c.2.1.1 c.2.1.2.2) := by
  apply V.three_column_same.of; unfold F.three_column_same.B
  show (bif (c.2.2.1 == c.2.2.2.2) then some (strEq c.2.1.1 c.2.1.2.2) else some false) = _
  cases (c.2.2.1 == c.2.2.2.2) <;> rfl
theorem same01 (c : Tcolumn) : V.three_column_same c 0 1 = some ((c.2.2.1 == c.2.2.2.1) && strEq c.2.1.1 c.2.1.2.1) := by
  apply V.three_column_same.of; unfold F.three_column_same.B
  show (bif (c.2.2.1 == c.2.2.2.1) then some (strEq c.2.1.1 c.2.1.2.1) else some false) = _
  cases (c.2.2.1 == c.2.2.2.1) <;> rfl
abbrev TData : Type := (ByteArray × ByteArray × ByteArray) × Int × Int × Int
def pkP (d : TData) : Int := if (d.2.2.1 = d.2.2.2 ∧ d.1.2.1 = d.1.2.2) ∨ (d.2.1 = d.2.2.2 ∧ d.1.1 = d.1.2.2) then 1 else if d.2.1 = d.2.2.1 ∧ d.1.1 = d.1.2.1 then 2 else 0
theorem pick_core (v1 v2 v3 : ByteArray) (t1 t2 t3 : Int) : (bif ((t2 == t3) && decide (v2 = v3)) then (bif ((t2 == t3) && decide (v2 = v3)) then (some (1 : Int)) else (bif ((t1 == t2) && decide (v1 = v2)) then (some 2) else (some 0))) else (bif ((t1 == t3) && decide (v1 = v3)) then (some 1) else (bif ((t1 == t2) && decide (v1 = v2)) then (some 2) else (some 0)))) = some (pkP ((v1, v2, v3), t1, t2, t3)) := by
  unfold pkP
  have b : ∀ x y : Int, (x == y) = decide (x = y) := fun _ _ => rfl
  simp only [b]
  by_cases h1 : t2 = t3 ∧ v2 = v3
  · rw [if_pos (.inl h1), decide_eq_true h1.1, decide_eq_true h1.2]; rfl
  · have e1 : (decide (t2 = t3) && decide (v2 = v3)) = false := by
      rw [Bool.and_eq_false_iff, decide_eq_false_iff_not, decide_eq_false_iff_not]
      by_cases q : t2 = t3
      · exact .inr (fun q2 => h1 ⟨q, q2⟩)
      · exact .inl q
    rw [e1, cond_false]
    by_cases h2 : t1 = t3 ∧ v1 = v3
    · rw [if_pos (.inr h2), decide_eq_true h2.1, decide_eq_true h2.2]; rfl
    · have e2 : (decide (t1 = t3) && decide (v1 = v3)) = false := by
        rw [Bool.and_eq_false_iff, decide_eq_false_iff_not, decide_eq_false_iff_not]
        by_cases q : t1 = t3
        · exact .inr (fun q2 => h2 ⟨q, q2⟩)
        · exact .inl q
      rw [e2, cond_false, if_neg (fun g => g.elim h1 h2)]
      by_cases h3 : t1 = t2 ∧ v1 = v2
      · rw [if_pos h3, decide_eq_true h3.1, decide_eq_true h3.2]; rfl
      · have e3 : (decide (t1 = t2) && decide (v1 = v2)) = false := by
          rw [Bool.and_eq_false_iff, decide_eq_false_iff_not, decide_eq_false_iff_not]
          by_cases q : t1 = t2
          · exact .inr (fun q2 => h3 ⟨q, q2⟩)
          · exact .inl q
        rw [if_neg h3, e3]; rfl
theorem pick_ok (c : Tcolumn) : V.three_column_pick c = some (pkP c.2) := by
  apply V.three_column_pick.of; unfold F.three_column_pick.B
  have e : ((c.1.1, c.1.2.1, c.1.2.2.1, c.1.2.2.2), (c.2.1.1, c.2.1.2.1, c.2.1.2.2), c.2.2.1, c.2.2.2.1, c.2.2.2.2) = c := rfl
  rw [e, same12, same02, same01]
  simp only [Option.bind_some, strEq_dec]
  exact pick_core c.2.1.1 c.2.1.2.1 c.2.1.2.2 c.2.2.1 c.2.2.2.1 c.2.2.2.2

/-! ### Names of elements, the map of those that are there -/
def keyN (k : Int) (s : ByteArray) : ByteArray := if k = 1 ∨ k = 2 ∨ k = 3 then (⟨#[110]⟩ : ByteArray) ++ s else (⟨#[101]⟩ : ByteArray) ++ s
theorem key_ok (k : Int) (s : ByteArray) (hs : s.size ≤ 140737488351232) : V.three_key k s = some (keyN k s) := by
  apply V.three_key.of; unfold F.three_key.B keyN
  have g : decide ((⟨#[110]⟩ : ByteArray).size + s.size ≤ i64max) = true := decide_eq_true (by show 1 + _ ≤ _; unfold i64max; omega)
  have g2 : decide ((⟨#[101]⟩ : ByteArray).size + s.size ≤ i64max) = true := decide_eq_true (by show 1 + _ ≤ _; unfold i64max; omega)
  rw [g, g2]
  simp only [guard_tt]
  by_cases h1 : k = 1
  · simp [h1]
  · by_cases h2 : k = 2
    · simp [h2]
    · by_cases h3 : k = 3
      · simp [h3]
      · rw [if_neg (by omega), show (k == 1) = false by simpa using h1, show (k == 2) = false by simpa using h2, show (k == 3) = false by simpa using h3]; rfl
abbrev TMet : Type := List (ByteArray × Int)
def getM (m : TMet) (k : ByteArray) : Int := (mget (ks := .str) (vs := (.int .i64)) m k).getD 0
def putM (m : TMet) (k : ByteArray) : TMet := mput (ks := .str) (vs := (.int .i64)) m k 1
theorem getM_put : ∀ (m : TMet) (a k : ByteArray), getM (putM m a) k = if a = k then 1 else getM m k
  | [], a, k => by
    unfold getM putM
    simp only [mput, mget, AE.keyB, strEq_dec]
    by_cases h : k = a
    · simp [h]
    · rw [decide_eq_false h, if_neg (fun e => h e.symm)]
  | e :: r, a, k => by
    have ih := getM_put r a k
    unfold getM putM at ih ⊢
    simp only [mput, mget, AE.keyB, strEq_dec] at ih ⊢
    by_cases h1 : a = e.1
    · rw [decide_eq_true h1]
      simp only [mget, AE.keyB, strEq_dec]
      by_cases h : k = a
      · simp [h]
      · rw [decide_eq_false h, if_neg (fun q => h q.symm), decide_eq_false (fun q => h (q.trans h1.symm))]
    · rw [decide_eq_false h1]
      simp only [mget, AE.keyB, strEq_dec]
      by_cases h : k = e.1
      · rw [decide_eq_true h, if_neg (fun q => h1 (q.trans h))]
      · rw [decide_eq_false h]; exact ih
/-- A node, or an edge, itself. -/
abbrev isEl (f : TFact) : Prop := (f.1 = 1 ∨ f.1 = 4) ∧ f.2.2.1 = (⟨#[]⟩ : ByteArray)
def metP (m : TMet) (f : TFact) : TMet := if isEl f then putM m (keyN f.1 f.2.1) else m
theorem meetE_ok (m : Tmerge) (f : TFact) (hs : f.2.1.size ≤ 140737488351232) : V.three_merge_meet m f = some (m.1, m.2.1, metP m.2.2 f) := by
  apply V.three_merge_meet.of; unfold F.three_merge_meet.B metP
  rw [key_ok _ _ hs, strEq_dec]
  by_cases h1 : f.1 = 1
  · by_cases h3 : f.2.2.1 = (⟨#[]⟩ : ByteArray)
    · rw [show (f.1 == 1) = true by simp [h1], cond_true, decide_eq_true h3, cond_true, if_pos (show isEl f from ⟨.inl h1, h3⟩)]; rfl
    · rw [show (f.1 == 1) = true by simp [h1], cond_true, decide_eq_false h3, cond_false, if_neg (show ¬ isEl f from fun g => h3 g.2)]
  · by_cases h2 : f.1 = 4
    · by_cases h3 : f.2.2.1 = (⟨#[]⟩ : ByteArray)
      · rw [show (f.1 == 1) = false by simp [h1], cond_false, show (f.1 == 4) = true by simp [h2], cond_true, decide_eq_true h3, cond_true, if_pos (show isEl f from ⟨.inr h2, h3⟩)]; rfl
      · rw [show (f.1 == 1) = false by simp [h1], cond_false, show (f.1 == 4) = true by simp [h2], cond_true, decide_eq_false h3, cond_false, if_neg (show ¬ isEl f from fun g => h3 g.2)]
    · rw [show (f.1 == 1) = false by simp [h1], cond_false, show (f.1 == 4) = false by simp [h2], cond_false, if_neg (show ¬ isEl f from fun g => g.1.elim h1 h2)]
abbrev confC (f : TFact) (w : Int) : TConflict := (f.1, f.2.1, f.2.2.1, w)
theorem conflict_ok (m : Tmerge) (f : TFact) (w : Int) (h : m.2.1.length ≤ 1000000) : V.three_merge_conflict m f w = some (m.1, m.2.1 ++ [confC f w], m.2.2) := by
  apply V.three_merge_conflict.of; unfold F.three_merge_conflict.B
  rw [guard_dec (by simp only [List.length_cons, List.length_nil]; unfold nmax; omega), meet_self]

/-! ### Point by point -/
def pointK (m : Tmerge) (f : TFact) (d : TData) : Tmerge :=
  if pkP d = 0 then (m.1, m.2.1 ++ [confC f 1], metP m.2.2 f)
  else if pkP d = 1 then (if d.2.2.1 = 0 then m else (m.1 ++ [(f.1, f.2.1, f.2.2.1, d.1.2.1)], m.2.1, metP m.2.2 f))
  else (if d.2.2.2 = 0 then m else (m.1 ++ [(f.1, f.2.1, f.2.2.1, d.1.2.2)], m.2.1, metP m.2.2 f))
theorem pkP_cases (d : TData) : pkP d = 0 ∨ pkP d = 1 ∨ pkP d = 2 := by unfold pkP; (repeat' split) <;> simp
theorem point_ok (m : Tmerge) (c : Tcolumn) (hs : c.1.2.1.size ≤ 140737488351232) (h1 : m.1.length ≤ 1000000) (h2 : m.2.1.length ≤ 1000000) : V.three_merge_point m c = some (pointK m c.1 c.2) := by
  apply V.three_merge_point.of; unfold F.three_merge_point.B pointK
  have e : ((c.1.1, c.1.2.1, c.1.2.2.1, c.1.2.2.2), (c.2.1.1, c.2.1.2.1, c.2.1.2.2), c.2.2.1, c.2.2.2.1, c.2.2.2.2) = c := rfl
  rw [e, pick_ok, Option.bind_some]
  rcases pkP_cases c.2 with h | h | h
  · rw [h, show ((0 : Int) == 0) = true from rfl, cond_true, if_pos rfl]
    rw [show V.three_merge_conflict (m.1, m.2.1, m.2.2) (c.1.1, c.1.2.1, c.1.2.2.1, c.1.2.2.2) 1 = _ from conflict_ok m c.1 1 h2, Option.bind_some]
    rw [show V.three_merge_meet (m.1, m.2.1 ++ [confC c.1 1], m.2.2) (c.1.1, c.1.2.1, c.1.2.2.1, c.1.2.2.2) = _ from meetE_ok (m.1, m.2.1 ++ [confC c.1 1], m.2.2) c.1 hs, Option.bind_some]
  · rw [h, show ((1 : Int) == 0) = false from rfl, cond_false, cond_false, show ((1 : Int) == 1) = true from rfl, cond_true, if_neg (by decide), if_pos rfl]
    by_cases g : c.2.2.2.1 = 0
    · rw [show (c.2.2.2.1 == 0) = true by simp [g], cond_true, if_pos g]
    · rw [show (c.2.2.2.1 == 0) = false by simp [g], cond_false, if_neg g]
      apply V.three_merge_point.j1111.of; unfold F.three_merge_point.j1111.B
      rw [show ((1 : Int) == 0) = false from rfl, cond_false, show ((1 : Int) == 1) = true from rfl, cond_true]
      rw [show V.three_merge_meet (m.1, m.2.1, m.2.2) (c.1.1, c.1.2.1, c.1.2.2.1, c.2.1.2.1) = some (m.1, m.2.1, metP m.2.2 c.1) from meetE_ok m (c.1.1, c.1.2.1, c.1.2.2.1, c.2.1.2.1) hs, Option.bind_some, meet_self, guard_dec (by simp only [List.length_cons, List.length_nil]; unfold nmax; omega)]
  · rw [h, show ((2 : Int) == 0) = false from rfl, cond_false, cond_false, show ((2 : Int) == 1) = false from rfl, cond_false, show ((2 : Int) == 2) = true from rfl, cond_true, if_neg (by decide), if_neg (by decide)]
    by_cases g : c.2.2.2.2 = 0
    · rw [show (c.2.2.2.2 == 0) = true by simp [g], cond_true, if_pos g]
    · rw [show (c.2.2.2.2 == 0) = false by simp [g], cond_false, if_neg g]
      apply V.three_merge_point.j1111.of; unfold F.three_merge_point.j1111.B
      rw [show ((2 : Int) == 0) = false from rfl, cond_false, show ((2 : Int) == 1) = false from rfl, cond_false, show ((2 : Int) == 2) = true from rfl, cond_true]
      rw [show V.three_merge_meet (m.1, m.2.1, m.2.2) (c.1.1, c.1.2.1, c.1.2.2.1, c.2.1.2.2) = some (m.1, m.2.1, metP m.2.2 c.1) from meetE_ok m (c.1.1, c.1.2.1, c.1.2.2.1, c.2.1.2.2) hs, Option.bind_some, meet_self, guard_dec (by simp only [List.length_cons, List.length_nil]; unfold nmax; omega)]
theorem pointK_len (m : Tmerge) (f : TFact) (d : TData) : (pointK m f d).1.length ≤ m.1.length + 1 ∧ (pointK m f d).2.1.length ≤ m.2.1.length + 1 := by
  unfold pointK
  (repeat' split) <;> simp
theorem points_l (a b c : List TFact) (cols : List Tcolumn) (hc : cols.length ≤ 500000) (hs : ∀ q ∈ cols, q.1.2.1.size ≤ 140737488351232) {r : List TFact × List TConflict} : ∀ (d i : Nat) (m : Tmerge), i + d = cols.length → m.1.length ≤ i → m.2.1.length ≤ i →
    V.three_Facts.l1111010 a b c (((cols.drop i).foldl (fun m q => pointK m q.1 q.2) m).1.length : Int) 0 ((cols.drop i).foldl (fun m q => pointK m q.1 q.2) m).1 ((cols.drop i).foldl (fun m q => pointK m q.1 q.2) m).2.1 ((cols.drop i).foldl (fun m q => pointK m q.1 q.2) m).2.2 = some r →
    V.three_Facts.l111010 a b c (cols.length : Int) (i : Int) cols m.1 m.2.1 m.2.2 = some r
  | 0, i, m, h, h1, h2, hr => by
    apply V.three_Facts.l111010.of; unfold F.three_Facts.l111010.B
    rw [if_out (by omega)]
    rw [List.drop_eq_nil_of_le (by omega)] at hr
    exact hr
  | d + 1, i, m, h, h1, h2, hr => by
    have hi : i < cols.length := by omega
    apply V.three_Facts.l111010.of; unfold F.three_Facts.l111010.B
    rw [if_in hi, guard_in hi, nat_cast, w64_up hi (by omega)]
    have hq := hs _ (rd_mem (e := scolumn) hi)
    rw [drop_rd (e := scolumn) hi, List.foldl_cons] at hr
    generalize rd scolumn cols i = q at hq hr ⊢
    rw [show V.three_merge_point (m.1, m.2.1, m.2.2) ((q.1.1, q.1.2.1, q.1.2.2.1, q.1.2.2.2), (q.2.1.1, q.2.1.2.1, q.2.1.2.2), q.2.2.1, q.2.2.2.1, q.2.2.2.2) = some (pointK m q.1 q.2) from point_ok m q hq (by omega) (by omega), Option.bind_some]
    have hl := pointK_len m q.1 q.2
    exact points_l a b c cols hc hs d (i + 1) (pointK m q.1 q.2) (by omega) (by omega) (by omega) hr

/-! ### May a fact stand? -/
def standsP (m : TMet) (f : TFact) : Int :=
  if f.1 = 4 then (if getM m (keyN 1 (partF f.2.2.2).1) = 0 then 2 else if getM m (keyN 1 (partF f.2.2.2).2) = 0 then 2 else 0)
  else if f.1 = 2 ∨ f.1 = 3 ∨ f.1 = 5 ∨ f.1 = 6 then (if getM m (keyN f.1 f.2.1) = 0 then 3 else 0) else 0
theorem partF_size (s : ByteArray) : (partF s).1.size ≤ s.size ∧ (partF s).2.size ≤ s.size := by
  unfold partF
  split
  · exact ⟨extract_size _ _ _, extract_size _ _ _⟩
  · exact ⟨Nat.le_refl _, Nat.zero_le _⟩
theorem stands_ok (m : Tmerge) (f : TFact) (h1 : f.2.1.size ≤ 140737488351232) (h2 : f.2.2.2.size ≤ 140737488351232) : V.three_merge_stands m f = some (standsP m.2.2 f, m.1, m.2.1, m.2.2) := by
  apply V.three_merge_stands.of; unfold F.three_merge_stands.B standsP
  obtain ⟨p1, p2⟩ := partF_size f.2.2.2
  rw [Parted_ok _ h2, key_ok _ _ h1]
  simp only [Option.bind_some]
  rw [key_ok 1 _ (show (partF f.2.2.2).1.size ≤ 140737488351232 by omega), key_ok 1 _ (show (partF f.2.2.2).2.size ≤ 140737488351232 by omega)]
  simp only [Option.bind_some]
  have G : ∀ k, (mget (ks := .str) (vs := (.int .i64)) m.2.2 k).getD 0 = getM m.2.2 k := fun _ => rfl
  simp only [G]
  have key : ∀ (x : Int) (p q : Int × Tmerge), (bif (x == 0) then some p else some q) = some (if x = 0 then p else q) := fun x p q => by
    by_cases h : x = 0
    · simp [h]
    · rw [show (x == 0) = false by simp [h], cond_false, if_neg h]
  by_cases e4 : f.1 = 4
  · rw [show (f.1 == 4) = true by simp [e4], cond_true, if_pos e4]
    by_cases g : getM m.2.2 (keyN 1 (partF f.2.2.2).1) = 0
    · rw [show (getM m.2.2 (keyN 1 (partF f.2.2.2).1) == 0) = true by simp [g], cond_true, if_pos g]
    · rw [show (getM m.2.2 (keyN 1 (partF f.2.2.2).1) == 0) = false by simp [g], cond_false, if_neg g, key]
      split <;> rfl
  · rw [show (f.1 == 4) = false by simp [e4], cond_false, if_neg e4]
    by_cases e2 : f.1 = 2
    · rw [show (f.1 == 2) = true by simp [e2], cond_true, cond_true, if_pos (.inl e2), key]; split <;> rfl
    · rw [show (f.1 == 2) = false by simp [e2], cond_false]
      by_cases e3 : f.1 = 3
      · rw [show (f.1 == 3) = true by simp [e3], cond_true, cond_true, if_pos (.inr (.inl e3)), key]; split <;> rfl
      · rw [show (f.1 == 3) = false by simp [e3], cond_false]
        by_cases e5 : f.1 = 5
        · rw [show (f.1 == 5) = true by simp [e5], cond_true, cond_true, if_pos (.inr (.inr (.inl e5))), key]; split <;> rfl
        · rw [show (f.1 == 5) = false by simp [e5], cond_false]
          by_cases e6 : f.1 = 6
          · rw [show (f.1 == 6) = true by simp [e6], cond_true, if_pos (.inr (.inr (.inr e6))), key]; split <;> rfl
          · rw [show (f.1 == 6) = false by simp [e6], cond_false, if_neg (fun g => by omega)]
def strayP (m : TMet) (l : List TFact) : List TConflict := l.filterMap fun f => if standsP m f ≠ 0 then some (confC f (standsP m f)) else none
theorem strays_l (a b c : List TFact) (l : List TFact) (hl : l.length ≤ 500000) (h1 : ∀ f ∈ l, f.2.1.size ≤ 140737488351232 ∧ f.2.2.2.size ≤ 140737488351232) (m : TMet) : ∀ (d i : Nat) (bad : List TConflict), i + d = l.length → bad.length ≤ 500000 + i →
    V.three_Facts.l1111010 a b c (l.length : Int) (i : Int) l bad m = (if bad ++ strayP m (l.drop i) = [] then some (l, []) else (V.slices_SortStableFunc_apiConflictapiConflict_by_three_Compare (bad ++ strayP m (l.drop i))).bind fun t => some ([], t)) ∨ V.slices_SortStableFunc_apiConflictapiConflict_by_three_Compare (bad ++ strayP m (l.drop i)) = none
  | 0, i, bad, h, hb => by
    by_cases hn : V.slices_SortStableFunc_apiConflictapiConflict_by_three_Compare (bad ++ strayP m (l.drop i)) = none
    · exact .inr hn
    left
    rw [List.drop_eq_nil_of_le (by omega)] at hn ⊢
    rw [show strayP m [] = [] from rfl, List.append_nil] at hn ⊢
    obtain ⟨t, ht⟩ := Option.ne_none_iff_exists'.1 hn
    by_cases e : bad = []
    · rw [if_pos e]
      apply V.three_Facts.l1111010.of; unfold F.three_Facts.l1111010.B
      rw [if_out (by omega), e]; rfl
    · rw [if_neg e, ht, Option.bind_some]
      apply V.three_Facts.l1111010.of; unfold F.three_Facts.l1111010.B
      have : 0 < bad.length := List.length_pos_iff.2 e
      rw [if_out (by omega), if_yes (by omega), ht, Option.bind_some]
  | d + 1, i, bad, h, hb => by
    have hi : i < l.length := by omega
    have hf := h1 _ (rd_mem (e := sFact) hi)
    have hd : l.drop i = rd sFact l i :: l.drop (i + 1) := drop_rd (e := sFact) hi
    by_cases hn : V.slices_SortStableFunc_apiConflictapiConflict_by_three_Compare (bad ++ strayP m (l.drop i)) = none
    · exact .inr hn
    left
    have step : ∀ (bad' : List TConflict), bad'.length ≤ 500000 + (i + 1) → bad' ++ strayP m (l.drop (i + 1)) = bad ++ strayP m (l.drop i) → V.three_Facts.l1111010 a b c (l.length : Int) ((i + 1 : Nat) : Int) l bad' m = (if bad ++ strayP m (l.drop i) = [] then some (l, []) else (V.slices_SortStableFunc_apiConflictapiConflict_by_three_Compare (bad ++ strayP m (l.drop i))).bind fun t => some ([], t)) := fun bad' q1 q2 => by
      have := strays_l a b c l hl h1 m d (i + 1) bad' (by omega) q1
      rw [q2] at this
      exact this.resolve_right hn
    obtain ⟨t, ht⟩ := Option.ne_none_iff_exists'.1 hn
    have fin : ∀ {X : Option (List TFact × List TConflict)}, X = (if bad ++ strayP m (l.drop i) = [] then some (l, []) else (V.slices_SortStableFunc_apiConflictapiConflict_by_three_Compare (bad ++ strayP m (l.drop i))).bind fun t => some ([], t)) → ∃ r, X = some r ∧ (if bad ++ strayP m (l.drop i) = [] then some (l, []) else (V.slices_SortStableFunc_apiConflictapiConflict_by_three_Compare (bad ++ strayP m (l.drop i))).bind fun t => some ([], t)) = some r := fun {X} hX => by
      rw [ht] at hX ⊢
      by_cases e : bad ++ strayP m (l.drop i) = []
      · rw [if_pos e] at hX ⊢; exact ⟨_, hX, rfl⟩
      · rw [if_neg e] at hX ⊢; exact ⟨_, hX, rfl⟩
    by_cases e : standsP m (rd sFact l i) = 0
    · have q := step bad (by omega) (by rw [hd]; unfold strayP; rw [List.filterMap_cons, if_neg (fun g => g e)])
      obtain ⟨r, r1, r2⟩ := fin q
      rw [r2]
      apply V.three_Facts.l1111010.of; unfold F.three_Facts.l1111010.B
      rw [if_in hi, guard_in hi, nat_cast, w64_up hi (by omega)]
      generalize rd sFact l i = f at hf e ⊢
      rw [show V.three_merge_stands (l, bad, m) (f.1, f.2.1, f.2.2.1, f.2.2.2) = some (standsP m f, l, bad, m) from stands_ok (l, bad, m) f hf.1 hf.2, Option.bind_some]
      rw [show (standsP m f != 0) = false by simp [e], cond_false]
      exact r1
    · have q := step (bad ++ [confC (rd sFact l i) (standsP m (rd sFact l i))]) (by simp; omega) (by rw [hd]; unfold strayP; rw [List.filterMap_cons, if_pos e, List.append_assoc]; rfl)
      obtain ⟨r, r1, r2⟩ := fin q
      rw [r2]
      apply V.three_Facts.l1111010.of; unfold F.three_Facts.l1111010.B
      rw [if_in hi, guard_in hi, nat_cast, w64_up hi (by omega)]
      generalize rd sFact l i = f at hf e r1 ⊢
      rw [show V.three_merge_stands (l, bad, m) (f.1, f.2.1, f.2.2.1, f.2.2.2) = some (standsP m f, l, bad, m) from stands_ok (l, bad, m) f hf.1 hf.2, Option.bind_some]
      rw [show (standsP m f != 0) = true by simp [e], cond_true]
      rw [show V.three_merge_conflict (l, bad, m) (f.1, f.2.1, f.2.2.1, f.2.2.2) (standsP m f) = some (l, bad ++ [confC f (standsP m f)], m) from conflict_ok (l, bad, m) f _ (by show bad.length ≤ _; omega), Option.bind_some]
      exact r1
end Go.Proofs.Ytmenplonaapliaa.AE
end
section
set_option linter.unusedVariables false
set_option linter.unusedSimpArgs false
set_option maxRecDepth 20000
namespace Go.Proofs.Ytmenplonaapliaa.AE
open Go

theorem rise_all {l : List TFact} : ∀ {d i : Nat}, riseF l d i = true → ∀ j, i ≤ j → j < i + d → lessF (rd sFact l (j - 1)) (rd sFact l j) = true
  | 0, i, h, j, h1, h2 => by omega
  | d + 1, i, h, j, h1, h2 => by
    rw [riseF, Bool.and_eq_true] at h
    rcases Nat.eq_or_lt_of_le h1 with e | g
    · subst e; exact h.1
    · exact rise_all h.2 j (by omega) (by omega)
theorem rsq_of : ∀ {l : List TFact}, (∀ j, 1 ≤ j → j < l.length → lessF (rd sFact l (j - 1)) (rd sFact l j) = true) → Rs l
  | [], _ => List.Pairwise.nil
  | [x], _ => by simp [Rs]
  | x :: y :: l, h => by
    have hy : Rs (y :: l) := rsq_of fun j h1 h2 => by
      have := h (j + 1) (by omega) (by simp only [List.length_cons] at h2 ⊢; omega)
      rw [show j + 1 - 1 = (j - 1) + 1 by omega] at this
      exact this
    have hxy : lessF x y = true := h 1 (by omega) (by simp only [List.length_cons]; omega)
    refine List.Pairwise.cons (fun z hz => ?_) hy
    rcases List.mem_cons.1 hz with rfl | hz
    · exact hxy
    · exact lessF_trans hxy (hy.head hz)
theorem rises_rsq {l : List TFact} (h : rises l = true) : Rs l := rsq_of fun j h1 h2 => rise_all h j h1 (by omega)

/-! ### Keys of two rows -/
theorem both_rs : ∀ (n : Nat) (a b : List TFact), a.length + b.length ≤ n → Rs a → Rs b → Rs (both a b)
  | n, [], b, h, ha, hb => by
    rw [both_nil]
    exact List.pairwise_map.2 (hb.imp fun {x y} q => by rw [lessF_key (strip_key x) (strip_key y)]; exact q)
  | 0, x :: a, b, h, ha, hb => by simp at h
  | n + 1, x :: a, [], h, ha, hb => by
    rw [both_nil']
    refine List.Pairwise.cons (fun z hz => ?_) (both_rs n a [] (by simp at h ⊢; omega) ha.tail hb)
    obtain ⟨q, hq, hk⟩ := both_mem _ _ z hz
    have hq := hq.resolve_right List.not_mem_nil
    rw [lessF_key (strip_key x) hk.symm]; exact ha.head hq
  | n + 1, x :: a, y :: b, h, ha, hb => by
    simp only [List.length_cons] at h
    rw [both]
    split
    · rename_i h1
      refine List.Pairwise.cons (fun z hz => ?_) (both_rs n (x :: a) b (by simp only [List.length_cons]; omega) ha hb.tail)
      obtain ⟨q, hq, hk⟩ := both_mem _ _ z hz
      rw [lessF_key (strip_key y) hk.symm]
      rcases hq with hq | hq
      · rcases List.mem_cons.1 hq with rfl | hq
        · exact h1
        · exact lessF_trans h1 (ha.head hq)
      · exact hb.head hq
    · rename_i h1
      split
      · rename_i h2
        refine List.Pairwise.cons (fun z hz => ?_) (both_rs n a (y :: b) (by simp only [List.length_cons]; omega) ha.tail hb)
        obtain ⟨q, hq, hk⟩ := both_mem _ _ z hz
        rw [lessF_key (strip_key x) hk.symm]
        rcases hq with hq | hq
        · exact ha.head hq
        · rcases List.mem_cons.1 hq with rfl | hq
          · exact h2
          · exact lessF_trans h2 (hb.head hq)
      · rename_i h2
        have e : keyF y = keyF x := lessF_tri (Bool.eq_false_iff.2 h1) (Bool.eq_false_iff.2 h2)
        refine List.Pairwise.cons (fun z hz => ?_) (both_rs n a b (by omega) ha.tail hb.tail)
        obtain ⟨q, hq, hk⟩ := both_mem _ _ z hz
        rw [lessF_key (strip_key x) hk.symm]
        rcases hq with hq | hq
        · exact ha.head hq
        · rw [lessF_key e.symm rfl]; exact hb.head hq
theorem both_has : ∀ (n : Nat) (a b : List TFact), a.length + b.length ≤ n → ∀ z, z ∈ a ∨ z ∈ b → strip z ∈ both a b
  | n, [], b, h, z, hz => by
    rw [both_nil]
    exact List.mem_map_of_mem (hz.resolve_left List.not_mem_nil)
  | 0, x :: a, b, h, z, hz => by simp at h
  | n + 1, x :: a, [], h, z, hz => by
    rw [both_nil']
    rcases List.mem_cons.1 (hz.resolve_right List.not_mem_nil) with rfl | hz
    · exact List.mem_cons_self
    · exact List.mem_cons_of_mem _ (both_has n a [] (by simp at h ⊢; omega) z (.inl hz))
  | n + 1, x :: a, y :: b, h, z, hz => by
    simp only [List.length_cons] at h
    rw [both]
    split
    · rcases hz with hz | hz
      · exact List.mem_cons_of_mem _ (both_has n _ b (by simp only [List.length_cons]; omega) z (.inl hz))
      · rcases List.mem_cons.1 hz with rfl | hz
        · exact List.mem_cons_self
        · exact List.mem_cons_of_mem _ (both_has n _ b (by simp only [List.length_cons]; omega) z (.inr hz))
    · rename_i h1
      split
      · rcases hz with hz | hz
        · rcases List.mem_cons.1 hz with rfl | hz
          · exact List.mem_cons_self
          · exact List.mem_cons_of_mem _ (both_has n a _ (by simp only [List.length_cons]; omega) z (.inl hz))
        · exact List.mem_cons_of_mem _ (both_has n a _ (by simp only [List.length_cons]; omega) z (.inr hz))
      · rename_i h2
        have e : keyF y = keyF x := lessF_tri (Bool.eq_false_iff.2 h1) (Bool.eq_false_iff.2 h2)
        rcases hz with hz | hz
        · rcases List.mem_cons.1 hz with rfl | hz
          · exact List.mem_cons_self
          · exact List.mem_cons_of_mem _ (both_has n a b (by omega) z (.inl hz))
        · rcases List.mem_cons.1 hz with rfl | hz
          · rw [strip_eq e]; exact List.mem_cons_self
          · exact List.mem_cons_of_mem _ (both_has n a b (by omega) z (.inr hz))
theorem strip_strip (f : TFact) : strip (strip f) = strip f := rfl
section
variable {X Y Z : List TFact}
abbrev allK (X Y Z : List TFact) : List TFact := both (both X Y) Z
theorem all_has {z : TFact} (h : z ∈ X ∨ z ∈ Y ∨ z ∈ Z) : strip z ∈ allK X Y Z := by
  rcases h with h | h | h
  · exact both_has _ (both X Y) Z (Nat.le_refl _) (strip z) (.inl (both_has _ X Y (Nat.le_refl _) z (.inl h)))
  · exact both_has _ (both X Y) Z (Nat.le_refl _) (strip z) (.inl (both_has _ X Y (Nat.le_refl _) z (.inr h)))
  · exact both_has _ (both X Y) Z (Nat.le_refl _) z (.inr h)
theorem all_rs (hX : Rs X) (hY : Rs Y) (hZ : Rs Z) : Rs (allK X Y Z) := both_rs _ _ _ (Nat.le_refl _) (both_rs _ _ _ (Nat.le_refl _) hX hY) hZ
theorem all_mem {f : TFact} (h : f ∈ allK X Y Z) : ∃ z, (z ∈ X ∨ z ∈ Y ∨ z ∈ Z) ∧ keyF z = keyF f := by
  obtain ⟨q, hq, hk⟩ := both_mem _ _ f h
  rcases hq with hq | hq
  · obtain ⟨p, hp, hk2⟩ := both_mem _ _ q hq
    exact ⟨p, hp.elim .inl (fun x => .inr (.inl x)), hk2.trans hk⟩
  · exact ⟨q, .inr (.inr hq), hk⟩
theorem st_in {f : TFact} (hf : f.2.2.2 = (⟨#[]⟩ : ByteArray)) (h : stP X Y Z f = true) : f ∈ allK X Y Z := by
  apply Classical.byContradiction
  intro hn
  have no : ∀ l : List TFact, (∀ z ∈ l, z ∈ X ∨ z ∈ Y ∨ z ∈ Z) → valueOf l f = (⟨#[]⟩, false) := fun l hl => valueOf_none fun z hz e => by
    have := all_has (hl z hz)
    rw [strip_eq e, show strip f = f by unfold strip; rw [← hf]] at this
    exact hn this
  unfold stP cntP at h
  rw [no X (fun z hz => .inl hz), no Y (fun z hz => .inr (.inl hz)), no Z (fun z hz => .inr (.inr hz))] at h
  simp at h

/-! ### One key at a time -/
def stepP (X Y Z : List TFact) (m : Tmerge) (f : TFact) : Tmerge :=
  if (cntP X Y Z f).2.2 = false then (m.1, m.2.1 ++ [confC f 1], metP m.2.2 f)
  else if (cntP X Y Z f).2.1 = true then (m.1 ++ [(f.1, f.2.1, f.2.2.1, (cntP X Y Z f).1)], m.2.1, metP m.2.2 f) else m
theorem point_step (m : Tmerge) (f : TFact) : pointK m f (dataOf X Y Z f) = stepP X Y Z m f := by
  unfold pointK pkP stepP cntP dataOf
  obtain ⟨x1, x2⟩ := valueOf X f
  obtain ⟨y1, y2⟩ := valueOf Y f
  obtain ⟨z1, z2⟩ := valueOf Z f
  simp only [Prod.mk.injEq]
  have t : ∀ a b : Bool, (thereI a = thereI b) = (a = b) := fun a b => by cases a <;> cases b <;> simp [thereI]
  have t0 : ∀ a : Bool, (thereI a = 0) = (a = false) := fun a => by cases a <;> simp [thereI]
  simp only [t, t0]
  by_cases h1 : y1 = z1 ∧ y2 = z2
  · obtain ⟨rfl, rfl⟩ := h1
    cases y2 <;> simp
  · have h1' : ¬ (y2 = z2 ∧ y1 = z1) := fun g => h1 ⟨g.2, g.1⟩
    simp only [if_neg h1, h1', false_or]
    by_cases h2 : z1 = x1 ∧ z2 = x2
    · obtain ⟨rfl, rfl⟩ := h2
      simp only [and_self, if_true]
      cases y2 <;> simp
    · have h2' : ¬ (x2 = z2 ∧ x1 = z1) := fun g => h2 ⟨g.2.symm, g.1.symm⟩
      simp only [if_neg h2, if_neg h2']
      by_cases h3 : y1 = x1 ∧ y2 = x2
      · obtain ⟨rfl, rfl⟩ := h3
        simp only [and_self, if_true]
        cases z2 <;> simp
      · have h3' : ¬ (x2 = y2 ∧ x1 = y1) := fun g => h3 ⟨g.2.symm, g.1.symm⟩
        simp only [if_neg h3, if_neg h3']
        simp
def outP (X Y Z : List TFact) (l : List TFact) : List TFact := l.filterMap fun f => if (cntP X Y Z f).2.2 = true ∧ (cntP X Y Z f).2.1 = true then some (f.1, f.2.1, f.2.2.1, (cntP X Y Z f).1) else none
def badP (X Y Z : List TFact) (l : List TFact) : List TConflict := l.filterMap fun f => if (cntP X Y Z f).2.2 = false then some (confC f 1) else none
def metF (X Y Z : List TFact) (l : List TFact) (m : TMet) : TMet := l.foldl (fun m f => if stP X Y Z f = true then metP m f else m) m
theorem steps_is : ∀ (l : List TFact) (m : Tmerge), l.foldl (stepP X Y Z) m = (m.1 ++ outP X Y Z l, m.2.1 ++ badP X Y Z l, metF X Y Z l m.2.2)
  | [], m => by simp [outP, badP, metF]
  | f :: l, m => by
    rw [List.foldl_cons, steps_is l]
    unfold stepP outP badP metF
    rw [List.filterMap_cons, List.filterMap_cons, List.foldl_cons]
    unfold stP
    cases h1 : (cntP X Y Z f).2.2 <;> cases h2 : (cntP X Y Z f).2.1 <;> simp
theorem met_is : ∀ (l : List TFact) (m : TMet) (k : ByteArray), getM (metF X Y Z l m) k = if (∃ f ∈ l, stP X Y Z f = true ∧ isEl f ∧ keyN f.1 f.2.1 = k) then 1 else getM m k
  | [], m, k => by simp [metF]
  | f :: l, m, k => by
    have ih := met_is l (if stP X Y Z f = true then metP m f else m) k
    show getM (metF X Y Z l (if stP X Y Z f = true then metP m f else m)) k = _
    rw [ih]
    by_cases h : ∃ f ∈ l, stP X Y Z f = true ∧ isEl f ∧ keyN f.1 f.2.1 = k
    · rw [if_pos h]
      obtain ⟨g, hg, q⟩ := h
      rw [if_pos ⟨g, List.mem_cons_of_mem _ hg, q⟩]
    · rw [if_neg h]
      by_cases hf : stP X Y Z f = true ∧ isEl f ∧ keyN f.1 f.2.1 = k
      · have hy : ∃ g ∈ f :: l, stP X Y Z g = true ∧ isEl g ∧ keyN g.1 g.2.1 = k := ⟨f, List.mem_cons_self, hf⟩
        rw [if_pos hf.1, if_pos hy]
        unfold metP
        rw [if_pos hf.2.1, getM_put, if_pos hf.2.2]
      · have hn : ¬ ∃ g ∈ f :: l, stP X Y Z g = true ∧ isEl g ∧ keyN g.1 g.2.1 = k := fun ⟨g, hg, q⟩ => by
          rcases List.mem_cons.1 hg with rfl | hg
          · exact hf q
          · exact h ⟨g, hg, q⟩
        rw [if_neg hn]
        by_cases h1 : stP X Y Z f = true
        · rw [if_pos h1]
          unfold metP
          by_cases h2 : isEl f
          · rw [if_pos h2, getM_put, if_neg (fun e => hf ⟨h1, h2, e⟩)]
          · rw [if_neg h2]
        · rw [if_neg h1]
theorem one_left {c d : UInt8} {s t : ByteArray} (h : (⟨#[c]⟩ : ByteArray) ++ s = (⟨#[d]⟩ : ByteArray) ++ t) : c = d ∧ s = t := by
  have := congrArg (fun b : ByteArray => b.data.toList) h
  simp only [ByteArray.data_append, Array.toList_append] at this
  have e : c :: s.data.toList = d :: t.data.toList := this
  injection e with e1 e2
  exact ⟨e1, ByteArray.ext (Array.ext' e2)⟩
/-- Whether an element counts as there is what the map says. -/
theorem met_node (k : Int) (s : ByteArray) (hk : k = 1 ∨ k = 2 ∨ k = 3) : getM (metF X Y Z (allK X Y Z) []) (keyN k s) = if stP X Y Z (1, s, (⟨#[]⟩ : ByteArray), (⟨#[]⟩ : ByteArray)) = true then 1 else 0 := by
  rw [met_is]
  have e0 : getM [] (keyN k s) = 0 := rfl
  rw [e0]
  by_cases h : stP X Y Z (1, s, (⟨#[]⟩ : ByteArray), (⟨#[]⟩ : ByteArray)) = true
  · rw [if_pos h, if_pos ⟨_, st_in rfl h, h, ⟨.inl rfl, rfl⟩, by unfold keyN; rw [if_pos (.inl rfl), if_pos hk]⟩]
  · rw [if_neg h, if_neg]
    rintro ⟨f, hf, h1, h2, h3⟩
    obtain ⟨z, _, hz⟩ := all_mem hf
    unfold keyN at h3
    rw [if_pos hk] at h3
    rcases h2.1 with q | q
    · rw [if_pos (.inl q)] at h3
      have e := (one_left h3).2
      apply h
      have : stP X Y Z f = stP X Y Z (1, s, (⟨#[]⟩ : ByteArray), (⟨#[]⟩ : ByteArray)) := by
        have hkf : keyF f = keyF ((1, s, (⟨#[]⟩ : ByteArray), (⟨#[]⟩ : ByteArray)) : TFact) := by unfold keyF; rw [q, e, h2.2]
        have v : ∀ l : List TFact, valueOf l f = valueOf l (1, s, (⟨#[]⟩ : ByteArray), (⟨#[]⟩ : ByteArray)) := fun l => by
          induction l with
          | nil => rfl
          | cons x l ih =>
            by_cases g : keyF x = keyF f
            · rw [valueOf_head g, valueOf_head (g.trans hkf)]
            · rw [valueOf_skip g, valueOf_skip (fun g2 => g (g2.trans hkf.symm)), ih]
        unfold stP cntP
        rw [v X, v Y, v Z]
      rw [← this]; exact h1
    · rw [if_neg (by omega)] at h3
      exact absurd (one_left h3).1 (by decide)
theorem met_edge (k : Int) (s : ByteArray) (hk : ¬ (k = 1 ∨ k = 2 ∨ k = 3)) : getM (metF X Y Z (allK X Y Z) []) (keyN k s) = if stP X Y Z (4, s, (⟨#[]⟩ : ByteArray), (⟨#[]⟩ : ByteArray)) = true then 1 else 0 := by
  rw [met_is]
  have e0 : getM [] (keyN k s) = 0 := rfl
  rw [e0]
  by_cases h : stP X Y Z (4, s, (⟨#[]⟩ : ByteArray), (⟨#[]⟩ : ByteArray)) = true
  · rw [if_pos h, if_pos ⟨_, st_in rfl h, h, ⟨.inr rfl, rfl⟩, by unfold keyN; rw [if_neg (show ¬ ((4 : Int) = 1 ∨ (4 : Int) = 2 ∨ (4 : Int) = 3) by decide), if_neg hk]⟩]
  · rw [if_neg h, if_neg]
    rintro ⟨f, hf, h1, h2, h3⟩
    unfold keyN at h3
    rw [if_neg hk] at h3
    rcases h2.1 with q | q
    · rw [if_pos (.inl q)] at h3
      exact absurd (one_left h3).1 (by decide)
    · rw [if_neg (by omega)] at h3
      have e := (one_left h3).2
      apply h
      have : stP X Y Z f = stP X Y Z (4, s, (⟨#[]⟩ : ByteArray), (⟨#[]⟩ : ByteArray)) := by
        have hkf : keyF f = keyF ((4, s, (⟨#[]⟩ : ByteArray), (⟨#[]⟩ : ByteArray)) : TFact) := by unfold keyF; rw [q, e, h2.2]
        have v : ∀ l : List TFact, valueOf l f = valueOf l (4, s, (⟨#[]⟩ : ByteArray), (⟨#[]⟩ : ByteArray)) := fun l => by
          induction l with
          | nil => rfl
          | cons x l ih =>
            by_cases g : keyF x = keyF f
            · rw [valueOf_head g, valueOf_head (g.trans hkf)]
            · rw [valueOf_skip g, valueOf_skip (fun g2 => g (g2.trans hkf.symm)), ih]
        unfold stP cntP
        rw [v X, v Y, v Z]
      rw [← this]; exact h1

/-! ### Why a fact is a conflict -/
abbrev stN (X Y Z : List TFact) (s : ByteArray) : Bool := stP X Y Z (1, s, (⟨#[]⟩ : ByteArray), (⟨#[]⟩ : ByteArray))
abbrev stE (X Y Z : List TFact) (s : ByteArray) : Bool := stP X Y Z (4, s, (⟨#[]⟩ : ByteArray), (⟨#[]⟩ : ByteArray))
def standsR (X Y Z : List TFact) (k : Int) (id v : ByteArray) : Int :=
  if k = 4 then (if stN X Y Z (partF v).1 = false then 2 else if stN X Y Z (partF v).2 = false then 2 else 0)
  else if k = 5 ∨ k = 6 then (if stE X Y Z id = false then 3 else 0)
  else if k = 2 ∨ k = 3 then (if stN X Y Z id = false then 3 else 0) else 0
theorem stands_same (f : TFact) : standsP (metF X Y Z (allK X Y Z) []) f = standsR X Y Z f.1 f.2.1 f.2.2.2 := by
  unfold standsP standsR
  rw [met_node 1 _ (.inl rfl), met_node 1 _ (.inl rfl)]
  have b : ∀ c : Bool, ((if c = true then (1 : Int) else 0) = 0) = (c = false) := fun c => by cases c <;> simp
  simp only [b]
  by_cases h4 : f.1 = 4
  · rw [if_pos h4, if_pos h4]
  · rw [if_neg h4, if_neg h4]
    by_cases h5 : f.1 = 5 ∨ f.1 = 6
    · rw [if_pos (.inr (.inr h5)), if_pos h5, met_edge _ _ (by omega)]
      simp only [b]
    · rw [if_neg h5]
      by_cases h2 : f.1 = 2 ∨ f.1 = 3
      · rw [if_pos (by omega), if_pos h2, met_node _ _ (.inr h2)]
        simp only [b]
      · rw [if_neg (by omega), if_neg h2]
def whyP (X Y Z : List TFact) (f : TFact) : Int := if (cntP X Y Z f).2.2 = false then 1 else if (cntP X Y Z f).2.1 = true then standsR X Y Z f.1 f.2.1 (cntP X Y Z f).1 else 0
def badR (X Y Z : List TFact) (l : List TFact) : List TConflict := l.filterMap fun f => if whyP X Y Z f ≠ 0 then some (confC f (whyP X Y Z f)) else none
def outR (X Y Z : List TFact) (l : List TFact) : List TFact := l.filterMap fun f => if whyP X Y Z f = 0 ∧ (cntP X Y Z f).2.1 = true then some (f.1, f.2.1, f.2.2.1, (cntP X Y Z f).1) else none
theorem stray_is (l : List TFact) : strayP (metF X Y Z (allK X Y Z) []) (outP X Y Z l) = l.filterMap fun f => if (cntP X Y Z f).2.2 = true ∧ whyP X Y Z f ≠ 0 then some (confC f (whyP X Y Z f)) else none := by
  unfold strayP outP
  rw [List.filterMap_filterMap]
  congr 1
  funext f
  unfold whyP
  cases h1 : (cntP X Y Z f).2.2 <;> cases h2 : (cntP X Y Z f).2.1
  · simp
  · simp
  · simp
  · simp only [and_self, if_true, Option.bind_some, stands_same, Bool.true_eq_false, if_false, true_and]
theorem perm_split {α β : Type} {h h1 h2 : α → Option β} : ∀ (l : List α), (∀ x ∈ l, (h x = h1 x ∧ h2 x = none) ∨ (h x = h2 x ∧ h1 x = none)) → (l.filterMap h1 ++ l.filterMap h2).Perm (l.filterMap h)
  | [], _ => List.Perm.refl _
  | x :: l, hx => by
    have ih := perm_split l (fun y hy => hx y (List.mem_cons_of_mem _ hy))
    rcases hx x List.mem_cons_self with ⟨e1, e2⟩ | ⟨e1, e2⟩
    · rw [List.filterMap_cons, List.filterMap_cons, List.filterMap_cons, e2, e1]
      cases h1 x with
      | none => exact ih
      | some b => exact List.Perm.cons b ih
    · rw [List.filterMap_cons, List.filterMap_cons, List.filterMap_cons, e2, e1]
      cases h2 x with
      | none => exact ih
      | some b => exact List.perm_middle.trans (List.Perm.cons b ih)
theorem bad_perm (l : List TFact) : (badP X Y Z l ++ strayP (metF X Y Z (allK X Y Z) []) (outP X Y Z l)).Perm (badR X Y Z l) := by
  rw [stray_is]
  unfold badP badR
  refine perm_split l (fun f _ => ?_)
  unfold whyP
  cases h1 : (cntP X Y Z f).2.2
  · left; simp
  · right; simp
theorem badR_sorted {l : List TFact} (h : Rs l) : (badR X Y Z l).Pairwise fun a b => lessC a b = true := by
  unfold badR
  refine List.Pairwise.filterMap _ (fun f g hfg a ha b hb => ?_) h
  have key : ∀ (f : TFact) (a : TConflict), (if whyP X Y Z f ≠ 0 then some (confC f (whyP X Y Z f)) else none) = some a → keyF (factQ a) = keyF f := fun f a ha => by
    split at ha
    · cases ha; rfl
    · cases ha
  have k1 := key f a ha
  have k2 := key g b hb
  unfold lessC
  rw [if_neg (fun e => lessF_nkey hfg (k1.symm.trans (e.trans k2))), lessF_key k1 k2]
  exact hfg
theorem out_same {l : List TFact} (h : badR X Y Z l = []) : outP X Y Z l = outR X Y Z l := by
  unfold outP outR
  apply filterMap_same
  intro f hf
  have hw : whyP X Y Z f = 0 := by
    apply Classical.byContradiction
    intro hn
    have : confC f (whyP X Y Z f) ∈ badR X Y Z l := List.mem_filterMap.2 ⟨f, hf, if_pos hn⟩
    rw [h] at this; exact absurd this List.not_mem_nil
  have h1 : (cntP X Y Z f).2.2 = true := by
    cases q : (cntP X Y Z f).2.2 with
    | true => rfl
    | false => unfold whyP at hw; rw [if_pos q] at hw; exact absurd hw (by decide)
  simp [hw, h1]
end

/-! ### Both answers -/
structure okF (f : TFact) : Prop where
  id : f.2.1.size ≤ 140737488351232
  v : f.2.2.2.size ≤ 140737488351232
def answer (X Y Z : List TFact) : List TFact × List TConflict := if badR X Y Z (allK X Y Z) = [] then (outR X Y Z (allK X Y Z), []) else ([], badR X Y Z (allK X Y Z))
theorem value_size {l : List TFact} (hl : ∀ f ∈ l, okF f) (f : TFact) : (valueOf l f).1.size ≤ 140737488351232 := by
  induction l with
  | nil => exact Nat.zero_le _
  | cons x l ih =>
    by_cases g : keyF x = keyF f
    · rw [valueOf_head g]; exact (hl x List.mem_cons_self).v
    · rw [valueOf_skip g]; exact ih (fun z hz => hl z (List.mem_cons_of_mem _ hz))
theorem cnt_size {X Y Z : List TFact} (hX : ∀ f ∈ X, okF f) (hY : ∀ f ∈ Y, okF f) (hZ : ∀ f ∈ Z, okF f) (f : TFact) : (cntP X Y Z f).1.size ≤ 140737488351232 := by
  unfold cntP
  (repeat' split)
  · exact value_size hY f
  · exact value_size hY f
  · exact value_size hZ f
  · exact Nat.zero_le _
theorem all_id {X Y Z : List TFact} (hX : ∀ f ∈ X, okF f) (hY : ∀ f ∈ Y, okF f) (hZ : ∀ f ∈ Z, okF f) : ∀ f ∈ allK X Y Z, f.2.1.size ≤ 140737488351232 := fun f hf => by
  obtain ⟨z, hz, hk⟩ := all_mem hf
  unfold keyF at hk
  simp only [Prod.mk.injEq] at hk
  rw [← hk.2.1]
  rcases hz with hz | hz | hz
  · exact (hX z hz).id
  · exact (hY z hz).id
  · exact (hZ z hz).id
theorem Facts_ok (X Y Z : List TFact) (hl : X.length + Y.length + Z.length ≤ 100000) (rX : Rs X) (rY : Rs Y) (rZ : Rs Z) (hX : ∀ f ∈ X, okF f) (hY : ∀ f ∈ Y, okF f) (hZ : ∀ f ∈ Z, okF f) : V.three_Facts X Y Z = some (answer X Y Z) := by
  apply V.three_Facts.of; unfold F.three_Facts.B
  rw [Lay_ok X Y Z (by omega), Option.bind_some]
  obtain ⟨c1, c2⟩ := cols_is (X.length + Y.length + Z.length + 1) X Y Z rX rY rZ (by omega)
  have hcl : (colsP (X.length + Y.length + Z.length + 1) X Y Z).length = (allK X Y Z).length := by
    have := congrArg List.length c1
    simpa using this
  have hal : (allK X Y Z).length ≤ 100000 := by
    have h1 := both_len (both X Y) Z
    have h2 := both_len X Y
    show (both (both X Y) Z).length ≤ _
    omega
  generalize colsP (X.length + Y.length + Z.length + 1) X Y Z = cols at c1 c2 hcl ⊢
  have hfold : cols.foldl (fun m q => pointK m q.1 q.2) ([], [], []) = (outP X Y Z (allK X Y Z), badP X Y Z (allK X Y Z), metF X Y Z (allK X Y Z) []) := by
    have e1 : cols.foldl (fun m q => pointK m q.1 q.2) ([], [], []) = (cols.map (fun c => (strip c.1, c.2))).foldl (fun m q => pointK m q.1 q.2) ([], [], []) := by
      rw [List.foldl_map]; rfl
    rw [e1, c1, List.foldl_map]
    have e2 : (fun (m : Tmerge) (f : TFact) => pointK m f (dataOf X Y Z f)) = stepP X Y Z := by funext m f; exact point_step m f
    rw [show (fun (x : Tmerge) (y : TFact) => pointK x (y, dataOf X Y Z y).1 (y, dataOf X Y Z y).2) = stepP X Y Z from e2, steps_is]
    simp
  have hid : ∀ q ∈ cols, q.1.2.1.size ≤ 140737488351232 := fun q hq => by
    rcases c2 q hq with h | h | h
    · exact (hX _ h).id
    · exact (hY _ h).id
    · exact (hZ _ h).id
  refine points_l X Y Z cols (by omega) hid cols.length 0 ([], [], []) (by omega) (Nat.le_refl _) (Nat.le_refl _) ?_
  rw [List.drop_zero, hfold]
  have hout : ∀ f ∈ outP X Y Z (allK X Y Z), f.2.1.size ≤ 140737488351232 ∧ f.2.2.2.size ≤ 140737488351232 := fun f hf => by
    obtain ⟨g, hg, he⟩ := List.mem_filterMap.1 hf
    split at he
    · cases he; exact ⟨all_id hX hY hZ g hg, cnt_size hX hY hZ g⟩
    · cases he
  have hol : (outP X Y Z (allK X Y Z)).length ≤ 100000 := Nat.le_trans (List.length_filterMap_le _ _) hal
  have hbl : (badP X Y Z (allK X Y Z)).length ≤ 100000 := Nat.le_trans (List.length_filterMap_le _ _) hal
  have hp := bad_perm (X := X) (Y := Y) (Z := Z) (allK X Y Z)
  have hs := badR_sorted (X := X) (Y := Y) (Z := Z) (all_rs rX rY rZ)
  have hbr : (badR X Y Z (allK X Y Z)).length ≤ 100000 := Nat.le_trans (List.length_filterMap_le _ _) hal
  have hsort := q_sort_is _ _ (by rw [hp.length_eq]; omega) hp hs
  have main := (strays_l X Y Z (outP X Y Z (allK X Y Z)) (by omega) hout (metF X Y Z (allK X Y Z) []) (outP X Y Z (allK X Y Z)).length 0 (badP X Y Z (allK X Y Z)) (by omega) (by omega)).resolve_right (by rw [List.drop_zero, hsort]; exact fun h => by cases h)
  rw [List.drop_zero, hsort] at main
  refine (show V.three_Facts.l1111010 X Y Z ((outP X Y Z (allK X Y Z)).length : Int) ((0 : Nat) : Int) (outP X Y Z (allK X Y Z)) (badP X Y Z (allK X Y Z)) (metF X Y Z (allK X Y Z) []) = _ from main).trans ?_
  unfold answer
  by_cases h : badR X Y Z (allK X Y Z) = []
  · have hnil : badP X Y Z (allK X Y Z) ++ strayP (metF X Y Z (allK X Y Z) []) (outP X Y Z (allK X Y Z)) = [] := by
      rw [h] at hp; exact hp.eq_nil
    rw [if_pos h, if_pos hnil, out_same h]
  · have hnil : badP X Y Z (allK X Y Z) ++ strayP (metF X Y Z (allK X Y Z) []) (outP X Y Z (allK X Y Z)) ≠ [] := fun e => by
      rw [e] at hp; exact h hp.symm.eq_nil
    rw [if_neg h, if_neg hnil, Option.bind_some]

/-! ### The document's -/
theorem rF_next (X Y Z : List TFact) (n : Int) (i : Nat) (hi : i < 1000000) (out : List TFact) (bad : List TConflict) (l : List TFact) {r : List TFact × List TConflict} (h : V.pleachref28_Facts.l111010 X Y Z n ((i + 1 : Nat) : Int) out bad l = some r) : V.pleachref28_Facts.j1110100111 X Y Z n (i : Int) out bad l = some r := by
  apply V.pleachref28_Facts.j1110100111.of; unfold F.pleachref28_Facts.j1110100111.B
  rw [w64_up hi (by omega)]; exact h
theorem rF_end (X Y Z : List TFact) (f : TFact) (v : ByteArray) (is : Bool) (why n : Int) (i : Nat) (hi : i < 1000000) (out : List TFact) (bad : List TConflict) (ho : out.length ≤ 1000000) (hb : bad.length ≤ 1000000) (w0 : ByteArray) (l : List TFact) {r : List TFact × List TConflict} (h : V.pleachref28_Facts.l111010 X Y Z n ((i + 1 : Nat) : Int) (if why = 0 ∧ is = true then out ++ [(f.1, f.2.1, f.2.2.1, v)] else out) (if why ≠ 0 then bad ++ [confC f why] else bad) l = some r) :
    V.pleachref28_Facts.j111010011001111 X Y Z v is why n (i : Int) out bad f.1 f.2.1 f.2.2.1 w0 l = some r := by
  apply V.pleachref28_Facts.j111010011001111.of; unfold F.pleachref28_Facts.j111010011001111.B
  by_cases hw : why = 0
  · have n1 : ¬ (why ≠ 0) := fun g => g hw
    rw [show (why != 0) = false by simp [hw], cond_false]
    rw [if_neg n1] at h
    cases is with
    | true =>
      have p : why = 0 ∧ true = true := ⟨hw, rfl⟩
      rw [if_pos p] at h
      rw [cond_true, guard_dec (by simp only [List.length_cons, List.length_nil]; unfold nmax; omega)]
      exact rF_next X Y Z n i hi _ _ l h
    | false =>
      have p : ¬ (why = 0 ∧ false = true) := fun g => Bool.noConfusion g.2
      rw [if_neg p] at h
      exact rF_next X Y Z n i hi _ _ l h
  · have p : ¬ (why = 0 ∧ is = true) := fun g => hw g.1
    rw [show (why != 0) = true by simp [hw], cond_true, guard_dec (by simp only [List.length_cons, List.length_nil]; unfold nmax; omega)]
    rw [if_neg p, if_pos hw] at h
    exact rF_next X Y Z n i hi _ _ l h
end Go.Proofs.Ytmenplonaapliaa.AE
end
section
set_option linter.unusedVariables false
set_option linter.unusedSimpArgs false
set_option maxRecDepth 20000
namespace Go.Proofs.Ytmenplonaapliaa.AE
open Go
section
variable (X Y Z : List TFact) (f : TFact) (v : ByteArray) (is : Bool) (n : Int) (i : Nat) (out : List TFact) (bad : List TConflict) (w0 : ByteArray) (l : List TFact) {r : List TFact × List TConflict}
/-- The loop goes on with what WHY says. -/
def goesOn (r : List TFact × List TConflict) (why : Int) : Prop := V.pleachref28_Facts.l111010 X Y Z n ((i + 1 : Nat) : Int) (if why = 0 ∧ is = true then out ++ [(f.1, f.2.1, f.2.2.1, v)] else out) (if why ≠ 0 then bad ++ [confC f why] else bad) l = some r
variable (hi : i < 1000000) (ho : out.length ≤ 1000000) (hb : bad.length ≤ 1000000)
include hi ho hb
theorem rF_two (b : Bool) (h : goesOn X Y Z f v is n i out bad l r (if b = true then 2 else 0)) : V.pleachref28_Facts.j111010011001110111011 X Y Z v is n (i : Int) b out bad f.1 f.2.1 f.2.2.1 w0 l = some r := by
  apply V.pleachref28_Facts.j111010011001110111011.of; unfold F.pleachref28_Facts.j111010011001110111011.B
  cases b with
  | true => exact rF_end X Y Z f v is 2 n i hi out bad ho hb w0 l h
  | false => exact rF_end X Y Z f v is 0 n i hi out bad ho hb w0 l h
theorem rF_three (b : Bool) (h : goesOn X Y Z f v is n i out bad l r (if b = true then 3 else 0)) : V.pleachref28_Facts.j11101001100111011111 X Y Z v is n (i : Int) b out bad f.1 f.2.1 f.2.2.1 w0 l = some r := by
  apply V.pleachref28_Facts.j11101001100111011111.of; unfold F.pleachref28_Facts.j11101001100111011111.B
  cases b with
  | true => exact rF_end X Y Z f v is 3 n i hi out bad ho hb w0 l h
  | false => exact rF_end X Y Z f v is 0 n i hi out bad ho hb w0 l h
variable (hX : X.length ≤ 140737488351232) (hY : Y.length ≤ 140737488351232) (hZ : Z.length ≤ 140737488351232)
include hX hY hZ
theorem rF_stand (hv : v.size ≤ 140737488351232) (h : goesOn X Y Z f v is n i out bad l r (if is = true then standsR X Y Z f.1 f.2.1 v else 0)) : V.pleachref28_Facts.j111010011001110111 X Y Z v is n (i : Int) (is && (f.1 == 4)) out bad f.1 f.2.1 f.2.2.1 w0 l = some r := by
  apply V.pleachref28_Facts.j111010011001110111.of; unfold F.pleachref28_Facts.j111010011001110111.B
  have tr : ∀ (k : Int) (s : ByteArray), V.pleachref28_there X Y Z k s = some (stP X Y Z (k, s, (⟨#[]⟩ : ByteArray), (⟨#[]⟩ : ByteArray))) := fun k s => there_ok X Y Z k s hX hY hZ
  cases is with
  | false =>
    rw [Bool.false_and, cond_false, cond_false]
    exact rF_three X Y Z f v false n i out bad w0 l hi ho hb false h
  | true =>
    have q : (if true = true then standsR X Y Z f.1 f.2.1 v else 0) = standsR X Y Z f.1 f.2.1 v := rfl
    rw [q] at h
    rw [Bool.true_and, refParted_ok _ hv]
    simp only [tr, Option.bind_some, cond_true]
    unfold standsR at h
    by_cases h4 : f.1 = 4
    · rw [show (f.1 == 4) = true by simp [h4], cond_true]
      rw [if_pos h4] at h
      cases s1 : stP X Y Z (1, (partF v).1, (⟨#[]⟩ : ByteArray), (⟨#[]⟩ : ByteArray)) with
      | false =>
        have z : stN X Y Z (partF v).1 = false := s1
        rw [if_pos z] at h
        exact rF_two X Y Z f v true n i out bad w0 l hi ho hb true h
      | true =>
        have z : ¬ (stN X Y Z (partF v).1 = false) := fun g => by rw [show stN X Y Z (partF v).1 = true from s1] at g; cases g
        rw [if_neg z] at h
        refine rF_two X Y Z f v true n i out bad w0 l hi ho hb _ ?_
        cases s2 : stP X Y Z (1, (partF v).2, (⟨#[]⟩ : ByteArray), (⟨#[]⟩ : ByteArray)) with
        | false => rw [show stN X Y Z (partF v).2 = false from s2] at h; exact h
        | true => rw [show stN X Y Z (partF v).2 = true from s2] at h; exact h
    · rw [show (f.1 == 4) = false by simp [h4], cond_false]
      rw [if_neg h4] at h
      have done : ∀ (b : Bool), goesOn X Y Z f v true n i out bad l r (if b = false then 3 else 0) → V.pleachref28_Facts.j11101001100111011111 X Y Z v true n (i : Int) (!b) out bad f.1 f.2.1 f.2.2.1 w0 l = some r := fun b g => by
        refine rF_three X Y Z f v true n i out bad w0 l hi ho hb _ ?_
        cases b <;> exact g
      by_cases h5 : f.1 = 5 ∨ f.1 = 6
      · rw [if_pos h5] at h
        have m : (bif (!(stP X Y Z (4, f.2.1, (⟨#[]⟩ : ByteArray), (⟨#[]⟩ : ByteArray)))) then V.pleachref28_Facts.j11101001100111011111 X Y Z v true n (i : Int) true out bad f.1 f.2.1 f.2.2.1 w0 l else V.pleachref28_Facts.j11101001100111011111 X Y Z v true n (i : Int) false out bad f.1 f.2.1 f.2.2.1 w0 l) = some r := by
          have d := done (stE X Y Z f.2.1) h
          cases s1 : stP X Y Z (4, f.2.1, (⟨#[]⟩ : ByteArray), (⟨#[]⟩ : ByteArray)) with
          | false => rw [show stE X Y Z f.2.1 = false from s1] at d; exact d
          | true => rw [show stE X Y Z f.2.1 = true from s1] at d; exact d
        have n2 : (f.1 == 2) = false := by rcases h5 with e | e <;> rw [e] <;> rfl
        have n3 : (f.1 == 3) = false := by rcases h5 with e | e <;> rw [e] <;> rfl
        rw [n2, n3]
        simp only [cond_false]
        rcases h5 with e | e
        · rw [show (f.1 == 5) = true by rw [e]; rfl, cond_true]; exact m
        · rw [show (f.1 == 5) = false by rw [e]; rfl, show (f.1 == 6) = true by rw [e]; rfl, cond_false, cond_true]; exact m
      · rw [if_neg h5] at h
        rw [show (f.1 == 5) = false by simp; omega, show (f.1 == 6) = false by simp; omega, cond_false, cond_false]
        by_cases h2 : f.1 = 2
        · have p : f.1 = 2 ∨ f.1 = 3 := .inl h2
          rw [if_pos p] at h
          rw [show (f.1 == 2) = true by rw [h2]; rfl, cond_true]
          exact done _ h
        · rw [show (f.1 == 2) = false by simpa using h2, cond_false]
          by_cases h3 : f.1 = 3
          · have p : f.1 = 2 ∨ f.1 = 3 := .inr h3
            rw [if_pos p] at h
            rw [show (f.1 == 3) = true by rw [h3]; rfl, cond_true]
            exact done _ h
          · have p : ¬ (f.1 = 2 ∨ f.1 = 3) := by omega
            rw [if_neg p] at h
            rw [show (f.1 == 3) = false by simpa using h3, cond_false]
            exact rF_three X Y Z f v true n i out bad w0 l hi ho hb false h
end
theorem badR_cons (X Y Z : List TFact) (f : TFact) (l : List TFact) (b : List TConflict) : b ++ badR X Y Z (f :: l) = (if whyP X Y Z f ≠ 0 then b ++ [confC f (whyP X Y Z f)] else b) ++ badR X Y Z l := by
  unfold badR
  rw [List.filterMap_cons]
  by_cases g : whyP X Y Z f ≠ 0
  · rw [if_pos g, if_pos g, List.append_assoc]; rfl
  · rw [if_neg g, if_neg g]
theorem outR_cons (X Y Z : List TFact) (f : TFact) (l : List TFact) (b : List TFact) : b ++ outR X Y Z (f :: l) = (if whyP X Y Z f = 0 ∧ (cntP X Y Z f).2.1 = true then b ++ [(f.1, f.2.1, f.2.2.1, (cntP X Y Z f).1)] else b) ++ outR X Y Z l := by
  unfold outR
  rw [List.filterMap_cons]
  by_cases g : whyP X Y Z f = 0 ∧ (cntP X Y Z f).2.1 = true
  · rw [if_pos g, if_pos g, List.append_assoc]; rfl
  · rw [if_neg g, if_neg g]
theorem rF_loop (X Y Z l : List TFact) (hl : l.length ≤ 500000) (hX : X.length ≤ 140737488351232) (hY : Y.length ≤ 140737488351232) (hZ : Z.length ≤ 140737488351232) (hv : ∀ f, (cntP X Y Z f).1.size ≤ 140737488351232) : ∀ (d i : Nat) (out : List TFact) (bad : List TConflict), i + d = l.length → out.length ≤ i → bad.length ≤ i →
    V.pleachref28_Facts.l111010 X Y Z (l.length : Int) (i : Int) out bad l = some (if bad ++ badR X Y Z (l.drop i) = [] then (out ++ outR X Y Z (l.drop i), []) else ([], bad ++ badR X Y Z (l.drop i)))
  | 0, i, out, bad, h, ho, hb => by
    apply V.pleachref28_Facts.l111010.of; unfold F.pleachref28_Facts.l111010.B
    rw [show (decide ((i : Int) < (l.length : Int))) = false from decide_eq_false (by omega), cond_false, List.drop_eq_nil_of_le (by omega)]
    have e1 : badR X Y Z [] = [] := rfl
    have e2 : outR X Y Z [] = [] := rfl
    rw [e1, e2, List.append_nil, List.append_nil]
    cases bad with
    | nil => rfl
    | cons x t =>
      rw [show (decide (((x :: t).length : Int) > 0)) = true from decide_eq_true (by simp only [List.length_cons]; omega), cond_true, if_neg (by simp)]
  | d + 1, i, out, bad, h, ho, hb => by
    have hi : i < l.length := by omega
    have hrd : rd sFact l i = l[i] := rd_get hi
    apply V.pleachref28_Facts.l111010.of; unfold F.pleachref28_Facts.l111010.B
    rw [show (decide ((i : Int) < (l.length : Int))) = true from decide_eq_true (by omega), cond_true, show (decide ((0 : Int) ≤ (i : Int))) = true from decide_eq_true (by omega), Bool.true_and, guard_tt, Int.toNat_natCast, hrd, List.drop_eq_getElem_cons hi]
    generalize l[i] = f
    have e : (f.1, f.2.1, f.2.2.1, f.2.2.2) = f := rfl
    rw [e, Counts_ok X Y Z f hX hY hZ, Option.bind_some, badR_cons, outR_cons]
    have ho2 : (if whyP X Y Z f = 0 ∧ (cntP X Y Z f).2.1 = true then out ++ [(f.1, f.2.1, f.2.2.1, (cntP X Y Z f).1)] else out).length ≤ i + 1 := by
      split
      · rw [List.length_append]; simp only [List.length_cons, List.length_nil]; omega
      · omega
    have hb2 : (if whyP X Y Z f ≠ 0 then bad ++ [confC f (whyP X Y Z f)] else bad).length ≤ i + 1 := by
      split
      · rw [List.length_append]; simp only [List.length_cons, List.length_nil]; omega
      · omega
    have ih := rF_loop X Y Z l hl hX hY hZ hv d (i + 1) _ _ (by omega) ho2 hb2
    cases hk : (cntP X Y Z f).2.2 with
    | false =>
      have w : whyP X Y Z f = 1 := by unfold whyP; rw [if_pos hk]
      rw [w] at ih ⊢
      rw [Bool.not_false, cond_true]
      exact rF_end X Y Z f _ _ 1 _ i (by omega) out bad (by omega) (by omega) _ l ih
    | true =>
      have w : whyP X Y Z f = if (cntP X Y Z f).2.1 = true then standsR X Y Z f.1 f.2.1 (cntP X Y Z f).1 else 0 := by
        unfold whyP; rw [if_neg (by rw [hk]; exact fun g => Bool.noConfusion g)]
      rw [Bool.not_true, cond_false]
      have go := rF_stand X Y Z f (cntP X Y Z f).1 (cntP X Y Z f).2.1 (l.length : Int) i out bad f.2.2.2 l (by omega) (by omega) (by omega) hX hY hZ (hv f) (r := _) (by unfold goesOn; rw [← w]; exact ih)
      cases hs : (cntP X Y Z f).2.1 with
      | true => rw [hs, Bool.true_and] at go; rw [cond_true]; exact go
      | false => rw [hs, Bool.false_and] at go; rw [cond_false]; exact go
theorem rFacts_ok (X Y Z : List TFact) (hl : X.length + Y.length + Z.length ≤ 100000) (hX : ∀ f ∈ X, okF f) (hY : ∀ f ∈ Y, okF f) (hZ : ∀ f ∈ Z, okF f) : V.pleachref28_Facts X Y Z = some (answer X Y Z) := by
  apply V.pleachref28_Facts.of; unfold F.pleachref28_Facts.B
  have h1 := both_len X Y
  have h2 := both_len (both X Y) Z
  rw [Both_ok (a := X) (b := Y) (by omega) (by omega), Option.bind_some, Both_ok (a := both X Y) (b := Z) (by omega) (by omega), Option.bind_some]
  have := rF_loop X Y Z (both (both X Y) Z) (by omega) (by omega) (by omega) (by omega) (fun f => cnt_size hX hY hZ f) (both (both X Y) Z).length 0 [] [] (by omega) (Nat.zero_le _) (Nat.zero_le _)
  rw [List.drop_zero, List.nil_append, List.nil_append] at this
  exact this
end Go.Proofs.Ytmenplonaapliaa.AE
end
section
set_option linter.unusedVariables false
namespace Go.Proofs.Ytmenplonaapliaa.AE
open Go
theorem lim_ev {α : Type} {a : Nat → Option α} {r : α} (N : Nat) (h : ∀ K, a (K + N) = some r) : AE.lim (fun v => a (v 0)) = some r :=
  lim_some.2 ⟨N, fun v hv => by
    have := hv 0
    obtain ⟨k, hk⟩ : ∃ k, v 0 = k + N := ⟨v 0 - N, by omega⟩
    show a (v 0) = some r
    rw [hk]; exact h k⟩
end Go.Proofs.Ytmenplonaapliaa.AE
end
section
set_option linter.unusedVariables false
namespace Go.Proofs.Ytmenplonaapliaa.AE
open Go
theorem awake28 : V.pleachlaw28_awake = some true := lim_ev 300 fun K => by kernel_rfl
end Go.Proofs.Ytmenplonaapliaa.AE
end
