/- The evaluator of the program's form, its soundness, the functions of the given program as it evaluates them, and laws on these. Conditions: as each theorem says. -/
import Derived.Test.YtdblhdpnllckhaaCFactsOfN3
import Derived.Test.YtdblhdpnllckhaaCFactsOfN2
import Derived.Test.YtdblhdpnllckhaaRows
import Derived.WalkKit
import Derived.ProofKit
import Derived.OpenShut
import Derived.ShutString
import Derived.ChangeOld
import Derived.Below
import Derived.SizedLaws
section
set_option linter.unusedVariables false
set_option maxRecDepth 100000
namespace Go.Proofs.Ytdblhdpnllckhaa.AE
open Go
theorem V.pleachref27_Of.l111010.of a0 x0 x1 {r} (h : F.pleachref27_Of.l111010.B V.pleachref27_Of.l111010 V.pleachref27_Of.l1111010 a0 x0 x1 = some r) : V.pleachref27_Of.l111010 a0 x0 x1 = some r :=
  App.to (App.step 1 (fun v => F.pleachref27_Of.l111010.eq (v 0) (v 1) a0 x0 x1) (by unfold F.pleachref27_Of.l111010.B; repeat' first | exact App.val | exact App.no | exact App.lim | exact (App.enter 1 App.lim) | apply App.cond | apply App.guard | apply App.meet | apply App.ite | refine App.bind ?_ fun _ => ?_)) h
theorem V.pleachref27_Of.l1111010.of a0 x0 x1 {r} (h : F.pleachref27_Of.l1111010.B V.pleachref27_Of.l111101001100110 V.pleachref27_Of.l11111010 a0 x0 x1 = some r) : V.pleachref27_Of.l1111010 a0 x0 x1 = some r :=
  App.to (App.step 1 (fun v => F.pleachref27_Of.l1111010.eq (v 0) (v 1) a0 x0 x1) (by unfold F.pleachref27_Of.l1111010.B; repeat' first | exact App.val | exact App.no | exact App.lim | exact (App.enter 2 App.lim) | exact (App.enter 1 App.lim) | apply App.cond | apply App.guard | apply App.meet | apply App.ite | refine App.bind ?_ fun _ => ?_)) h
theorem V.pleachref27_Of.l111101001100110.of a0 x0 x1 x2 x3 x4 x5 x6 x7 {r} (h : F.pleachref27_Of.l111101001100110.B V.pleachref27_Of.l111101001100110 V.pleachref27_Of.l1111010 a0 x0 x1 x2 x3 x4 x5 x6 x7 = some r) : V.pleachref27_Of.l111101001100110 a0 x0 x1 x2 x3 x4 x5 x6 x7 = some r :=
  App.to (App.step 2 (fun v => F.pleachref27_Of.l111101001100110.eq (v 0) (v 1) (v 2) a0 x0 x1 x2 x3 x4 x5 x6 x7) (by unfold F.pleachref27_Of.l111101001100110.B; repeat' first | exact App.val | exact App.no | exact App.lim | apply App.cond | apply App.guard | apply App.meet | apply App.ite | refine App.bind ?_ fun _ => ?_)) h
theorem V.pleachref27_Of.l11111010.of a0 x0 x1 {r} (h : F.pleachref27_Of.l11111010.B V.pleachref27_Of.l1111101001100110 V.pleachref27_Of.l111111010 a0 x0 x1 = some r) : V.pleachref27_Of.l11111010 a0 x0 x1 = some r :=
  App.to (App.step 1 (fun v => F.pleachref27_Of.l11111010.eq (v 0) (v 1) a0 x0 x1) (by unfold F.pleachref27_Of.l11111010.B; repeat' first | exact App.val | exact App.no | exact App.lim | exact (App.enter 2 App.lim) | exact (App.enter 1 App.lim) | apply App.cond | apply App.guard | apply App.meet | apply App.ite | refine App.bind ?_ fun _ => ?_)) h
theorem V.pleachref27_Of.l1111101001100110.of a0 x0 x1 x2 x3 x4 x5 x6 x7 {r} (h : F.pleachref27_Of.l1111101001100110.B V.pleachref06_Put V.pleachref27_Of.l1111101001100110 V.pleachref27_Of.l11111010 a0 x0 x1 x2 x3 x4 x5 x6 x7 = some r) : V.pleachref27_Of.l1111101001100110 a0 x0 x1 x2 x3 x4 x5 x6 x7 = some r :=
  App.to (App.step 2 (fun v => F.pleachref27_Of.l1111101001100110.eq (v 0) (v 1) (v 2) a0 x0 x1 x2 x3 x4 x5 x6 x7) (by unfold F.pleachref27_Of.l1111101001100110.B; repeat' first | exact App.val | exact App.no | exact App.lim | apply App.cond | apply App.guard | apply App.meet | apply App.ite | refine App.bind ?_ fun _ => ?_)) h
theorem V.pleachref27_Of.l111111010.of a0 x0 x1 {r} (h : F.pleachref27_Of.l111111010.B V.pleachref27_Of.l111111010 V.pleachref27_Of.l1111111010 a0 x0 x1 = some r) : V.pleachref27_Of.l111111010 a0 x0 x1 = some r :=
  App.to (App.step 1 (fun v => F.pleachref27_Of.l111111010.eq (v 0) (v 1) a0 x0 x1) (by unfold F.pleachref27_Of.l111111010.B; repeat' first | exact App.val | exact App.no | exact App.lim | exact (App.enter 1 App.lim) | apply App.cond | apply App.guard | apply App.meet | apply App.ite | refine App.bind ?_ fun _ => ?_)) h
theorem V.pleachref27_Of.l1111111010.of a0 x0 x1 {r} (h : F.pleachref27_Of.l1111111010.B V.pleachref27_Of.l111111101001100110 V.pleachref27_Of.l11111111010 a0 x0 x1 = some r) : V.pleachref27_Of.l1111111010 a0 x0 x1 = some r :=
  App.to (App.step 1 (fun v => F.pleachref27_Of.l1111111010.eq (v 0) (v 1) a0 x0 x1) (by unfold F.pleachref27_Of.l1111111010.B; repeat' first | exact App.val | exact App.no | exact App.lim | exact (App.enter 2 App.lim) | exact (App.enter 1 App.lim) | apply App.cond | apply App.guard | apply App.meet | apply App.ite | refine App.bind ?_ fun _ => ?_)) h
theorem V.pleachref27_Of.l111111101001100110.of a0 x0 x1 x2 x3 x4 x5 x6 x7 x8 x9 {r} (h : F.pleachref27_Of.l111111101001100110.B V.pleachref27_Of.l111111101001100110 V.pleachref27_Of.l1111111010 a0 x0 x1 x2 x3 x4 x5 x6 x7 x8 x9 = some r) : V.pleachref27_Of.l111111101001100110 a0 x0 x1 x2 x3 x4 x5 x6 x7 x8 x9 = some r :=
  App.to (App.step 2 (fun v => F.pleachref27_Of.l111111101001100110.eq (v 0) (v 1) (v 2) a0 x0 x1 x2 x3 x4 x5 x6 x7 x8 x9) (by unfold F.pleachref27_Of.l111111101001100110.B; repeat' first | exact App.val | exact App.no | exact App.lim | apply App.cond | apply App.guard | apply App.meet | apply App.ite | refine App.bind ?_ fun _ => ?_)) h
theorem V.pleachref27_Of.l11111111010.of a0 x0 x1 {r} (h : F.pleachref27_Of.l11111111010.B V.pleachref27_Of.l1111111101001100110 a0 x0 x1 = some r) : V.pleachref27_Of.l11111111010 a0 x0 x1 = some r :=
  App.to (App.step 1 (fun v => F.pleachref27_Of.l11111111010.eq (v 0) (v 1) a0 x0 x1) (by unfold F.pleachref27_Of.l11111111010.B; repeat' first | exact App.val | exact App.no | exact App.lim | exact (App.enter 2 App.lim) | apply App.cond | apply App.guard | apply App.meet | apply App.ite | refine App.bind ?_ fun _ => ?_)) h
theorem V.pleachref27_Of.l1111111101001100110.of a0 x0 x1 x2 x3 x4 x5 x6 x7 x8 x9 {r} (h : F.pleachref27_Of.l1111111101001100110.B V.pleachref06_Put V.pleachref27_Of.l1111111101001100110 V.pleachref27_Of.l11111111010 a0 x0 x1 x2 x3 x4 x5 x6 x7 x8 x9 = some r) : V.pleachref27_Of.l1111111101001100110 a0 x0 x1 x2 x3 x4 x5 x6 x7 x8 x9 = some r :=
  App.to (App.step 2 (fun v => F.pleachref27_Of.l1111111101001100110.eq (v 0) (v 1) (v 2) a0 x0 x1 x2 x3 x4 x5 x6 x7 x8 x9) (by unfold F.pleachref27_Of.l1111111101001100110.B; repeat' first | exact App.val | exact App.no | exact App.lim | apply App.cond | apply App.guard | apply App.meet | apply App.ite | refine App.bind ?_ fun _ => ?_)) h
theorem V.pleachref27_Of.of a0 {r} (h : F.pleachref27_Of.B V.pleachref26_Wrong V.pleachref27_Of.l111010 a0 = some r) : V.pleachref27_Of a0 = some r :=
  App.to (App.step 0 (fun v => F.pleachref27_Of.eq (v 0) a0) (by unfold F.pleachref27_Of.B; repeat' first | exact App.val | exact App.no | exact App.lim | exact (App.enter 1 App.lim) | apply App.cond | apply App.guard | apply App.meet | apply App.ite | refine App.bind ?_ fun _ => ?_)) h
noncomputable def F.pleachref27_Same (K : Nat) (a0 : List TFact) (a1 : List TFact) : Option (Bool) := evFn Try.prog sg K 15 [.sc (.list sFact a0 false), .sc (.list sFact a1 false)] []
noncomputable def F.pleachref27_Same.at (K : Nat) (p ns : List Nat) (s : St) : Option (Bool) := atFn Try.prog sg K 15 0 p ns s
noncomputable def F.pleachref27_Same.in (K : Nat) (H : List Nat → List Nat → St → Option (Bool)) (p ns : List Nat) (s : St) : Option (Bool) := inFn Try.prog sg K 15 0 [] H p ns s
theorem F.pleachref27_Same.in_eq K p ns s : F.pleachref27_Same.at K p ns s = F.pleachref27_Same.in K (F.pleachref27_Same.at K) p ns s := atFn_eq (P := Try.prog) (sg := sg) (K := K) (f := 15) (m := 0) [] p ns s
theorem F.pleachref27_Same.in_main K a0 a1 : F.pleachref27_Same (K + 1) a0 a1 = F.pleachref27_Same.in K (F.pleachref27_Same.at K) [] [] ⟨slots [.sc (.list sFact a0 false), .sc (.list sFact a1 false)] 0, []⟩ := evFn_eq (P := Try.prog) (sg := sg) (K := K) (f := 15) (args := [.sc (.list sFact a0 false), .sc (.list sFact a1 false)]) (σ := []) [] (by kernel_rfl)
def F.pleachref27_Same.l11010.st (a0 : List TFact) (a1 : List TFact) (x0 : Int) : St := ⟨[(0, vL sFact a0), (1, vL sFact a1), (12, vI (a0.length : Int)), (13, vI x0)], []⟩
noncomputable def F.pleachref27_Same.l11010 (K n0 : Nat) (a0 : List TFact) (a1 : List TFact) (x0 : Int) := F.pleachref27_Same.at K [1, 1, 0, 1, 0] [n0] (F.pleachref27_Same.l11010.st a0 a1 x0)
noncomputable def F.pleachref27_Same.l11010.B (c0 : (List TFact) → (List TFact) → (Int) → Option (Bool)) (a0 : List TFact) (a1 : List TFact) (x0 : Int) : Option (Bool) :=
    (bif (decide (x0 < (a0.length : Int))) then (guardK (decide (0 ≤ x0) && decide (x0 < (a0.length : Int))) (guardK (decide (0 ≤ x0) && decide (x0 < (a1.length : Int))) (bif (!(((rd sFact a0 x0.toNat).1 == (rd sFact a1 x0.toNat).1) && ((strEq (((rd sFact a0 x0.toNat).2).1) (((rd sFact a1 x0.toNat).2).1)) && ((strEq ((((rd sFact a0 x0.toNat).2).2).1) ((((rd sFact a1 x0.toNat).2).2).1)) && ((strEq ((((rd sFact a0 x0.toNat).2).2).2) ((((rd sFact a1 x0.toNat).2).2).2)) && true))))) then (some false) else (c0 a0 a1 (w64 (x0 + 1)))))) else (some true))
theorem F.pleachref27_Same.l11010.eq K n0 a0 a1 x0 : F.pleachref27_Same.l11010 K (n0 + 1) a0 a1 x0 = F.pleachref27_Same.l11010.B (F.pleachref27_Same.l11010 K n0) a0 a1 x0 := (F.pleachref27_Same.in_eq K [1, 1, 0, 1, 0] [n0 + 1] (F.pleachref27_Same.l11010.st a0 a1 x0)).trans ((show ∀ H, F.pleachref27_Same.in K H [1, 1, 0, 1, 0] [n0 + 1] (F.pleachref27_Same.l11010.st a0 a1 x0) = F.pleachref27_Same.l11010.B (fun a0 a1 x0 => H [1, 1, 0, 1, 0] [n0] (F.pleachref27_Same.l11010.st a0 a1 x0)) a0 a1 x0 from by intro H; kernel_rfl) (F.pleachref27_Same.at K))
noncomputable def F.pleachref27_Same.B (c0 : (List TFact) → (List TFact) → (Int) → Option (Bool)) (a0 : List TFact) (a1 : List TFact) : Option (Bool) :=
    (bif ((a0.length : Int) != (a1.length : Int)) then (some false) else (c0 a0 a1 0))
theorem F.pleachref27_Same.eq K a0 a1 : F.pleachref27_Same (K + 1) a0 a1 = F.pleachref27_Same.B (F.pleachref27_Same.l11010 K K) a0 a1 := (F.pleachref27_Same.in_main K a0 a1).trans ((show ∀ H, F.pleachref27_Same.in K H [] [] ⟨slots [.sc (.list sFact a0 false), .sc (.list sFact a1 false)] 0, []⟩ = F.pleachref27_Same.B (fun a0 a1 x0 => H [1, 1, 0, 1, 0] [K] (F.pleachref27_Same.l11010.st a0 a1 x0)) a0 a1 from by intro H; kernel_rfl) (F.pleachref27_Same.at K))
noncomputable def V.pleachref27_Same.l11010 (a0 : List TFact) (a1 : List TFact) (x0 : Int) := lim fun v => F.pleachref27_Same.l11010 (v 0) (v 1) a0 a1 x0
noncomputable def V.pleachref27_Same (a0 : List TFact) (a1 : List TFact) := lim fun v => F.pleachref27_Same (v 0) a0 a1
theorem V.pleachref27_Same.l11010.of a0 a1 x0 {r} (h : F.pleachref27_Same.l11010.B V.pleachref27_Same.l11010 a0 a1 x0 = some r) : V.pleachref27_Same.l11010 a0 a1 x0 = some r :=
  App.to (App.step 1 (fun v => F.pleachref27_Same.l11010.eq (v 0) (v 1) a0 a1 x0) (by unfold F.pleachref27_Same.l11010.B; repeat' first | exact App.val | exact App.no | exact App.lim | apply App.cond | apply App.guard | apply App.meet | apply App.ite | refine App.bind ?_ fun _ => ?_)) h
theorem V.pleachref27_Same.of a0 a1 {r} (h : F.pleachref27_Same.B V.pleachref27_Same.l11010 a0 a1 = some r) : V.pleachref27_Same a0 a1 = some r :=
  App.to (App.step 0 (fun v => F.pleachref27_Same.eq (v 0) a0 a1) (by unfold F.pleachref27_Same.B; repeat' first | exact App.val | exact App.no | exact App.lim | exact (App.enter 1 App.lim) | apply App.cond | apply App.guard | apply App.meet | apply App.ite | refine App.bind ?_ fun _ => ?_)) h
noncomputable def F.facts_Rise (K : Nat) (a0 : List TFact) : Option (Int) := evFn Try.prog sg K 17 [.sc (.list sFact a0 false)] []
noncomputable def F.facts_Rise.at (K : Nat) (p ns : List Nat) (s : St) : Option (Int) := atFn Try.prog sg K 17 0 p ns s
noncomputable def F.facts_Rise.in (K : Nat) (H : List Nat → List Nat → St → Option (Int)) (p ns : List Nat) (s : St) : Option (Int) := inFn Try.prog sg K 17 0 [] H p ns s
theorem F.facts_Rise.in_eq K p ns s : F.facts_Rise.at K p ns s = F.facts_Rise.in K (F.facts_Rise.at K) p ns s := atFn_eq (P := Try.prog) (sg := sg) (K := K) (f := 17) (m := 0) [] p ns s
theorem F.facts_Rise.in_main K a0 : F.facts_Rise (K + 1) a0 = F.facts_Rise.in K (F.facts_Rise.at K) [] [] ⟨slots [.sc (.list sFact a0 false)] 0, []⟩ := evFn_eq (P := Try.prog) (sg := sg) (K := K) (f := 17) (args := [.sc (.list sFact a0 false)]) (σ := []) [] (by kernel_rfl)
def F.facts_Rise.l1010.st (a0 : List TFact) (x0 : Int) : St := ⟨[(0, vL sFact a0), (3, vI x0)], []⟩
noncomputable def F.facts_Rise.l1010 (K n0 : Nat) (a0 : List TFact) (x0 : Int) := F.facts_Rise.at K [1, 0, 1, 0] [n0] (F.facts_Rise.l1010.st a0 x0)
noncomputable def F.facts_Rise.l1010.B (c0 : (TFact) → (TFact) → Option (Int)) (c1 : (List TFact) → (Int) → Option (Int)) (a0 : List TFact) (x0 : Int) : Option (Int) :=
    (bif (decide (x0 < (a0.length : Int))) then (guardK (decide (0 ≤ (w64 (x0 - 1))) && decide ((w64 (x0 - 1)) < (a0.length : Int))) (guardK (decide (0 ≤ x0) && decide (x0 < (a0.length : Int))) ((c0 ((rd sFact a0 ((w64 (x0 - 1)).toNat)).1, ((rd sFact a0 ((w64 (x0 - 1)).toNat)).2).1, (((rd sFact a0 ((w64 (x0 - 1)).toNat)).2).2).1, (((rd sFact a0 ((w64 (x0 - 1)).toNat)).2).2).2) ((rd sFact a0 x0.toNat).1, ((rd sFact a0 x0.toNat).2).1, (((rd sFact a0 x0.toNat).2).2).1, (((rd sFact a0 x0.toNat).2).2).2)).bind fun t0 => (bif (decide (t0 ≥ 0)) then (some 4) else (c1 a0 (w64 (x0 + 1))))))) else (some 0))
theorem F.facts_Rise.l1010.eq K n0 a0 x0 : F.facts_Rise.l1010 K (n0 + 1) a0 x0 = F.facts_Rise.l1010.B (F.facts_Compare K) (F.facts_Rise.l1010 K n0) a0 x0 := (F.facts_Rise.in_eq K [1, 0, 1, 0] [n0 + 1] (F.facts_Rise.l1010.st a0 x0)).trans ((show ∀ H, F.facts_Rise.in K H [1, 0, 1, 0] [n0 + 1] (F.facts_Rise.l1010.st a0 x0) = F.facts_Rise.l1010.B (F.facts_Compare K) (fun a0 x0 => H [1, 0, 1, 0] [n0] (F.facts_Rise.l1010.st a0 x0)) a0 x0 from by intro H; kernel_rfl) (F.facts_Rise.at K))
noncomputable def F.facts_Rise.B (c0 : (List TFact) → (Int) → Option (Int)) (a0 : List TFact) : Option (Int) :=
    (c0 a0 1)
theorem F.facts_Rise.eq K a0 : F.facts_Rise (K + 1) a0 = F.facts_Rise.B (F.facts_Rise.l1010 K K) a0 := (F.facts_Rise.in_main K a0).trans ((show ∀ H, F.facts_Rise.in K H [] [] ⟨slots [.sc (.list sFact a0 false)] 0, []⟩ = F.facts_Rise.B (fun a0 x0 => H [1, 0, 1, 0] [K] (F.facts_Rise.l1010.st a0 x0)) a0 from by intro H; kernel_rfl) (F.facts_Rise.at K))
noncomputable def V.facts_Rise.l1010 (a0 : List TFact) (x0 : Int) := lim fun v => F.facts_Rise.l1010 (v 0) (v 1) a0 x0
noncomputable def V.facts_Rise (a0 : List TFact) := lim fun v => F.facts_Rise (v 0) a0
theorem V.facts_Rise.l1010.of a0 x0 {r} (h : F.facts_Rise.l1010.B V.facts_Compare V.facts_Rise.l1010 a0 x0 = some r) : V.facts_Rise.l1010 a0 x0 = some r :=
  App.to (App.step 1 (fun v => F.facts_Rise.l1010.eq (v 0) (v 1) a0 x0) (by unfold F.facts_Rise.l1010.B; repeat' first | exact App.val | exact App.no | exact App.lim | apply App.cond | apply App.guard | apply App.meet | apply App.ite | refine App.bind ?_ fun _ => ?_)) h
theorem V.facts_Rise.of a0 {r} (h : F.facts_Rise.B V.facts_Rise.l1010 a0 = some r) : V.facts_Rise a0 = some r :=
  App.to (App.step 0 (fun v => F.facts_Rise.eq (v 0) a0) (by unfold F.facts_Rise.B; repeat' first | exact App.val | exact App.no | exact App.lim | exact (App.enter 1 App.lim) | apply App.cond | apply App.guard | apply App.meet | apply App.ite | refine App.bind ?_ fun _ => ?_)) h
noncomputable def F.pleachlaw27_FactsOf (K : Nat) (a0 : TGraph) : Option (Bool) := evFn Try.prog sg K 3 [.agg [.list sNode a0.1 false, .list sEdge a0.2 false]] []
noncomputable def F.pleachlaw27_FactsOf.B (c0 : (TGraph) → Option (Bool)) (c1 : Option (Bool)) (c2 : (TGraph) → Option ((List TFact))) (c3 : (TGraph) → Option ((List TFact))) (c4 : (List TFact) → (List TFact) → Option (Bool)) (c5 : (List TFact) → Option (Int)) (a0 : TGraph) : Option (Bool) :=
    ((c0 (a0.1, a0.2)).bind fun t0 => (bif (!t0) then ((c1).bind fun t1 => (some t1)) else ((c2 (a0.1, a0.2)).bind fun t2 => ((c3 (a0.1, a0.2)).bind fun t3 => ((c4 t2 t3).bind fun t4 => (bif t4 then ((c5 t2).bind fun t5 => (bif (t5 == 0) then ((c1).bind fun t6 => (some t6)) else (some false))) else (some false)))))))
theorem F.pleachlaw27_FactsOf.eq K a0 : F.pleachlaw27_FactsOf (K + 1) a0 = F.pleachlaw27_FactsOf.B (F.pleachref26_Few K) (F.pleachlaw27_awake K) (F.facts_Of K) (F.pleachref27_Of K) (F.pleachref27_Same K) (F.facts_Rise K) a0 := by kernel_rfl
noncomputable def V.pleachlaw27_FactsOf (a0 : TGraph) := lim fun v => F.pleachlaw27_FactsOf (v 0) a0
theorem V.pleachlaw27_FactsOf.of a0 {r} (h : F.pleachlaw27_FactsOf.B V.pleachref26_Few V.pleachlaw27_awake V.facts_Of V.pleachref27_Of V.pleachref27_Same V.facts_Rise a0 = some r) : V.pleachlaw27_FactsOf a0 = some r :=
  App.to (App.step 0 (fun v => F.pleachlaw27_FactsOf.eq (v 0) a0) (by unfold F.pleachlaw27_FactsOf.B; repeat' first | exact App.val | exact App.no | exact App.lim | apply App.cond | apply App.guard | apply App.meet | apply App.ite | refine App.bind ?_ fun _ => ?_)) h

end Go.Proofs.Ytdblhdpnllckhaa.AE
end
section
set_option linter.unusedVariables false
set_option linter.unusedSimpArgs false
namespace Go.Proofs.Ytdblhdpnllckhaa.AE
open Go

theorem w64_id {x : Int} (h0 : -9223372036854775808 ≤ x) (h1 : x ≤ 9223372036854775807) : w64 x = x := by
  show IntKind.i64.wrap x = x
  simp [IntKind.wrap, IntKind.bits, IntKind.signed]
  omega
theorem u64_id {x : Int} (h0 : 0 ≤ x) (h1 : x ≤ 18446744073709551615) : IntKind.wrap .u64 x = x := by
  have : IntKind.u64.wrap x = x % 18446744073709551616 := by simp [IntKind.wrap, IntKind.bits, IntKind.signed]
  rw [this]; omega
theorem u64_mod (x : Int) : IntKind.wrap .u64 x = x % 18446744073709551616 := by simp [IntKind.wrap, IntKind.bits, IntKind.signed]
theorem u8_mod (x : Int) : IntKind.wrap .u8 x = x % 256 := by simp [IntKind.wrap, IntKind.bits, IntKind.signed]
theorem w64_up {i n : Nat} (h : i < n) (hn : n ≤ 140737488351232) : w64 ((i : Int) + 1) = ((i + 1 : Nat) : Int) := by rw [w64_id (by omega) (by omega)]; omega
theorem w64_dn {i n : Nat} (h : i < n) (hn : n ≤ 140737488351232) (h0 : 0 < i) : w64 ((i : Int) - 1) = ((i - 1 : Nat) : Int) := by rw [w64_id (by omega) (by omega)]; omega

theorem guard_tt {α : Type} (a : Option α) : guardK true a = a := rfl
theorem guard_of {α : Type} {g : Bool} {a : Option α} (h : g = true) : guardK g a = a := by rw [h]; rfl
theorem guard_dec {α : Type} {p : Prop} [Decidable p] {a : Option α} (h : p) : guardK (decide p) a = a := guard_of (decide_eq_true h)
/-- Inside a row. -/
theorem guard_in {α : Type} {i n : Nat} {a : Option α} (h : i < n) : guardK (decide (0 ≤ (i : Int)) && decide ((i : Int) < (n : Int))) a = a := guard_of (by simp [h])
theorem if_in {α : Type} {i n : Nat} {a b : α} (h : i < n) : (bif decide ((i : Int) < (n : Int)) then a else b) = a := by simp [h]
theorem if_out {α : Type} {i n : Nat} {a b : α} (h : n ≤ i) : (bif decide ((i : Int) < (n : Int)) then a else b) = b := by simp [Nat.not_lt.2 h]
theorem if_yes {α : Type} {p : Prop} [Decidable p] {a b : α} (h : p) : (bif decide p then a else b) = a := by simp [h]
theorem if_no {α : Type} {p : Prop} [Decidable p] {a b : α} (h : ¬ p) : (bif decide p then a else b) = b := by simp [h]
theorem nat_cast (i : Nat) : ((i : Nat) : Int).toNat = i := rfl
theorem meet_self {α : Type} (a : Option α) : meet a a = a := by unfold meet; simp
theorem data_len (s : ByteArray) : s.data.toList.length = s.size := by rw [Array.length_toList]; rfl
theorem toList_size (s : ByteArray) : s.toList.length = s.size := by rw [ByteArray.toList_eq]; exact data_len s
theorem toList_nil {s : ByteArray} : s.toList = [] ↔ s.size = 0 := by
  rw [← toList_size, List.length_eq_zero_iff]
theorem bytes_ext {s t : ByteArray} (h : s.toList = t.toList) : s = t := by
  rw [ByteArray.toList_eq, ByteArray.toList_eq] at h
  have : s.data = t.data := by rwa [← Array.toList_inj]
  cases s; cases t; simp_all
theorem strEq_iff {s t : ByteArray} : strEq s t = true ↔ s = t := by
  unfold strEq
  rw [beq_iff_eq]
  exact ⟨bytes_ext, fun h => by rw [h]⟩
theorem strEq_self (s : ByteArray) : strEq s s = true := strEq_iff.2 rfl
theorem strEq_no {s t : ByteArray} (h : s ≠ t) : strEq s t = false := by
  cases hb : strEq s t with
  | false => rfl
  | true => exact absurd (strEq_iff.1 hb) h
/-! ### The order of texts -/

theorem less_leq : ∀ x y : List UInt8, (Op.bytesLess x y || x == y) = !(Op.bytesLess y x)
  | [], [] => by simp [Op.bytesLess]
  | [], b :: y => by simp [Op.bytesLess]
  | a :: x, [] => by simp [Op.bytesLess]
  | a :: x, b :: y => by
    have ih := less_leq x y
    by_cases h1 : a < b
    · have h2 : ¬ b < a := by simp only [UInt8.lt_iff_toNat_lt] at *; omega
      have h3 : ¬ b = a := by rintro rfl; simp at h1
      simp [Op.bytesLess, h1, h2, h3]
    · by_cases h2 : b < a
      · have h3 : ¬ b = a := by rintro rfl; simp at h2
        have h4 : ¬ a = b := fun h => h3 h.symm
        simp [Op.bytesLess, h1, h2, h4]
      · have h3 : a = b := by
          apply UInt8.toNat_inj.1
          simp only [UInt8.lt_iff_toNat_lt] at *
          omega
        subst h3
        simp [Op.bytesLess, h1] at ih ⊢
        exact ih
theorem less_irr : ∀ x : List UInt8, Op.bytesLess x x = false
  | [] => rfl
  | a :: x => by
    have : ¬ a < a := by simp
    simp [Op.bytesLess, less_irr x, this]
theorem less_trans : ∀ x y z : List UInt8, Op.bytesLess x y = true → Op.bytesLess y z = true → Op.bytesLess x z = true
  | _, [], _, h, _ => by simp [Op.bytesLess] at h
  | _, _ :: _, [], _, h => by simp [Op.bytesLess] at h
  | [], b :: y, c :: z, _, _ => rfl
  | a :: x, b :: y, c :: z, h1, h2 => by
    simp only [Op.bytesLess, Bool.or_eq_true, Bool.and_eq_true, decide_eq_true_eq, beq_iff_eq] at h1 h2 ⊢
    rcases h1 with h1 | ⟨rfl, h1⟩
    · rcases h2 with h2 | ⟨rfl, h2⟩
      · left; simp only [UInt8.lt_iff_toNat_lt] at *; omega
      · exact .inl h1
    · rcases h2 with h2 | ⟨rfl, h2⟩
      · exact .inl h2
      · exact .inr ⟨rfl, less_trans x y z h1 h2⟩
/-- Of two texts one is less, or they are the same. -/
theorem lt_or (a b : ByteArray) : (strLt a b || strEq a b) = !strLt b a := less_leq a.toList b.toList
theorem lt_irr (a : ByteArray) : strLt a a = false := less_irr a.toList
theorem lt_trans {a b c : ByteArray} (h : strLt a b = true) (g : strLt b c = true) : strLt a c = true := less_trans _ _ _ h g
theorem lt_asymm {a b : ByteArray} (h : strLt a b = true) : strLt b a = false := by
  cases hb : strLt b a with
  | false => rfl
  | true => have := lt_trans h hb; rw [lt_irr] at this; cases this
theorem lt_total {a b : ByteArray} (h : strLt a b = false) (hn : a ≠ b) : strLt b a = true := by
  have := lt_or a b
  rw [h, strEq_no hn] at this
  cases hb : strLt b a with
  | true => rfl
  | false => rw [hb] at this; simp at this
theorem size_zero {s : ByteArray} (h : s.size = 0) : s = (⟨#[]⟩ : ByteArray) := by
  apply bytes_ext
  rw [toList_nil.2 h]
  exact (toList_nil.2 rfl).symm
theorem strEq_nil (s : ByteArray) : strEq s (⟨#[]⟩ : ByteArray) = (s.size == 0) := by
  rw [Bool.eq_iff_iff, strEq_iff]
  simp only [beq_iff_eq]
  exact ⟨fun h => by rw [h]; rfl, size_zero⟩
theorem strOfNums_size (xs : List Int) : (bytesOf xs).size = xs.length := by unfold bytesOf; simp [ByteArray.size]
theorem strOfNums_append (xs ys : List Int) : bytesOf (xs ++ ys) = bytesOf xs ++ bytesOf ys := by
  apply ByteArray.ext
  simp [bytesOf]
theorem rd_get {e : Sh} {l : List (den e)} {i : Nat} (h : i < l.length) : rd e l i = l[i] := by
  simp [rd, List.getD_eq_getElem?_getD, List.getElem?_eq_getElem h]
theorem rd_mem {e : Sh} {l : List (den e)} {i : Nat} (h : i < l.length) : rd e l i ∈ l := by rw [rd_get h]; exact List.getElem_mem h
theorem drop_rd {e : Sh} {l : List (den e)} {i : Nat} (h : i < l.length) : l.drop i = rd e l i :: l.drop (i + 1) := by rw [rd_get h]; exact List.drop_eq_getElem_cons h
theorem take_rd {e : Sh} {l : List (den e)} {i : Nat} (h : i < l.length) : l.take (i + 1) = l.take i ++ [rd e l i] := by
  rw [rd_get h, List.take_add_one, List.getElem?_eq_getElem h]; rfl

/-- A loop that ends at the first place at which the step tells something; else what is told at the end. -/
def scanG {α : Type} (step : Nat → Option α) (fin : α) : Nat → Nat → α
  | 0, _ => fin
  | d + 1, i => match step i with
    | some r => r
    | none => scanG step fin d (i + 1)
abbrev scanI (step : Nat → Option Int) : Nat → Nat → Int := scanG step 0
theorem scanG_succ {α : Type} (step : Nat → Option α) (fin : α) (d i : Nat) : scanG step fin (d + 1) i = (step i).getD (scanG step fin d (i + 1)) := by
  show (match step i with | some r => r | none => scanG step fin d (i + 1)) = _
  cases step i <;> rfl
theorem scanI_succ (step : Nat → Option Int) (d i : Nat) : scanI step (d + 1) i = (step i).getD (scanI step d (i + 1)) := scanG_succ step 0 d i
end Go.Proofs.Ytdblhdpnllckhaa.AE
end
section
set_option linter.unusedVariables false
set_option linter.unusedSimpArgs false
namespace Go.Proofs.Ytdblhdpnllckhaa.AE
open Go

def okc (c : Int) : Bool := (decide (97 ≤ c) && decide (c ≤ 122)) || (decide (48 ≤ c) && decide (c ≤ 57)) || c == 45
theorem name_fits_ok (c : Int) : V.name_fits c = some (okc c) := by
  refine V.name_fits.of _ ?_
  unfold F.name_fits.B okc
  by_cases a1 : c ≥ 97 <;> by_cases a2 : c ≤ 122 <;> by_cases a3 : c ≥ 48 <;> by_cases a4 : c ≤ 57 <;> simp [Bool.cond_eq_ite, a1, a2, a3, a4] <;> omega
/-- From place i on, d bytes, all fit. -/
def okFrom (s : ByteArray) : Nat → Nat → Bool
  | 0, _ => true
  | d + 1, i => okc (byteAt s i) && okFrom s d (i + 1)
def nameB (s : ByteArray) : Bool := decide (1 ≤ s.size) && decide (s.size ≤ 12) && okFrom s s.size 0

theorem name_Check_l (s : ByteArray) (hs : s.size ≤ 140737488351232) : ∀ d i : Nat, i + d = s.size → V.name_Check.l11010 s (i : Int) = some (if okFrom s d i then 0 else 2)
  | 0, i, h => by
    refine V.name_Check.l11010.of _ _ ?_
    unfold F.name_Check.l11010.B
    rw [if_out (by omega)]
    simp [okFrom]
  | d + 1, i, h => by
    refine V.name_Check.l11010.of _ _ ?_
    unfold F.name_Check.l11010.B
    rw [if_in (by omega), guard_in (by omega), name_fits_ok, Option.bind_some, w64_up (show i < s.size by omega) hs, name_Check_l s hs d (i + 1) (by omega)]
    cases hc : okc (byteAt s (i : Int)) <;> simp [okFrom, hc]
theorem name_Check_ok (s : ByteArray) (hs : s.size ≤ 140737488351232) : V.name_Check s = some (if nameB s then 0 else 2) := by
  refine V.name_Check.of _ ?_
  unfold F.name_Check.B
  rw [strEq_nil]
  have := name_Check_l s hs s.size 0 (by omega)
  rw [show (0 : Int) = ((0 : Nat) : Int) from rfl, this]
  by_cases h0 : s.size = 0
  · simp [Bool.cond_eq_ite, h0, nameB]
  · by_cases h2 : s.size ≤ 12
    · have h1 : 1 ≤ s.size := by omega
      have h3 : ¬ (s.size : Int) > 12 := by omega
      simp [Bool.cond_eq_ite, h0, h1, h2, h3, nameB]
    · have h3 : (s.size : Int) > 12 := by omega
      simp [Bool.cond_eq_ite, h0, h2, h3, nameB]

theorem refIs_l (s : ByteArray) (hs : s.size ≤ 140737488351232) : ∀ d i : Nat, i + d = s.size → V.pleachref05_Is.l1010 s (i : Int) = some (okFrom s d i && (decide (1 ≤ s.size) && decide (s.size ≤ 12)))
  | 0, i, h => by
    refine V.pleachref05_Is.l1010.of _ _ ?_
    unfold F.pleachref05_Is.l1010.B
    rw [if_out (by omega)]
    by_cases h1 : 1 ≤ s.size
    · have h2 : (s.size : Int) ≥ 1 := by omega
      simp [okFrom, h1, h2]
      omega
    · have h2 : ¬ (s.size : Int) ≥ 1 := by omega
      simp [okFrom, h1, h2]
  | d + 1, i, h => by
    refine V.pleachref05_Is.l1010.of _ _ ?_
    unfold F.pleachref05_Is.l1010.B
    rw [if_in (by omega)]
    simp only [guard_in (show i < s.size by omega), w64_up (show i < s.size by omega) hs, refIs_l s hs d (i + 1) (by omega), okFrom, okc]
    generalize byteAt s (i : Int) = c
    generalize okFrom s d (i + 1) = b
    by_cases a1 : c ≥ 97 <;> by_cases a2 : c ≤ 122 <;> by_cases a3 : c ≥ 48 <;> by_cases a4 : c ≤ 57 <;> by_cases a5 : c = 45 <;> simp [Bool.cond_eq_ite, a1, a2, a3, a4, a5] <;> omega
theorem refIs_ok (s : ByteArray) (hs : s.size ≤ 140737488351232) : V.pleachref05_Is s = some (nameB s) := by
  refine V.pleachref05_Is.of _ ?_
  unfold F.pleachref05_Is.B
  rw [show (0 : Int) = ((0 : Nat) : Int) from rfl, refIs_l s hs s.size 0 (by omega), nameB, Bool.and_comm]

def valueB (v : TValue) : Bool := (v.1 == 1 && (v.2.1 == 0 || v.2.1 == 1) && v.2.2.size == 0) || (v.1 == 2 && v.2.2.size == 0) || (v.1 == 3 && v.2.1 == 0 && decide (v.2.2.size ≤ 64))
theorem value_Check_ok (v : TValue) : V.value_Check v = some (if valueB v then 0 else 2) := by
  refine V.value_Check.of _ ?_
  obtain ⟨a, b, s⟩ := v
  unfold F.value_Check.B valueB
  simp only [strEq_nil]
  by_cases a1 : a = 1
  · subst a1
    by_cases b0 : b = 0 <;> by_cases b1 : b = 1 <;> by_cases s0 : s.size = 0 <;> simp [Bool.cond_eq_ite, b0, b1, s0]
  · by_cases a2 : a = 2
    · subst a2
      by_cases s0 : s.size = 0 <;> simp [Bool.cond_eq_ite, s0]
    · by_cases a3 : a = 3
      · subst a3
        by_cases b0 : b = 0 <;> by_cases s0 : s.size ≤ 64 <;> simp [Bool.cond_eq_ite, b0, s0] <;> omega
      · simp [Bool.cond_eq_ite, a1, a2, a3]
theorem refVIs_ok (v : TValue) : V.pleachref06_Is v = some (valueB v) := by
  refine V.pleachref06_Is.of _ ?_
  obtain ⟨a, b, s⟩ := v
  unfold F.pleachref06_Is.B valueB
  simp only [strEq_nil]
  by_cases a1 : a = 1
  · subst a1
    by_cases s0 : s.size = 0 <;> by_cases b0 : b ≥ 0 <;> by_cases b1 : b ≤ 1 <;> simp [Bool.cond_eq_ite, b0, b1, s0] <;> omega
  · by_cases a2 : a = 2
    · subst a2
      by_cases s0 : s.size = 0 <;> simp [Bool.cond_eq_ite, s0]
    · by_cases a3 : a = 3
      · subst a3
        by_cases b0 : b = 0 <;> by_cases s0 : s.size ≤ 64 <;> simp [Bool.cond_eq_ite, b0, s0] <;> omega
      · simp [Bool.cond_eq_ite, a1, a2, a3]

/-! ### Rows that rise -/

def okProps (l : List TProp) : Prop := l.length ≤ 140737488351232 ∧ ∀ p ∈ l, p.1.size ≤ 140737488351232 ∧ p.2.2.2.size ≤ 140737488351232 ∧ -9223372036854775808 ≤ p.2.2.1 ∧ p.2.2.1 ≤ 9223372036854775807
def okTexts (l : List ByteArray) : Prop := l.length ≤ 140737488351232 ∧ ∀ s ∈ l, s.size ≤ 140737488351232
def propStep (l : List TProp) (i : Nat) : Option Int :=
  if (nameB (rd sProp l i).1 && valueB (rd sProp l i).2) = false then some 2
  else if 0 < i ∧ strLt (rd sProp l (i - 1)).1 (rd sProp l i).1 = false then some 4 else none
def textStep (l : List ByteArray) (i : Nat) : Option Int :=
  if nameB (rd .str l i) = false then some 2
  else if 0 < i ∧ strLt (rd .str l (i - 1)) (rd .str l i) = false then some 4 else none
def propsN (l : List TProp) : Int := if l.length > 8 then 5 else scanI (propStep l) l.length 0
def rowN (l : List ByteArray) : Int := scanI (textStep l) l.length 0
def restN (labels : List ByteArray) (props : List TProp) : Int := if labels.length > 8 then 5 else if rowN labels = 0 then propsN props else rowN labels

theorem CheckProps_l (l : List TProp) (hl : okProps l) : ∀ d i : Nat, i + d = l.length → V.elem_CheckProps.l11010 l (i : Int) = some (scanI (propStep l) d i)
  | 0, i, h => by
    refine V.elem_CheckProps.l11010.of _ _ ?_
    unfold F.elem_CheckProps.l11010.B
    rw [if_out (by omega)]
    rfl
  | d + 1, i, h => by
    refine V.elem_CheckProps.l11010.of _ _ ?_
    unfold F.elem_CheckProps.l11010.B
    have hi : i < l.length := by omega
    rw [if_in hi, guard_in hi]
    simp only [nat_cast, name_Check_ok _ (hl.2 _ (rd_mem (e := sProp) hi)).1, Option.bind_some, value_Check_ok, w64_up hi hl.1, CheckProps_l l hl d (i + 1) (by omega)]
    rw [scanI_succ]
    unfold propStep
    cases hn : nameB (rd sProp l i).1 with
    | false => simp
    | true =>
      cases hv : valueB (rd sProp l i).2 with
      | false => simp [hv]
      | true =>
        by_cases h0 : 0 < i
        · rw [w64_dn hi hl.1 h0, guard_in (show i - 1 < l.length by omega), nat_cast]
          cases hless : strLt (rd sProp l (i - 1)).1 (rd sProp l i).1 <;> simp [hless, hv, h0]
        · have h0 : i = 0 := by omega
          subst h0
          simp [hv]
theorem CheckProps_ok (l : List TProp) (hl : okProps l) : V.elem_CheckProps l = some (propsN l) := by
  refine V.elem_CheckProps.of _ ?_
  unfold F.elem_CheckProps.B propsN
  have := CheckProps_l l hl l.length 0 (by omega)
  rw [show (0 : Int) = ((0 : Nat) : Int) from rfl, this]
  by_cases h : l.length > 8
  · rw [if_yes (by omega), if_pos h]
  · rw [if_no (by omega), if_neg h]
theorem refProps_l (l : List TProp) (hl : okProps l) : ∀ d i : Nat, i + d = l.length → V.pleachref25_Props.l11010 l (i : Int) = some (scanI (propStep l) d i)
  | 0, i, h => by
    refine V.pleachref25_Props.l11010.of _ _ ?_
    unfold F.pleachref25_Props.l11010.B
    rw [if_out (by omega)]
    rfl
  | d + 1, i, h => by
    refine V.pleachref25_Props.l11010.of _ _ ?_
    unfold F.pleachref25_Props.l11010.B
    have hi : i < l.length := by omega
    rw [if_in hi, guard_in hi]
    simp only [nat_cast, refIs_ok _ (hl.2 _ (rd_mem (e := sProp) hi)).1, Option.bind_some, refVIs_ok, w64_up hi hl.1, refProps_l l hl d (i + 1) (by omega), guard_in hi, lt_or]
    rw [scanI_succ]
    unfold propStep
    cases hn : nameB (rd sProp l i).1 with
    | false => simp
    | true =>
      cases hv : valueB (rd sProp l i).2 with
      | false => simp [hv]
      | true =>
        by_cases h0 : 0 < i
        · rw [w64_dn hi hl.1 h0, guard_in (show i - 1 < l.length by omega), nat_cast]
          cases hless : strLt (rd sProp l (i - 1)).1 (rd sProp l i).1 <;> simp [hless, hv, h0]
        · have h0 : i = 0 := by omega
          subst h0
          simp [hv]
theorem refProps_ok (l : List TProp) (hl : okProps l) : V.pleachref25_Props l = some (propsN l) := by
  refine V.pleachref25_Props.of _ ?_
  unfold F.pleachref25_Props.B propsN
  have := refProps_l l hl l.length 0 (by omega)
  rw [show (0 : Int) = ((0 : Nat) : Int) from rfl, this]
  by_cases h : l.length > 8
  · rw [if_yes (by omega), if_pos h]
  · rw [if_no (by omega), if_neg h]

theorem Row_l (l : List ByteArray) (hl : okTexts l) : ∀ d i : Nat, i + d = l.length → V.name_Row.l1010 l (i : Int) = some (scanI (textStep l) d i)
  | 0, i, h => by
    refine V.name_Row.l1010.of _ _ ?_
    unfold F.name_Row.l1010.B
    rw [if_out (by omega)]
    rfl
  | d + 1, i, h => by
    refine V.name_Row.l1010.of _ _ ?_
    unfold F.name_Row.l1010.B
    have hi : i < l.length := by omega
    rw [if_in hi, guard_in hi]
    simp only [nat_cast, name_Check_ok _ (hl.2 _ (rd_mem (e := .str) hi)), Option.bind_some, w64_up hi hl.1, Row_l l hl d (i + 1) (by omega)]
    rw [scanI_succ]
    unfold textStep
    cases hn : nameB (rd .str l i) with
    | false => simp
    | true =>
      by_cases h0 : 0 < i
      · rw [w64_dn hi hl.1 h0, guard_in (show i - 1 < l.length by omega), nat_cast]
        cases hless : strLt (rd .str l (i - 1)) (rd .str l i) <;> simp [hless, h0]
      · have h0 : i = 0 := by omega
        subst h0
        simp
theorem Row_ok (l : List ByteArray) (hl : okTexts l) : V.name_Row l = some (rowN l) := by
  refine V.name_Row.of _ ?_
  unfold F.name_Row.B rowN
  exact Row_l l hl l.length 0 (by omega)
theorem refRow_l (l : List ByteArray) (hl : okTexts l) : ∀ d i : Nat, i + d = l.length → V.pleachref05_Row.l1010 l (i : Int) = some (scanI (textStep l) d i)
  | 0, i, h => by
    refine V.pleachref05_Row.l1010.of _ _ ?_
    unfold F.pleachref05_Row.l1010.B
    rw [if_out (by omega)]
    rfl
  | d + 1, i, h => by
    refine V.pleachref05_Row.l1010.of _ _ ?_
    unfold F.pleachref05_Row.l1010.B
    have hi : i < l.length := by omega
    rw [if_in hi, guard_in hi]
    simp only [nat_cast, refIs_ok _ (hl.2 _ (rd_mem (e := .str) hi)), Option.bind_some, w64_up hi hl.1, refRow_l l hl d (i + 1) (by omega), guard_in hi, lt_or]
    rw [scanI_succ]
    unfold textStep
    cases hn : nameB (rd .str l i) with
    | false => simp
    | true =>
      by_cases h0 : 0 < i
      · rw [w64_dn hi hl.1 h0, guard_in (show i - 1 < l.length by omega), nat_cast]
        cases hless : strLt (rd .str l (i - 1)) (rd .str l i) <;> simp [hless, h0]
      · have h0 : i = 0 := by omega
        subst h0
        simp
theorem refRow_ok (l : List ByteArray) (hl : okTexts l) : V.pleachref05_Row l = some (rowN l) := by
  refine V.pleachref05_Row.of _ ?_
  unfold F.pleachref05_Row.B rowN
  exact refRow_l l hl l.length 0 (by omega)
theorem rest_ok (a : List ByteArray) (l : List TProp) (ha : okTexts a) (hl : okProps l) : V.elem_rest a l = some (restN a l) := by
  refine V.elem_rest.of _ _ ?_
  unfold F.elem_rest.B restN
  rw [Row_ok a ha, CheckProps_ok l hl]
  by_cases h : a.length > 8
  · rw [if_yes (by omega), if_pos h]
  · rw [if_no (by omega), if_neg h]
    by_cases h0 : rowN a = 0 <;> simp [Bool.cond_eq_ite, h0]
theorem refRest_ok (a : List ByteArray) (l : List TProp) (ha : okTexts a) (hl : okProps l) : V.pleachref25_rest a l = some (restN a l) := by
  refine V.pleachref25_rest.of _ _ ?_
  unfold F.pleachref25_rest.B restN
  rw [refRow_ok a ha, refProps_ok l hl]
  by_cases h : a.length > 8
  · rw [if_yes (by omega), if_pos h]
  · rw [if_no (by omega), if_neg h]
    by_cases h0 : rowN a = 0 <;> simp [Bool.cond_eq_ite, h0]
end Go.Proofs.Ytdblhdpnllckhaa.AE
end
section
set_option linter.unusedVariables false
set_option linter.unusedSimpArgs false
namespace Go.Proofs.Ytdblhdpnllckhaa.AE
open Go

/-- A number's bytes, seven bits a byte, 128 more in all but the last. -/
def vput : Nat → Nat → List Int
  | 0, _ => []
  | f + 1, n => if n < 128 then [(n : Int)] else ((n % 128 + 128 : Nat) : Int) :: vput f (n / 128)
theorem vput_len : ∀ f n : Nat, (vput f n).length ≤ f
  | 0, _ => by simp [vput]
  | f + 1, n => by
    unfold vput
    split
    · simp
    · have := vput_len f (n / 128)
      simp
      omega
def numB (n : Nat) : ByteArray := bytesOf (vput 10 n)
theorem numB_size (n : Nat) : (numB n).size ≤ 10 := by unfold numB; rw [strOfNums_size]; exact vput_len 10 n
theorem or128 (c : Int) (h0 : 0 ≤ c) (h1 : c < 256) : (((BitVec.ofInt 8 c ||| BitVec.ofInt 8 128).toNat : Nat) : Int) = c % 128 + 128 := by
  obtain ⟨n, rfl⟩ := Int.eq_ofNat_of_zero_le h0
  have key : ∀ m : Fin 256, (BitVec.ofInt 8 (m.1 : Int) ||| BitVec.ofInt 8 128).toNat = m.1 % 128 + 128 := by decide +kernel
  have := key ⟨n, by omega⟩
  simp only at this
  rw [this]
  omega
theorem repl_len {α : Type} (a : α) : ∀ n, (repl n a).length = n
  | 0 => rfl
  | n + 1 => by simp [repl, repl_len a n]
theorem take_set_succ {α : Type} (l : List α) (i : Nat) (x : α) (h : i < l.length) : (l.set i x).take (i + 1) = l.take i ++ [x] := by
  rw [List.take_add_one, List.take_set, List.set_eq_of_length_le (by rw [List.length_take]; omega)]
  simp [h]
theorem varint_Put_l (a : Int) : ∀ (f n i : Nat) (arr : List Int), n < 128 ^ (f + 1) → i + f + 1 ≤ 10 → arr.length = 10 → V.varint_Put.l11100 a (n : Int) (i : Int) arr = some (bytesOf (arr.take i ++ vput (f + 1) n))
  | f, n, i, arr, hn, hi, ha => by
    refine V.varint_Put.l11100.of _ _ _ _ ?_
    unfold F.varint_Put.l11100.B
    have e7 : Int.fdiv (n : Int) (2 ^ 7) = ((n / 128 : Nat) : Int) := by rw [Int.fdiv_eq_ediv_of_nonneg _ (by decide)]; rfl
    rw [e7, w64_id (x := (i : Int) + 1) (by omega) (by omega)]
    simp only [u8_mod]
    by_cases h : n < 128
    · rw [if_no (by omega), guard_of (by simp [ha]; omega), guard_of (by simp [ha]; omega)]
      have e1 : (n : Int) % 256 = n := by omega
      have e2 : ((i : Int) + 1).toNat = i + 1 := rfl
      rw [e1, e2, nat_cast, List.drop_zero, take_set_succ _ _ _ (by omega)]
      have e3 : vput (f + 1) n = [(n : Int)] := by unfold vput; rw [if_pos h]
      rw [e3]
    · cases f with
      | zero => simp at hn; omega
      | succ f =>
        rw [if_yes (by omega), guard_of (by simp [ha]; omega), or128 _ (by omega) (by omega), nat_cast]
        have ih := varint_Put_l a f (n / 128) (i + 1) (arr.set i (((n : Int) % 256 % 128 + 128) % 256)) (by rw [Nat.pow_succ] at hn; exact Nat.div_lt_of_lt_mul (by omega)) (by omega) (by simp [ha])
        rw [show ((i : Int) + 1) = ((i + 1 : Nat) : Int) by omega, ih, take_set_succ _ _ _ (by omega)]
        have e3 : vput (f + 1 + 1) n = ((n % 128 + 128 : Nat) : Int) :: vput (f + 1) (n / 128) := by rw [vput, if_neg h]
        rw [e3, List.append_assoc]
        have e4 : ((n : Int) % 256 % 128 + 128) % 256 = ((n % 128 + 128 : Nat) : Int) := by omega
        rw [e4]
        rfl
theorem varint_Put_ok {n : Nat} (h1 : n < 18446744073709551616) : V.varint_Put (n : Int) = some (numB n) := by
  refine V.varint_Put.of _ ?_
  unfold F.varint_Put.B
  have := varint_Put_l (n : Int) 9 n 0 (repl 10 0) (by omega) (by omega) (repl_len _ _)
  rw [show (0 : Int) = ((0 : Nat) : Int) from rfl] at this ⊢
  rw [this]
  rfl
theorem Put_eq {n : Int} (h0 : 0 ≤ n) (h1 : n < 18446744073709551616) : V.varint_Put n = some (numB n.toNat) := by
  obtain ⟨m, rfl⟩ := Int.eq_ofNat_of_zero_le h0
  exact varint_Put_ok (by omega)

/-- The digits to the base 128. -/
def digs : Nat → Nat → List Int
  | 0, _ => []
  | f + 1, n => ((n % 128 : Nat) : Int) :: if n < 128 then [] else digs f (n / 128)
theorem digs_len : ∀ f n : Nat, (digs f n).length ≤ f
  | 0, _ => by simp [digs]
  | f + 1, n => by
    unfold digs
    split
    · simp
    · have := digs_len f (n / 128)
      simp
      omega
theorem div128 (n : Nat) : Int.tdiv (n : Int) 128 = ((n / 128 : Nat) : Int) := by rw [Int.tdiv_eq_ediv_of_nonneg (by omega)]; omega
theorem mod128 (n : Nat) : Int.tmod (n : Int) 128 = ((n % 128 : Nat) : Int) := by rw [Int.tmod_eq_emod_of_nonneg (by omega)]; omega
theorem digits_l (a : Int) : ∀ (f n : Nat) (pre : List Int), n < 128 ^ f → n < 18446744073709551616 → pre.length + f ≤ 100 →
    V.pleachref01_Digits.l11100 a (n : Int) pre = some (pre ++ if n = 0 then [] else digs f n)
  | 0, n, pre, hn, _, _ => by
    have : n = 0 := by simpa using hn
    subst this
    refine V.pleachref01_Digits.l11100.of _ _ _ ?_
    unfold F.pleachref01_Digits.l11100.B
    rw [if_no (by omega)]
    simp
  | f + 1, n, pre, hn, h64, hl => by
    refine V.pleachref01_Digits.l11100.of _ _ _ ?_
    unfold F.pleachref01_Digits.l11100.B
    by_cases h0 : n = 0
    · subst h0
      rw [if_no (by omega)]
      simp
    · rw [if_yes (by omega), guard_dec (by simp [nmax]; omega), div128, mod128, u64_id (by omega) (by omega), w64_id (by omega) (by omega)]
      rw [digits_l a f (n / 128) _ (by rw [Nat.pow_succ] at hn; exact Nat.div_lt_of_lt_mul (by omega)) (by omega) (by simp; omega)]
      rw [if_neg h0]
      have : digs (f + 1) n = ((n % 128 : Nat) : Int) :: if n < 128 then [] else digs f (n / 128) := rfl
      rw [this]
      by_cases hlt : n < 128
      · have : n / 128 = 0 := by omega
        simp [this, hlt]
      · have : ¬ n / 128 = 0 := by omega
        simp [this, hlt]
theorem digits_ok (n : Nat) (h64 : n < 18446744073709551616) : V.pleachref01_Digits (n : Int) = some (digs 10 n) := by
  refine V.pleachref01_Digits.of _ ?_
  unfold F.pleachref01_Digits.B
  rw [div128, mod128, u64_id (by omega) (by omega), w64_id (by omega) (by omega)]
  rw [digits_l (n : Int) 9 (n / 128) _ (by omega) (by omega) (by simp)]
  have : digs 10 n = ((n % 128 : Nat) : Int) :: if n < 128 then [] else digs 9 (n / 128) := rfl
  rw [this]
  by_cases hlt : n < 128
  · have : n / 128 = 0 := by omega
    simp [this, hlt]
  · have : ¬ n / 128 = 0 := by omega
    simp [this, hlt]
theorem digs_at : ∀ (f n i : Nat), n < 128 ^ f → i < (digs f n).length → 0 ≤ (digs f n).getD i 0 ∧ (digs f n).getD i 0 < 128
  | 0, _, _, _, h => by simp [digs] at h
  | f + 1, n, 0, _, _ => by simp [digs]; omega
  | f + 1, n, i + 1, hn, h => by
    unfold digs at h ⊢
    by_cases hlt : n < 128
    · simp [hlt] at h
    · simp only [hlt, if_false] at h ⊢
      have := digs_at f (n / 128) i (by rw [Nat.pow_succ] at hn; exact Nat.div_lt_of_lt_mul (by omega)) (by simpa using h)
      simpa using this
/-- With the marks: all but the last have 128 more. -/
def marks : List Int → List Int
  | [] => []
  | [c] => [c]
  | c :: d :: r => (c + 128) :: marks (d :: r)
theorem marks_digs : ∀ (f n : Nat), n < 128 ^ f → marks (digs f n) = vput f n
  | 0, n, h => by simp [digs, marks, vput]
  | f + 1, n, h => by
    unfold digs vput
    by_cases hlt : n < 128
    · simp [hlt, marks]
      omega
    · simp only [hlt, if_false]
      cases f with
      | zero => simp at h; omega
      | succ f =>
        have ih := marks_digs (f + 1) (n / 128) (by rw [Nat.pow_succ] at h; exact Nat.div_lt_of_lt_mul (by omega))
        rw [show digs (f + 1) (n / 128) = ((n / 128 % 128 : Nat) : Int) :: if n / 128 < 128 then [] else digs f (n / 128 / 128) from rfl] at ih ⊢
        rw [marks, ih]
        simp
theorem one_size (c : Int) : (bytesOf [c]).size = 1 := strOfNums_size [c]
theorem put_l (a : Int) (l : List Int) (hl : l.length ≤ 10) (hd : ∀ i, i < l.length → 0 ≤ l.getD i 0 ∧ l.getD i 0 < 128) : ∀ (d i : Nat) (out : ByteArray), i + d = l.length → out.size ≤ i →
    V.pleachref01_Put.l111010 a out (i : Int) l = some (out ++ bytesOf (marks (l.drop i)))
  | 0, i, out, h, ho => by
    refine V.pleachref01_Put.l111010.of _ _ _ _ ?_
    unfold F.pleachref01_Put.l111010.B
    rw [if_out (by omega), List.drop_eq_nil_of_le (by omega)]
    simp [marks, bytesOf]
    apply ByteArray.ext
    simp
  | d + 1, i, out, h, ho => by
    refine V.pleachref01_Put.l111010.of _ _ _ _ ?_
    unfold F.pleachref01_Put.l111010.B
    have hil : i < l.length := by omega
    have hb := hd i hil
    have hg : l.getD i 0 = l[i] := by simp [List.getD_eq_getElem?_getD, List.getElem?_eq_getElem hil]
    have hr : rd (.int .i64) l i = l[i] := rd_get (e := .int .i64) hil
    have hdr : l.drop i = l[i] :: l.drop (i + 1) := List.drop_eq_getElem_cons hil
    rw [hg] at hb
    rw [if_in hil, guard_in hil, w64_up hil (by omega), nat_cast, hr, w64_id (x := l[i] + 128) (by omega) (by omega), u8_mod, u8_mod]
    rw [guard_dec (by rw [one_size]; simp [i64max]; omega), guard_dec (by rw [one_size]; simp [i64max]; omega)]
    have ih : ∀ c : Int, V.pleachref01_Put.l111010 a (out ++ bytesOf [c]) ((i + 1 : Nat) : Int) l = _ := fun c => put_l a l hl hd d (i + 1) _ (by omega) (by rw [ByteArray.size_append, one_size]; omega)
    rw [ih, ih]
    by_cases hlast : i + 1 < l.length
    · rw [if_in hlast, hdr, List.drop_eq_getElem_cons hlast, marks, ← List.drop_eq_getElem_cons hlast]
      rw [ByteArray.append_assoc, ← strOfNums_append]
      have : (l[i] + 128) % 256 = l[i] + 128 := by omega
      rw [this]
      rfl
    · rw [if_out (by omega)]
      have hnil : l.drop (i + 1) = [] := List.drop_eq_nil_of_le (by omega)
      rw [hdr, hnil, marks]
      have : l[i] % 256 = l[i] := by omega
      rw [this, ByteArray.append_assoc, ← strOfNums_append]
      rfl
theorem refPut_ok (n : Nat) (h64 : n < 18446744073709551616) : V.pleachref01_Put (n : Int) = some (numB n) := by
  refine V.pleachref01_Put.of _ ?_
  unfold F.pleachref01_Put.B
  rw [digits_ok n h64, Option.bind_some]
  have hn : n < 128 ^ 10 := by omega
  have := put_l (n : Int) (digs 10 n) (digs_len 10 n) (fun i hi => digs_at 10 n i hn hi) (digs 10 n).length 0 ⟨#[]⟩ (by omega) (by simp [ByteArray.size])
  rw [show (0 : Int) = ((0 : Nat) : Int) from rfl, this, List.drop_zero, marks_digs 10 n hn]
  congr 1
theorem xor_zero (x : Int) (h0 : 0 ≤ x) (h1 : x < 18446744073709551616) : (((BitVec.ofInt 64 x ^^^ BitVec.ofInt 64 0).toNat : Nat) : Int) = x := by
  obtain ⟨n, rfl⟩ := Int.eq_ofNat_of_zero_le h0
  have e2 : (BitVec.ofInt 64 (n : Int) ^^^ BitVec.ofInt 64 0).toNat = n := by
    have : BitVec.ofInt 64 0 = 0#64 := rfl
    rw [this, BitVec.xor_zero, BitVec.toNat_ofInt]
    omega
  rw [e2]
theorem xor_ones (x : Int) (h0 : 0 ≤ x) (h1 : x < 18446744073709551616) : (((BitVec.ofInt 64 x ^^^ BitVec.ofInt 64 18446744073709551615).toNat : Nat) : Int) = 18446744073709551615 - x := by
  obtain ⟨n, rfl⟩ := Int.eq_ofNat_of_zero_le h0
  have : BitVec.ofInt 64 18446744073709551615 = BitVec.allOnes 64 := by decide
  rw [this, BitVec.xor_allOnes, BitVec.toNat_not, BitVec.toNat_ofInt]
  omega
/-- A number's place among 0, -1, 1, -2, 2. -/
def zig (a : Int) : Int := if 0 ≤ a then 2 * a else -2 * a - 1
theorem zig_bound {a : Int} (h0 : -9223372036854775808 ≤ a) (h1 : a ≤ 9223372036854775807) : 0 ≤ zig a ∧ zig a < 18446744073709551616 := by unfold zig; split <;> omega
theorem zig_ok {a : Int} (h0 : -9223372036854775808 ≤ a) (h1 : a ≤ 9223372036854775807) : V.varint_Zig a = some (zig a) := by
  refine V.varint_Zig.of _ ?_
  unfold F.varint_Zig.B zig
  have e1 : (2 : Int) ^ 1 = 2 := rfl
  have e2 : Int.fdiv a (2 ^ 63) = a / 9223372036854775808 := by rw [Int.fdiv_eq_ediv_of_nonneg _ (by decide)]; rfl
  congr 1
  rw [e1, e2]
  by_cases h : 0 ≤ a
  · rw [if_pos h, u64_id (x := a) (by omega) (by omega), u64_id (x := a * 2) (by omega) (by omega), show a / 9223372036854775808 = 0 by omega, u64_id (x := 0) (by omega) (by omega), xor_zero _ (by omega) (by omega), u64_id (by omega) (by omega)]
    omega
  · rw [if_neg h, show a / 9223372036854775808 = -1 by omega]
    have e1 : IntKind.wrap .u64 a = a + 18446744073709551616 := by rw [u64_mod]; omega
    have e2 : IntKind.wrap .u64 (-1) = 18446744073709551615 := by rw [u64_mod]; rfl
    have e3 : IntKind.wrap .u64 ((a + 18446744073709551616) * 2) = 2 * a + 18446744073709551616 := by rw [u64_mod]; omega
    rw [e1, e2, e3, xor_ones _ (by omega) (by omega), u64_id (by omega) (by omega)]
    omega
theorem refZig_ok {a : Int} (h0 : -9223372036854775808 ≤ a) (h1 : a ≤ 9223372036854775807) : V.pleachref01_Zig a = some (zig a) := by
  refine V.pleachref01_Zig.of _ ?_
  unfold F.pleachref01_Zig.B zig
  by_cases h : a ≥ 0
  · rw [if_yes h, if_pos (by omega), u64_id (x := a) (by omega) (by omega), u64_id (by omega) (by omega)]
    congr 1
    omega
  · rw [if_no h, if_neg (by omega), w64_id (x := a + 1) (by omega) (by omega), w64_id (by omega) (by omega), u64_id (x := 0 - (a + 1)) (by omega) (by omega), u64_id (x := (0 - (a + 1)) * 2) (by omega) (by omega), u64_id (by omega) (by omega)]
    congr 1
    omega

/-- A text's bytes: how many it has, and these. -/
def textB (s : ByteArray) : ByteArray := numB s.size ++ s
theorem textB_size (s : ByteArray) : (textB s).size ≤ 10 + s.size := by
  unfold textB
  rw [ByteArray.size_append]
  have := numB_size s.size
  omega
theorem PutText_ok (s : ByteArray) (hs : s.size ≤ 140737488351232) : V.scan_PutText s = some (textB s) := by
  refine V.scan_PutText.of _ ?_
  unfold F.scan_PutText.B
  have := numB_size s.size
  rw [u64_id (by omega) (by omega), varint_Put_ok (by omega), Option.bind_some, guard_dec (by simp [i64max]; omega)]
  rfl
theorem refPutText_ok (s : ByteArray) (hs : s.size ≤ 140737488351232) : V.pleachref04_PutText s = some (textB s) := by
  refine V.pleachref04_PutText.of _ ?_
  unfold F.pleachref04_PutText.B
  have := numB_size s.size
  rw [u64_id (by omega) (by omega), refPut_ok _ (by omega), Option.bind_some, guard_dec (by simp [i64max]; omega)]
  rfl
/-- A value's bytes. -/
def valB (v : TValue) : ByteArray :=
  if valueB v = true then
    (if v.1 = 1 then bytesOf [1, v.2.1] else if v.1 = 2 then bytesOf [2] ++ numB (zig v.2.1).toNat else bytesOf [3] ++ textB v.2.2)
  else ⟨#[]⟩
theorem lit_one (n : UInt8) (c : Int) (h : UInt8.ofNat c.toNat = n) : (⟨#[n]⟩ : ByteArray) = bytesOf [c] := by
  unfold bytesOf; simp [h]
theorem value_Put_ok (v : TValue) (hb : -9223372036854775808 ≤ v.2.1 ∧ v.2.1 ≤ 9223372036854775807) : V.value_Put v = some (valB v, if valueB v then 0 else 2) := by
  refine V.value_Put.of _ ?_
  obtain ⟨a, b, s⟩ := v
  unfold F.value_Put.B
  simp only at hb ⊢
  rw [value_Check_ok, Option.bind_some]
  unfold valB
  cases hv : valueB (a, b, s) with
  | false => simp
  | true =>
    simp only [if_true]
    unfold valueB at hv
    by_cases a1 : a = 1
    · subst a1
      simp at hv
      have hb2 : b % 256 = b := by omega
      simp only [u8_mod, hb2]
      rw [guard_dec (by rw [one_size, one_size]; simp [i64max]), ← strOfNums_append]
      rfl
    · by_cases a2 : a = 2
      · subst a2
        have hz := zig_bound hb.1 hb.2
        have e : V.scan_PutInt b = some (numB (zig b).toNat) := by
          refine V.scan_PutInt.of _ ?_
          unfold F.scan_PutInt.B
          have : V.varint_Int b = some (numB (zig b).toNat) := by
            refine V.varint_Int.of _ ?_
            unfold F.varint_Int.B
            rw [zig_ok hb.1 hb.2, Option.bind_some, Put_eq hz.1 hz.2, Option.bind_some]
          rw [this, Option.bind_some]
        have := numB_size (zig b).toNat
        rw [e, Option.bind_some, guard_dec (p := _ ≤ _) (a := some (bytesOf [_] ++ numB (zig b).toNat, (0 : Int))) (by rw [one_size]; simp [i64max]; omega)]
        simp [u8_mod]
      · have a3 : a = 3 := by simp [a1, a2] at hv; exact hv.1.1
        have h64 : s.size ≤ 64 := by simp [a1, a2] at hv; exact hv.2
        subst a3
        have := textB_size s
        rw [PutText_ok s (by omega), Option.bind_some, guard_dec (p := _ ≤ _) (a := some (bytesOf [_] ++ textB s, (0 : Int))) (by rw [one_size]; simp [i64max]; omega)]
        simp [u8_mod]
theorem refVPut_ok (v : TValue) (hb : -9223372036854775808 ≤ v.2.1 ∧ v.2.1 ≤ 9223372036854775807) : V.pleachref06_Put v = some (valB v) := by
  refine V.pleachref06_Put.of _ ?_
  obtain ⟨a, b, s⟩ := v
  unfold F.pleachref06_Put.B
  simp only at hb ⊢
  rw [refVIs_ok, Option.bind_some]
  unfold valB
  cases hv : valueB (a, b, s) with
  | false => simp
  | true =>
    simp only [if_true]
    unfold valueB at hv
    by_cases a1 : a = 1
    · subst a1
      simp at hv
      have hb2 : b % 256 = b := by omega
      simp [u8_mod, hb2]
    · by_cases a2 : a = 2
      · subst a2
        have hz := zig_bound hb.1 hb.2
        have := numB_size (zig b).toNat
        rw [refZig_ok hb.1 hb.2]
        obtain ⟨z, ez⟩ := Int.eq_ofNat_of_zero_le hz.1
        simp only [Option.bind_some]
        rw [ez, refPut_ok z (by omega), Option.bind_some, guard_dec (p := _ ≤ _) (a := some ((⟨#[2]⟩ : ByteArray) ++ numB z)) (by have e : (⟨#[2]⟩ : ByteArray).size = 1 := rfl; rw [e]; have := numB_size z; unfold i64max; omega), lit_one 2 2 rfl]
        simp
      · have a3 : a = 3 := by simp [a1, a2] at hv; exact hv.1.1
        have h64 : s.size ≤ 64 := by simp [a1, a2] at hv; exact hv.2
        subst a3
        have := textB_size s
        rw [refPutText_ok s (by omega), Option.bind_some, guard_dec (p := _ ≤ _) (a := some ((⟨#[3]⟩ : ByteArray) ++ textB s)) (by have e : (⟨#[3]⟩ : ByteArray).size = 1 := rfl; rw [e]; unfold i64max; omega), lit_one 3 3 rfl]
        simp
end Go.Proofs.Ytdblhdpnllckhaa.AE
end
section
set_option linter.unusedVariables false
set_option linter.unusedSimpArgs false
namespace Go.Proofs.Ytdblhdpnllckhaa.AE
open Go

theorem scanI_zero {step : Nat → Option Int} (hs : ∀ i r, step i = some r → r ≠ 0) : ∀ d i, scanI step d i = 0 → ∀ j, i ≤ j → j < i + d → step j = none
  | 0, i, _, j, h1, h2 => by omega
  | d + 1, i, h, j, h1, h2 => by
    rw [scanI_succ] at h
    cases hq : step i with
    | some r => rw [hq] at h; exact absurd h (hs i r hq)
    | none =>
      rw [hq] at h
      by_cases hij : j = i
      · rw [hij]; exact hq
      · exact scanI_zero hs d (i + 1) h j (by omega) (by omega)
theorem propStep_ne (l : List TProp) (i : Nat) (r : Int) (h : propStep l i = some r) : r ≠ 0 := by
  unfold propStep at h
  split at h
  · injection h with h; omega
  · split at h
    · injection h with h; omega
    · cases h
theorem textStep_ne (l : List ByteArray) (i : Nat) (r : Int) (h : textStep l i = some r) : r ≠ 0 := by
  unfold textStep at h
  split at h
  · injection h with h; omega
  · split at h
    · injection h with h; omega
    · cases h
theorem nameB_size {s : ByteArray} (h : nameB s = true) : 1 ≤ s.size ∧ s.size ≤ 12 := by
  unfold nameB at h
  simp at h
  exact ⟨h.1.1, h.1.2⟩
theorem textStep_none {l : List ByteArray} {i : Nat} (h : textStep l i = none) : nameB (rd .str l i) = true ∧ (0 < i → strLt (rd .str l (i - 1)) (rd .str l i) = true) := by
  unfold textStep at h
  split at h
  · cases h
  · rename_i h1
    split at h
    · cases h
    · rename_i h2
      refine ⟨by simpa using h1, fun h0 => ?_⟩
      cases hq : strLt (rd .str l (i - 1)) (rd .str l i) with
      | true => rfl
      | false => exact absurd ⟨h0, hq⟩ h2
theorem propStep_none {l : List TProp} {i : Nat} (h : propStep l i = none) : nameB (rd sProp l i).1 = true ∧ valueB (rd sProp l i).2 = true ∧ (0 < i → strLt (rd sProp l (i - 1)).1 (rd sProp l i).1 = true) := by
  unfold propStep at h
  split at h
  · cases h
  · rename_i h1
    split at h
    · cases h
    · rename_i h2
      have h3 : nameB (rd sProp l i).1 = true ∧ valueB (rd sProp l i).2 = true := by simpa using h1
      refine ⟨h3.1, h3.2, fun h0 => ?_⟩
      cases hq : strLt (rd sProp l (i - 1)).1 (rd sProp l i).1 with
      | true => rfl
      | false => exact absurd ⟨h0, hq⟩ h2
/-- What a row of names, of properties that may be is. -/
theorem rowN_zero {l : List ByteArray} (h : rowN l = 0) {i : Nat} (hi : i < l.length) : nameB (rd .str l i) = true ∧ (0 < i → strLt (rd .str l (i - 1)) (rd .str l i) = true) :=
  textStep_none (scanI_zero (textStep_ne l) l.length 0 h i (by omega) (by omega))
theorem propsN_len {l : List TProp} (h : propsN l = 0) : l.length ≤ 8 := by
  unfold propsN at h
  split at h
  · omega
  · omega
theorem propsN_zero {l : List TProp} (h : propsN l = 0) {i : Nat} (hi : i < l.length) : nameB (rd sProp l i).1 = true ∧ valueB (rd sProp l i).2 = true ∧ (0 < i → strLt (rd sProp l (i - 1)).1 (rd sProp l i).1 = true) := by
  have h8 := propsN_len h
  unfold propsN at h
  rw [if_neg (by omega)] at h
  exact propStep_none (scanI_zero (propStep_ne l) l.length 0 h i (by omega) (by omega))
theorem restN_zero {a : List ByteArray} {l : List TProp} (h : restN a l = 0) : a.length ≤ 8 ∧ rowN a = 0 ∧ propsN l = 0 := by
  unfold restN at h
  split at h
  · omega
  · split at h
    · rename_i h1 h2
      exact ⟨by omega, h2, h⟩
    · rename_i h1 h2
      exact absurd h h2

/-- Labels and properties are as few and short as they may be. -/
structure Short (a : List ByteArray) (l : List TProp) : Prop where
  na : a.length ≤ 8
  nl : l.length ≤ 8
  ta : ∀ i, i < a.length → (rd .str a i).size ≤ 12
  tl : ∀ i, i < l.length → (rd sProp l i).1.size ≤ 12
theorem Short.of {a : List ByteArray} {l : List TProp} (h : restN a l = 0) : Short a l := by
  obtain ⟨h1, h2, h3⟩ := restN_zero h
  exact ⟨h1, propsN_len h3, fun i hi => (nameB_size (rowN_zero h2 hi).1).2, fun i hi => (nameB_size (propsN_zero h3 hi).1).2⟩
structure okNode (n : TNode) : Prop where
  id : n.1.size ≤ 140737488351232
  la : okTexts n.2.1
  pr : okProps n.2.2
structure okEdge (x : TEdge) : Prop where
  id : x.1.size ≤ 140737488351232
  fr : x.2.1.size ≤ 140737488351232
  to : x.2.2.1.size ≤ 140737488351232
  la : okTexts x.2.2.2.1
  pr : okProps x.2.2.2.2
def nodeN (n : TNode) : Int := if nameB n.1 then restN n.2.1 n.2.2 else 2
def edgeN (x : TEdge) : Int := if nameB x.1 && nameB x.2.1 && nameB x.2.2.1 then restN x.2.2.2.1 x.2.2.2.2 else 2
theorem edgeN_short {x : TEdge} (h : edgeN x = 0) : (nameB x.2.1 = true ∧ nameB x.2.2.1 = true) ∧ Short x.2.2.2.1 x.2.2.2.2 := by
  unfold edgeN at h
  split at h
  · rename_i g
    simp only [Bool.and_eq_true] at g
    exact ⟨⟨g.1.2, g.2⟩, .of h⟩
  · cases h
theorem CheckNode_ok (n : TNode) (h : okNode n) : V.elem_CheckNode n = some (nodeN n) := by
  refine V.elem_CheckNode.of _ ?_
  unfold F.elem_CheckNode.B nodeN
  rw [name_Check_ok _ h.id, Option.bind_some, rest_ok _ _ h.la h.pr]
  cases nameB n.1 <;> simp
theorem refNode_ok (n : TNode) (h : okNode n) : V.pleachref25_Node n = some (nodeN n) := by
  refine V.pleachref25_Node.of _ ?_
  unfold F.pleachref25_Node.B nodeN
  rw [refIs_ok _ h.id, Option.bind_some, refRest_ok _ _ h.la h.pr]
  cases nameB n.1 <;> simp
theorem CheckEdge_ok (x : TEdge) (h : okEdge x) : V.elem_CheckEdge x = some (edgeN x) := by
  have e3 : V.elem_CheckEdge.l1010 x 3 = some (restN x.2.2.2.1 x.2.2.2.2) := by
    refine V.elem_CheckEdge.l1010.of _ _ ?_
    unfold F.elem_CheckEdge.l1010.B
    rw [rest_ok _ _ h.la h.pr]
    simp
  have e2 : V.elem_CheckEdge.l1010 x 2 = some (if nameB x.2.2.1 then restN x.2.2.2.1 x.2.2.2.2 else 2) := by
    refine V.elem_CheckEdge.l1010.of _ _ ?_
    unfold F.elem_CheckEdge.l1010.B
    rw [w64_id (by omega) (by omega), show (2 : Int) + 1 = 3 from rfl, e3, name_Check_ok _ h.to]
    cases nameB x.2.2.1 <;> simp
  have e1 : V.elem_CheckEdge.l1010 x 1 = some (if nameB x.2.1 && nameB x.2.2.1 then restN x.2.2.2.1 x.2.2.2.2 else 2) := by
    refine V.elem_CheckEdge.l1010.of _ _ ?_
    unfold F.elem_CheckEdge.l1010.B
    rw [w64_id (by omega) (by omega), show (1 : Int) + 1 = 2 from rfl, e2, name_Check_ok _ h.fr]
    cases nameB x.2.1 <;> simp
  have e0 : V.elem_CheckEdge.l1010 x 0 = some (edgeN x) := by
    refine V.elem_CheckEdge.l1010.of _ _ ?_
    unfold F.elem_CheckEdge.l1010.B edgeN
    rw [w64_id (by omega) (by omega), show (0 : Int) + 1 = 1 from rfl, e1, name_Check_ok _ h.id]
    cases nameB x.1 <;> simp
  refine V.elem_CheckEdge.of _ ?_
  unfold F.elem_CheckEdge.B
  exact e0
theorem refEdge_ok (x : TEdge) (h : okEdge x) : V.pleachref25_Edge x = some (edgeN x) := by
  refine V.pleachref25_Edge.of _ ?_
  unfold F.pleachref25_Edge.B edgeN
  rw [refIs_ok _ h.id, Option.bind_some, refIs_ok _ h.fr, refIs_ok _ h.to, refRest_ok _ _ h.la h.pr]
  cases nameB x.1 <;> cases nameB x.2.1 <;> cases nameB x.2.2.1 <;> simp

end Go.Proofs.Ytdblhdpnllckhaa.AE
end
section
set_option linter.unusedVariables false
set_option linter.unusedSimpArgs false
namespace Go.Proofs.Ytdblhdpnllckhaa.AE
open Go

instance decValue : DecidableEq TValue := instDecidableEqProd
instance decProp : DecidableEq TProp := instDecidableEqProd
instance decNode : DecidableEq TNode := instDecidableEqProd
instance decEdge1 : DecidableEq (ByteArray × TNode) := instDecidableEqProd
instance decEdge : DecidableEq TEdge := instDecidableEqProd
instance decGraph : DecidableEq TGraph := instDecidableEqProd
end Go.Proofs.Ytdblhdpnllckhaa.AE
end
section
set_option linter.unusedVariables false
set_option linter.unusedSimpArgs false
set_option maxRecDepth 20000
namespace Go.Proofs.Ytdblhdpnllckhaa.AE
open Go

theorem half_nat {lo hi n : Nat} (h : lo < hi) (hn : hi ≤ n) (hb : n ≤ 70368744177616) : w64 (Int.fdiv (IntKind.wrap .u64 (w64 ((lo : Int) + (hi : Int)))) (2 ^ 1)) = (((lo + hi) / 2 : Nat) : Int) := by
  rw [w64_id (x := (lo : Int) + hi) (by omega) (by omega), u64_id (by omega) (by omega), Int.fdiv_eq_ediv_of_nonneg _ (by omega), w64_id (by omega) (by omega)]
  omega

/-- Texts that rise. -/
def Up (ks : List ByteArray) : Prop := ks.Pairwise fun a b => strLt a b = true
/-- How many of them stand ahead of one. -/
def lb (ks : List ByteArray) (x : ByteArray) : Nat := ks.findIdx fun k => !strLt k x

theorem Up.lt {ks : List ByteArray} (hu : Up ks) {i j : Nat} (h : i < j) (hj : j < ks.length) : strLt (ks[i]'(by omega)) ks[j] = true := List.pairwise_iff_getElem.1 hu i j (by omega) hj h
theorem lb_le (ks : List ByteArray) (x : ByteArray) : lb ks x ≤ ks.length := List.findIdx_le_length
theorem lb_lt {ks : List ByteArray} (hu : Up ks) (x : ByteArray) {i : Nat} (hi : i < ks.length) : strLt ks[i] x = true ↔ i < lb ks x := by
  constructor
  · intro h
    refine Nat.lt_of_not_le fun hle => ?_
    have h1 : lb ks x < ks.length := by omega
    have h2 : (!strLt ks[lb ks x] x) = true := List.findIdx_getElem (w := h1)
    rcases Nat.eq_or_lt_of_le hle with e | e
    · have : strLt ks[lb ks x] x = true := by simp only [e]; exact h
      rw [this] at h2; cases h2
    · have := lt_trans (hu.lt e hi) h
      rw [this] at h2; cases h2
  · intro h
    have := List.not_of_lt_findIdx h
    simpa using this
/-- One of rising texts is met where as many as stand ahead of it have gone by. -/
theorem met_iff {ks : List ByteArray} (hu : Up ks) (x : ByteArray) : x ∈ ks ↔ ∃ h : lb ks x < ks.length, ks[lb ks x] = x := by
  constructor
  · intro h
    obtain ⟨i, hi, e⟩ := List.getElem_of_mem h
    have h1 : ¬ i < lb ks x := fun g => by
      have := (lb_lt hu x hi).2 g
      rw [e, lt_irr] at this; cases this
    have h2 : ¬ lb ks x < i := fun g => by
      have := hu.lt g hi
      rw [e] at this
      have := (lb_lt hu x (by omega)).1 this
      omega
    have h3 : lb ks x = i := by omega
    exact ⟨by omega, by simp only [h3]; exact e⟩
  · rintro ⟨h, e⟩
    exact e ▸ List.getElem_mem h

def has (ks : List ByteArray) (x : ByteArray) : Bool := ks.any fun k => strEq k x
theorem has_iff {ks : List ByteArray} {x : ByteArray} : has ks x = true ↔ x ∈ ks := by
  unfold has
  rw [List.any_eq_true]
  exact ⟨fun ⟨k, h, e⟩ => strEq_iff.1 e ▸ h, fun h => ⟨x, h, strEq_self x⟩⟩

theorem search_gen {ks : List ByteArray} {x : ByteArray} (hu : Up ks) (S : Int → Int → Option (Int × Bool))
    (h1 : ∀ (lo hi : Nat) r, (h : lo < hi) → (hh : hi ≤ ks.length) → (if strLt (ks[(lo + hi) / 2]'(by omega)) x = true then S (((lo + hi) / 2 + 1 : Nat) : Int) (hi : Int) else S (lo : Int) (((lo + hi) / 2 : Nat) : Int)) = some r → S (lo : Int) (hi : Int) = some r)
    (h2 : ∀ lo : Nat, lo ≤ ks.length → S (lo : Int) (lo : Int) = some ((lo : Int), decide (ks[lo]? = some x))) :
    S 0 (ks.length : Int) = some ((lb ks x : Int), has ks x) := by
  have main : ∀ d lo hi : Nat, hi - lo ≤ d → lo ≤ lb ks x → lb ks x ≤ hi → hi ≤ ks.length → S (lo : Int) (hi : Int) = some ((lb ks x : Int), has ks x) := by
    intro d
    induction d with
    | zero =>
      intro lo hi h a b c
      have e1 : lo = lb ks x := by omega
      have e2 : hi = lb ks x := by omega
      subst e1; rw [e2]
      rw [h2 _ (lb_le ks x)]
      congr 2
      rw [Bool.eq_iff_iff, decide_eq_true_iff, has_iff, met_iff hu x, List.getElem?_eq_some_iff]
    | succ d ih =>
      intro lo hi h a b c
      rcases Nat.lt_or_ge lo hi with hl | hl
      · refine h1 lo hi _ hl c ?_
        split
        · rename_i g
          exact ih _ _ (by omega) ((lb_lt hu x (by omega)).1 g) b c
        · rename_i g
          exact ih _ _ (by omega) a (by have := mt (lb_lt hu x (by omega)).2 g; omega) (by omega)
      · exact ih lo hi (by omega) a b c
  exact main ks.length 0 ks.length (by omega) (by omega) (lb_le ks x) (Nat.le_refl _)

theorem cmpCompareS_ok (a b : ByteArray) : V.cmp_Compare_string a b = some (cmpS a b) := by
  have nan : ∀ x : ByteArray, V.cmp_isNaN_string x = some false := fun x => V.cmp_isNaN_string.of x (by unfold F.cmp_isNaN_string.B; rw [strEq_self]; rfl)
  refine V.cmp_Compare_string.of a b ?_
  unfold F.cmp_Compare_string.B cmpS
  rw [nan, nan, Option.bind_some, Option.bind_some, lt_or]
  cases strLt a b <;> cases strLt b a <;> rfl
theorem cmpS_neg (a b : ByteArray) : decide (cmpS a b < 0) = strLt a b := by
  unfold cmpS
  cases strLt a b <;> cases strLt b a <;> rfl
theorem cmpS_zero (a b : ByteArray) : (cmpS a b == 0) = decide (a = b) := by
  by_cases h : a = b
  · subst h; simp [cmpS, lt_irr]
  · unfold cmpS
    cases h1 : strLt a b with
    | true => simp [h]
    | false => simp [lt_total h1 h, h]

abbrev ids (l : List TNode) : List ByteArray := l.map fun n => n.1
abbrev eids (l : List TEdge) : List ByteArray := l.map fun x => x.1
theorem ids_get {l : List TNode} {i : Nat} (h : i < l.length) : (rd sNode l i).1 = (ids l)[i]'(by simpa using h) := by rw [rd_get (e := sNode) h, List.getElem_map]
theorem eids_get {l : List TEdge} {i : Nat} (h : i < l.length) : (rd sEdge l i).1 = (eids l)[i]'(by simpa using h) := by rw [rd_get (e := sEdge) h, List.getElem_map]

end Go.Proofs.Ytdblhdpnllckhaa.AE
end
section
set_option linter.unusedVariables false
set_option linter.unusedSimpArgs false
set_option maxRecDepth 20000
namespace Go.Proofs.Ytdblhdpnllckhaa.AE
open Go

theorem node1_ok (n : TNode) (x : ByteArray) : V.graph_node_1 n x = some (cmpS n.1 x) := by
  refine V.graph_node_1.of _ _ ?_
  unfold F.graph_node_1.B
  rw [cmpCompareS_ok, Option.bind_some]
theorem searchN_ok (l : List TNode) (x : ByteArray) (hu : Up (ids l)) (hb : l.length ≤ 70368744177616) : V.slices_BinarySearchFunc_apiNodeapiNodestring_by_graph_node_1 l x = some ((lb (ids l) x : Int), has (ids l) x) := by
  refine V.slices_BinarySearchFunc_apiNodeapiNodestring_by_graph_node_1.of _ _ ?_
  unfold F.slices_BinarySearchFunc_apiNodeapiNodestring_by_graph_node_1.B
  have hl : (ids l).length = l.length := by simp
  rw [show (l.length : Int) = ((ids l).length : Int) by simp]
  refine search_gen hu (V.slices_BinarySearchFunc_apiNodeapiNodestring_by_graph_node_1.l11100 l x) (fun lo hi r h hh hr => ?_) (fun lo hlo => ?_)
  · refine V.slices_BinarySearchFunc_apiNodeapiNodestring_by_graph_node_1.l11100.of _ _ _ _ ?_
    unfold F.slices_BinarySearchFunc_apiNodeapiNodestring_by_graph_node_1.l11100.B
    rw [if_in h, half_nat h (by omega) hb, guard_in (by omega), nat_cast, node1_ok, Option.bind_some, cmpS_neg, w64_up (n := l.length) (by omega) (by omega)]
    show (bif strLt (rd sNode l ((lo + hi) / 2)).1 x then _ else _) = _
    rw [ids_get (by omega), ← hr]
    cases strLt ((ids l)[(lo + hi) / 2]'(by omega)) x <;> rfl
  · refine V.slices_BinarySearchFunc_apiNodeapiNodestring_by_graph_node_1.l11100.of _ _ _ _ ?_
    unfold F.slices_BinarySearchFunc_apiNodeapiNodestring_by_graph_node_1.l11100.B
    rw [if_no (by omega)]
    rcases Nat.lt_or_ge lo l.length with h | h
    · rw [if_in h, guard_in h, nat_cast, node1_ok, Option.bind_some, cmpS_zero]
      show some ((lo : Int), decide ((rd sNode l lo).1 = x)) = _
      rw [ids_get h, List.getElem?_eq_getElem (by omega)]
      simp
    · rw [if_out h, List.getElem?_eq_none (by omega)]; simp
theorem node_ok (g : TGraph) (x : ByteArray) (hu : Up (ids g.1)) (hb : g.1.length ≤ 70368744177616) : V.graph_node g x = some ((lb (ids g.1) x : Int), has (ids g.1) x) := by
  refine V.graph_node.of _ _ ?_
  unfold F.graph_node.B
  rw [searchN_ok _ _ hu hb, Option.bind_some]
/-- Where an Id is first met, as a number. -/
def atI (ks : List ByteArray) (x : ByteArray) : Int := if has ks x then (ks.findIdx (fun k => strEq k x) : Int) else -1
theorem atI_neg (ks : List ByteArray) (x : ByteArray) : decide (atI ks x < 0) = !has ks x := by
  unfold atI; split <;> rename_i h <;> simp [h]
theorem atI_step {ks : List ByteArray} {x : ByteArray} {i : Nat} (hi : i < ks.length) (h : ∀ j (hj : j < ks.length), j < i → ks[j] ≠ x) : atI ks x = if strEq ks[i] x then (i : Int) else atI ks x := by
  split
  · rename_i e
    have e := strEq_iff.1 e
    have hm : x ∈ ks := e ▸ List.getElem_mem hi
    unfold atI
    rw [if_pos (has_iff.2 hm)]
    have : ks.findIdx (fun k => strEq k x) = i := by
      rw [List.findIdx_eq hi]
      exact ⟨by rw [e, strEq_self], fun j hj => strEq_no (h j (by omega) hj)⟩
    omega
  · rfl
theorem atI_none {ks : List ByteArray} {x : ByteArray} (h : ∀ j (hj : j < ks.length), ks[j] ≠ x) : atI ks x = -1 := by
  unfold atI
  rw [if_neg fun hm => by
    obtain ⟨i, hi, e⟩ := List.getElem_of_mem (has_iff.1 hm)
    exact h i hi e]
theorem NodeAt_l (g : TGraph) (x : ByteArray) (hs : g.1.length ≤ 140737488351232) : ∀ d i : Nat, i + d = g.1.length → (∀ j (hj : j < (ids g.1).length), j < i → (ids g.1)[j] ≠ x) → V.pleachref26_NodeAt.l1010 g x (i : Int) = some (atI (ids g.1) x)
  | 0, i, h, hn => by
    refine V.pleachref26_NodeAt.l1010.of _ _ _ ?_
    unfold F.pleachref26_NodeAt.l1010.B
    rw [if_out (by omega), atI_none fun j hj => hn j hj (by simp at hj; omega)]
  | d + 1, i, h, hn => by
    have hi : i < g.1.length := by omega
    refine V.pleachref26_NodeAt.l1010.of _ _ _ ?_
    unfold F.pleachref26_NodeAt.l1010.B
    rw [if_in hi, guard_in hi, nat_cast, w64_up hi hs, ids_get hi, atI_step (ks := ids g.1) (i := i) (by simpa using hi) hn]
    cases hc : strEq ((ids g.1)[i]'(by simpa using hi)) x with
    | true => rfl
    | false =>
      refine NodeAt_l g x hs d (i + 1) (by omega) fun j hj g1 e => ?_
      rcases Nat.lt_or_ge j i with g2 | g2
      · exact hn j hj g2 e
      · have : j = i := by omega
        subst this
        rw [e, strEq_self] at hc; cases hc
theorem NodeAt_ok (g : TGraph) (x : ByteArray) (hs : g.1.length ≤ 140737488351232) : V.pleachref26_NodeAt g x = some (atI (ids g.1) x) := by
  refine V.pleachref26_NodeAt.of _ _ ?_
  unfold F.pleachref26_NodeAt.B
  exact NodeAt_l g x hs g.1.length 0 (by omega) fun j hj h => by omega

end Go.Proofs.Ytdblhdpnllckhaa.AE
end
section
set_option linter.unusedVariables false
set_option linter.unusedSimpArgs false
set_option maxRecDepth 20000
namespace Go.Proofs.Ytdblhdpnllckhaa.AE
open Go

/-- A graph of sizes that fit. -/
structure okGraph (g : TGraph) : Prop where
  ns : g.1.length ≤ 70368744177616
  es : g.2.length ≤ 70368744177616
  n : ∀ n ∈ g.1, okNode n
  e : ∀ x ∈ g.2, okEdge x

def nodeStep (l : List TNode) (i : Nat) : Option Int :=
  if nodeN (rd sNode l i) ≠ 0 then some (nodeN (rd sNode l i)) else if 0 < i ∧ strLt (rd sNode l (i - 1)).1 (rd sNode l i).1 = false then some 4 else none
def edgeStep (ks : List ByteArray) (l : List TEdge) (i : Nat) : Option Int :=
  if edgeN (rd sEdge l i) ≠ 0 then some (edgeN (rd sEdge l i)) else if 0 < i ∧ strLt (rd sEdge l (i - 1)).1 (rd sEdge l i).1 = false then some 4
  else if has ks (rd sEdge l i).2.1 = true ∧ has ks (rd sEdge l i).2.2.1 = true then none else some 9
def edgesN (g : TGraph) : Int := scanI (edgeStep (ids g.1) g.2) g.2.length 0
def wrongN (g : TGraph) : Int := if g.1.length > 500 then 5 else if g.2.length > 1000 then 5 else scanG (nodeStep g.1) (edgesN g) g.1.length 0

theorem up_of {ks : List ByteArray} (h : ∀ i (hi : i < ks.length), 0 < i → strLt (ks[i - 1]'(by omega)) ks[i] = true) : Up ks := by
  refine List.pairwise_iff_getElem.2 fun i j hi hj hij => ?_
  have main : ∀ d j (hj : j < ks.length), j = i + 1 + d → strLt ks[i] ks[j] = true := by
    intro d
    induction d with
    | zero =>
      intro j hj e
      have := h j hj (by omega)
      simpa [e] using this
    | succ d ih =>
      intro j hj e
      have h1 := ih (j - 1) (by omega) (by omega)
      exact lt_trans h1 (h j hj (by omega))
  exact main (j - (i + 1)) j hj (by omega)
theorem nodeStep_none {l : List TNode} {i : Nat} (h : nodeStep l i = none) : nodeN (rd sNode l i) = 0 ∧ (0 < i → strLt (rd sNode l (i - 1)).1 (rd sNode l i).1 = true) := by
  unfold nodeStep at h
  split at h
  · cases h
  · rename_i h0
    split at h
    · cases h
    · rename_i h1
      exact ⟨by simpa using h0, fun hp => by cases hl : strLt (rd sNode l (i - 1)).1 (rd sNode l i).1 with | true => rfl | false => exact absurd ⟨hp, hl⟩ h1⟩
theorem edgeStep_none {ks : List ByteArray} {l : List TEdge} {i : Nat} (h : edgeStep ks l i = none) : edgeN (rd sEdge l i) = 0 ∧ (0 < i → strLt (rd sEdge l (i - 1)).1 (rd sEdge l i).1 = true) ∧ has ks (rd sEdge l i).2.1 = true ∧ has ks (rd sEdge l i).2.2.1 = true := by
  unfold edgeStep at h
  split at h
  · cases h
  · rename_i h0
    split at h
    · cases h
    · rename_i h1
      split at h
      · rename_i h2
        exact ⟨by simpa using h0, fun hp => by cases hl : strLt (rd sEdge l (i - 1)).1 (rd sEdge l i).1 with | true => rfl | false => exact absurd ⟨hp, hl⟩ h1, h2⟩
      · cases h
theorem up_nodes {l : List TNode} (h : ∀ j, j < l.length → nodeStep l j = none) : Up (ids l) := by
  refine up_of fun i hi hp => ?_
  have hi' : i < l.length := by simpa using hi
  have := (nodeStep_none (h i hi')).2 hp
  rw [ids_get (by omega : i - 1 < l.length), ids_get hi'] at this
  exact this
theorem up_edges {ks : List ByteArray} {l : List TEdge} (h : ∀ j, j < l.length → edgeStep ks l j = none) : Up (eids l) := by
  refine up_of fun i hi hp => ?_
  have hi' : i < l.length := by simpa using hi
  have := (edgeStep_none (h i hi')).2.1 hp
  rw [eids_get (by omega : i - 1 < l.length), eids_get hi'] at this
  exact this

theorem Check_l1 (g : TGraph) (hok : okGraph g) (hu : Up (ids g.1)) : ∀ d i : Nat, i + d = g.2.length → V.graph_Check.l111010 g (i : Int) = some (scanI (edgeStep (ids g.1) g.2) d i)
  | 0, i, h => by
    refine V.graph_Check.l111010.of _ _ ?_
    unfold F.graph_Check.l111010.B
    rw [if_out (by omega)]
    rfl
  | d + 1, i, h => by
    have hi : i < g.2.length := by omega
    have hs : g.2.length ≤ 140737488351232 := by have := hok.es; omega
    have ih := Check_l1 g hok hu d (i + 1) (by omega)
    have e := CheckEdge_ok _ (hok.e _ (rd_mem (e := sEdge) hi))
    have nd : ∀ x, V.graph_node (g.1, g.2) x = some ((lb (ids g.1) x : Int), has (ids g.1) x) := fun x => node_ok g x hu hok.ns
    refine V.graph_Check.l111010.of _ _ ?_
    unfold F.graph_Check.l111010.B
    rw [if_in hi, guard_in hi, nat_cast, e, Option.bind_some, scanI_succ]
    simp only [nd, Option.bind_some, w64_up hi hs, ih]
    unfold edgeStep
    generalize scanI _ d (i + 1) = q
    by_cases hp : 0 < i
    · rw [if_yes (by omega : (i : Int) > 0), w64_dn hi hs hp, guard_in (by omega : i - 1 < g.2.length), nat_cast]
      generalize rd sEdge g.2 i = x
      generalize rd sEdge g.2 (i - 1) = y
      by_cases h0 : edgeN x = 0
      · cases hl : strLt y.1 x.1 <;> cases m1 : has (ids g.1) x.2.1 <;> cases m2 : has (ids g.1) x.2.2.1 <;> simp [h0, hp, hl, m1, m2]
      · simp [h0, Bool.cond_eq_ite]
    · rw [if_no (by omega : ¬ (i : Int) > 0)]
      generalize rd sEdge g.2 i = x
      by_cases h0 : edgeN x = 0
      · cases m1 : has (ids g.1) x.2.1 <;> cases m2 : has (ids g.1) x.2.2.1 <;> simp [h0, hp, m1, m2]
      · simp [h0, Bool.cond_eq_ite]
theorem Check_l0 (g : TGraph) (hok : okGraph g) : ∀ d i : Nat, i + d = g.1.length → (∀ j, j < i → nodeStep g.1 j = none) → V.graph_Check.l11010 g (i : Int) = some (scanG (nodeStep g.1) (edgesN g) d i)
  | 0, i, h, hn => by
    refine V.graph_Check.l11010.of _ _ ?_
    unfold F.graph_Check.l11010.B
    rw [if_out (by omega)]
    exact Check_l1 g hok (up_nodes fun j hj => hn j (by omega)) g.2.length 0 (by omega)
  | d + 1, i, h, hn => by
    have hi : i < g.1.length := by omega
    have hs : g.1.length ≤ 140737488351232 := by have := hok.ns; omega
    have e := CheckNode_ok _ (hok.n _ (rd_mem (e := sNode) hi))
    refine V.graph_Check.l11010.of _ _ ?_
    unfold F.graph_Check.l11010.B
    rw [if_in hi, guard_in hi, nat_cast, e, Option.bind_some, scanG_succ]
    have ih : nodeStep g.1 i = none → V.graph_Check.l11010 g (((i + 1 : Nat)) : Int) = some (scanG (nodeStep g.1) (edgesN g) d (i + 1)) := fun hh => Check_l0 g hok d (i + 1) (by omega) fun j hj => by
      rcases Nat.lt_or_ge j i with g1 | g1
      · exact hn j g1
      · rw [show j = i by omega]; exact hh
    rw [w64_up hi hs]
    unfold nodeStep at ih ⊢
    generalize scanG _ _ d (i + 1) = q at ih ⊢
    by_cases hp : 0 < i
    · rw [if_yes (by omega : (i : Int) > 0), w64_dn hi hs hp, guard_in (by omega : i - 1 < g.1.length), nat_cast]
      generalize rd sNode g.1 i = x at ih ⊢
      generalize rd sNode g.1 (i - 1) = y at ih ⊢
      by_cases h0 : nodeN x = 0
      · cases hl : strLt y.1 x.1
        · simp [h0, hp, hl]
        · rw [ih (by simp [h0, hp, hl])]; simp [h0, hp, hl]
      · simp [h0, Bool.cond_eq_ite]
    · rw [if_no (by omega : ¬ (i : Int) > 0)]
      generalize rd sNode g.1 i = x at ih ⊢
      by_cases h0 : nodeN x = 0
      · rw [ih (by simp [h0, hp])]; simp [h0, hp]
      · simp [h0, Bool.cond_eq_ite]
theorem Check_ok (g : TGraph) (hok : okGraph g) : V.graph_Check g = some (wrongN g) := by
  refine V.graph_Check.of _ ?_
  unfold F.graph_Check.B wrongN
  by_cases h1 : g.1.length > 500
  · rw [if_yes (by omega), if_pos h1]
  · rw [if_no (by omega), if_neg h1]
    by_cases h2 : g.2.length > 1000
    · rw [if_yes (by omega), if_pos h2]
    · rw [if_no (by omega), if_neg h2]
      exact Check_l0 g hok g.1.length 0 (by omega) fun j hj => by omega

theorem Wrong_l1 (g : TGraph) (hok : okGraph g) : ∀ d i : Nat, i + d = g.2.length → V.pleachref26_Wrong.l111010 g (i : Int) = some (scanI (edgeStep (ids g.1) g.2) d i)
  | 0, i, h => by
    refine V.pleachref26_Wrong.l111010.of _ _ ?_
    unfold F.pleachref26_Wrong.l111010.B
    rw [if_out (by omega)]
    rfl
  | d + 1, i, h => by
    have hi : i < g.2.length := by omega
    have hs : g.2.length ≤ 140737488351232 := by have := hok.es; omega
    have ih := Wrong_l1 g hok d (i + 1) (by omega)
    have e := refEdge_ok _ (hok.e _ (rd_mem (e := sEdge) hi))
    have nd : ∀ x, V.pleachref26_NodeAt (g.1, g.2) x = some (atI (ids g.1) x) := fun x => NodeAt_ok g x (by have := hok.ns; omega)
    refine V.pleachref26_Wrong.l111010.of _ _ ?_
    unfold F.pleachref26_Wrong.l111010.B
    rw [if_in hi, guard_in hi, nat_cast, e, Option.bind_some, scanI_succ]
    simp only [nd, Option.bind_some, w64_up hi hs, ih, atI_neg, lt_or]
    unfold edgeStep
    generalize scanI _ d (i + 1) = q
    by_cases hp : 0 < i
    · rw [if_yes (by omega : (i : Int) > 0), w64_dn hi hs hp, guard_in (by omega : i - 1 < g.2.length), nat_cast]
      generalize rd sEdge g.2 i = x
      generalize rd sEdge g.2 (i - 1) = y
      by_cases h0 : edgeN x = 0
      · cases hl : strLt y.1 x.1 <;> cases m1 : has (ids g.1) x.2.1 <;> cases m2 : has (ids g.1) x.2.2.1 <;> simp [h0, hp, hl, m1, m2]
      · simp [h0, Bool.cond_eq_ite]
    · rw [if_no (by omega : ¬ (i : Int) > 0)]
      generalize rd sEdge g.2 i = x
      by_cases h0 : edgeN x = 0
      · cases m1 : has (ids g.1) x.2.1 <;> cases m2 : has (ids g.1) x.2.2.1 <;> simp [h0, hp, m1, m2]
      · simp [h0, Bool.cond_eq_ite]
theorem Wrong_l0 (g : TGraph) (hok : okGraph g) : ∀ d i : Nat, i + d = g.1.length → V.pleachref26_Wrong.l11010 g (i : Int) = some (scanG (nodeStep g.1) (edgesN g) d i)
  | 0, i, h => by
    refine V.pleachref26_Wrong.l11010.of _ _ ?_
    unfold F.pleachref26_Wrong.l11010.B
    rw [if_out (by omega)]
    exact Wrong_l1 g hok g.2.length 0 (by omega)
  | d + 1, i, h => by
    have hi : i < g.1.length := by omega
    have hs : g.1.length ≤ 140737488351232 := by have := hok.ns; omega
    have e := refNode_ok _ (hok.n _ (rd_mem (e := sNode) hi))
    have ih := Wrong_l0 g hok d (i + 1) (by omega)
    refine V.pleachref26_Wrong.l11010.of _ _ ?_
    unfold F.pleachref26_Wrong.l11010.B
    rw [if_in hi, guard_in hi, nat_cast, e, Option.bind_some, scanG_succ, w64_up hi hs, ih]
    simp only [lt_or]
    unfold nodeStep
    generalize scanG _ _ d (i + 1) = q
    by_cases hp : 0 < i
    · rw [if_yes (by omega : (i : Int) > 0), guard_in hi, w64_dn hi hs hp, guard_in (by omega : i - 1 < g.1.length), nat_cast]
      generalize rd sNode g.1 i = x
      generalize rd sNode g.1 (i - 1) = y
      by_cases h0 : nodeN x = 0
      · cases hl : strLt y.1 x.1 <;> simp [h0, hp, hl]
      · simp [h0, Bool.cond_eq_ite]
    · rw [if_no (by omega : ¬ (i : Int) > 0)]
      generalize rd sNode g.1 i = x
      by_cases h0 : nodeN x = 0 <;> simp [h0, hp, Bool.cond_eq_ite]
theorem Wrong_ok (g : TGraph) (hok : okGraph g) : V.pleachref26_Wrong g = some (wrongN g) := by
  refine V.pleachref26_Wrong.of _ ?_
  unfold F.pleachref26_Wrong.B wrongN
  by_cases h1 : g.1.length > 500
  · rw [if_yes (by omega), if_pos h1]
  · rw [if_no (by omega), if_neg h1]
    by_cases h2 : g.2.length > 1000
    · rw [if_yes (by omega), if_pos h2]
    · rw [if_no (by omega), if_neg h2]
      exact Wrong_l0 g hok g.1.length 0 (by omega)

/-- What is told of a graph that may be. -/
structure Good26 (g : TGraph) : Prop where
  ns : g.1.length ≤ 500
  es : g.2.length ≤ 1000
  nodes : ∀ n ∈ g.1, nodeN n = 0
  edges : ∀ x ∈ g.2, edgeN x = 0
  nup : Up (ids g.1)
  eup : Up (eids g.2)
  fr : ∀ x ∈ g.2, x.2.1 ∈ ids g.1
  to : ∀ x ∈ g.2, x.2.2.1 ∈ ids g.1

end Go.Proofs.Ytdblhdpnllckhaa.AE
end
section
set_option linter.unusedVariables false
set_option linter.unusedSimpArgs false
set_option maxRecDepth 20000
namespace Go.Proofs.Ytdblhdpnllckhaa.AE
open Go

def cut5 (s : ByteArray) : Int := if 5000 < (s.size : Int) then 5000 else (s.size : Int)
theorem cut5_in (s : ByteArray) : 0 ≤ cut5 s ∧ cut5 s ≤ 5000 := by unfold cut5; split <;> omega

theorem weight_l1 (a : List ByteArray) (b : List TProp) (hb : b.length ≤ 20) : ∀ (d i : Nat) (x : Int), i + d = b.length → 0 ≤ x → x ≤ 100000 + 10000 * i → ∃ r, V.pleachref26_weight.l1111010 a b x (i : Int) = some r ∧ 0 ≤ r ∧ r ≤ 300000
  | 0, i, x, h, h0, h1 => by
    refine ⟨x, ?_, h0, by omega⟩
    refine V.pleachref26_weight.l1111010.of _ _ _ _ ?_
    unfold F.pleachref26_weight.l1111010.B
    rw [if_out (by omega)]
  | d + 1, i, x, h, h0, h1 => by
    have hi : i < b.length := by omega
    have c1 := cut5_in (rd sProp b i).1
    have c2 := cut5_in (rd sProp b i).2.2.2
    obtain ⟨r, hr, g⟩ := weight_l1 a b hb d (i + 1) (x + cut5 (rd sProp b i).1 + cut5 (rd sProp b i).2.2.2) (by omega) (by omega) (by omega)
    refine ⟨r, ?_, g⟩
    refine V.pleachref26_weight.l1111010.of _ _ _ _ ?_
    unfold F.pleachref26_weight.l1111010.B
    rw [if_in hi, guard_in hi, guard_in hi, nat_cast, w64_up (n := b.length) hi (by omega)]
    show V.pleachref26_weight.l1111010 a b (w64 (w64 (x + cut5 (rd sProp b i).1) + cut5 (rd sProp b i).2.2.2)) _ = _
    rw [w64_id (x := x + cut5 (rd sProp b i).1) (by omega) (by omega), w64_id (by omega) (by omega)]
    exact hr
theorem weight_l0 (a : List ByteArray) (b : List TProp) (ha : a.length ≤ 20) (hb : b.length ≤ 20) : ∀ (d i : Nat) (x : Int), i + d = a.length → 0 ≤ x → x ≤ 5000 * i → ∃ r, V.pleachref26_weight.l111010 a b x (i : Int) = some r ∧ 0 ≤ r ∧ r ≤ 300000
  | 0, i, x, h, h0, h1 => by
    obtain ⟨r, hr, g⟩ := weight_l1 a b hb b.length 0 x (by omega) h0 (by omega)
    refine ⟨r, ?_, g⟩
    refine V.pleachref26_weight.l111010.of _ _ _ _ ?_
    unfold F.pleachref26_weight.l111010.B
    rw [if_out (by omega)]
    exact hr
  | d + 1, i, x, h, h0, h1 => by
    have hi : i < a.length := by omega
    have c1 := cut5_in (rd .str a i)
    obtain ⟨r, hr, g⟩ := weight_l0 a b ha hb d (i + 1) (x + cut5 (rd .str a i)) (by omega) (by omega) (by omega)
    refine ⟨r, ?_, g⟩
    refine V.pleachref26_weight.l111010.of _ _ _ _ ?_
    unfold F.pleachref26_weight.l111010.B
    rw [if_in hi, guard_in hi, nat_cast, w64_up (n := a.length) hi (by omega)]
    show V.pleachref26_weight.l111010 a b (w64 (x + cut5 (rd .str a i))) _ = _
    rw [w64_id (by omega) (by omega)]
    exact hr
theorem weight_ok (a : List ByteArray) (b : List TProp) : ∃ r, V.pleachref26_weight a b = some r ∧ 0 ≤ r ∧ r ≤ 300000 ∧ (r ≤ 5000 → a.length ≤ 20 ∧ b.length ≤ 20) := by
  by_cases ha : a.length > 20
  · refine ⟨100000, V.pleachref26_weight.of _ _ ?_, by omega, by omega, by omega⟩
    unfold F.pleachref26_weight.B
    rw [if_yes (by omega)]
  · by_cases hb : b.length > 20
    · refine ⟨100000, V.pleachref26_weight.of _ _ ?_, by omega, by omega, by omega⟩
      unfold F.pleachref26_weight.B
      rw [if_no (by omega), if_yes (by omega)]
    · obtain ⟨r, hr, h0, h1⟩ := weight_l0 a b (by omega) (by omega) a.length 0 0 (by omega) (by omega) (by omega)
      refine ⟨r, V.pleachref26_weight.of _ _ ?_, h0, h1, fun _ => ⟨by omega, by omega⟩⟩
      unfold F.pleachref26_weight.B
      rw [if_no (by omega), if_no (by omega)]
      exact hr

structure Slim (g : TGraph) : Prop where
  ns : g.1.length ≤ 40
  es : g.2.length ≤ 60
  n : ∀ n ∈ g.1, n.2.1.length ≤ 20 ∧ n.2.2.length ≤ 20
  e : ∀ x ∈ g.2, x.2.2.2.1.length ≤ 20 ∧ x.2.2.2.2.length ≤ 20

theorem Few_l1 (g : TGraph) (hs : g.2.length ≤ 60) : ∀ (d i : Nat) (x : Int), i + d = g.2.length → 0 ≤ x → x ≤ 40000000 + 400000 * i → ∃ b, V.pleachref26_Few.l1111010 g x (i : Int) = some b ∧ (b = true → x ≤ 5000 ∧ ∀ j, i ≤ j → j < g.2.length → (rd sEdge g.2 j).2.2.2.1.length ≤ 20 ∧ (rd sEdge g.2 j).2.2.2.2.length ≤ 20)
  | 0, i, x, h, h0, h1 => by
    refine ⟨decide (x ≤ 5000), ?_, fun hb => ⟨by simpa using hb, fun j g1 g2 => by omega⟩⟩
    refine V.pleachref26_Few.l1111010.of _ _ _ ?_
    unfold F.pleachref26_Few.l1111010.B
    rw [if_out (by omega)]
  | d + 1, i, x, h, h0, h1 => by
    have hi : i < g.2.length := by omega
    obtain ⟨w, hw, w0, w1, w2⟩ := weight_ok (rd sEdge g.2 i).2.2.2.1 (rd sEdge g.2 i).2.2.2.2
    have c1 := cut5_in (rd sEdge g.2 i).1
    have c2 := cut5_in (rd sEdge g.2 i).2.1
    have c3 := cut5_in (rd sEdge g.2 i).2.2.1
    obtain ⟨b, hb, g⟩ := Few_l1 g hs d (i + 1) (x + cut5 (rd sEdge g.2 i).1 + cut5 (rd sEdge g.2 i).2.1 + cut5 (rd sEdge g.2 i).2.2.1 + w) (by omega) (by omega) (by omega)
    refine ⟨b, ?_, fun ht => ⟨by have := (g ht).1; omega, fun j g1 g2 => ?_⟩⟩
    · refine V.pleachref26_Few.l1111010.of _ _ _ ?_
      unfold F.pleachref26_Few.l1111010.B
      rw [if_in hi, guard_in hi, nat_cast, w64_up (n := 60) (by omega) (by omega), hw, Option.bind_some]
      show V.pleachref26_Few.l1111010 _ (w64 (w64 (w64 (w64 (x + cut5 (rd sEdge _ i).1) + cut5 (rd sEdge _ i).2.1) + cut5 (rd sEdge _ i).2.2.1) + w)) _ = _
      rw [w64_id (x := x + cut5 (rd sEdge _ i).1) (by omega) (by omega), w64_id (x := x + cut5 (rd sEdge _ i).1 + cut5 (rd sEdge _ i).2.1) (by omega) (by omega), w64_id (x := x + cut5 (rd sEdge _ i).1 + cut5 (rd sEdge _ i).2.1 + cut5 (rd sEdge _ i).2.2.1) (by omega) (by omega), w64_id (by omega) (by omega)]
      exact hb
    · rcases Nat.eq_or_lt_of_le g1 with e | e
      · subst e; exact w2 (by have := (g ht).1; omega)
      · exact (g ht).2 j e g2
theorem Few_l0 (g : TGraph) (hn : g.1.length ≤ 40) (hs : g.2.length ≤ 60) : ∀ (d i : Nat) (x : Int), i + d = g.1.length → 0 ≤ x → x ≤ 400000 * i → ∃ b, V.pleachref26_Few.l111010 g x (i : Int) = some b ∧ (b = true → x ≤ 5000 ∧ (∀ j, i ≤ j → j < g.1.length → (rd sNode g.1 j).2.1.length ≤ 20 ∧ (rd sNode g.1 j).2.2.length ≤ 20) ∧ ∀ j, j < g.2.length → (rd sEdge g.2 j).2.2.2.1.length ≤ 20 ∧ (rd sEdge g.2 j).2.2.2.2.length ≤ 20)
  | 0, i, x, h, h0, h1 => by
    obtain ⟨b, hb, q⟩ := Few_l1 g hs g.2.length 0 x (by omega) h0 (by omega)
    refine ⟨b, ?_, fun ht => ⟨(q ht).1, fun j g1 g2 => by omega, fun j g2 => (q ht).2 j (by omega) g2⟩⟩
    refine V.pleachref26_Few.l111010.of _ _ _ ?_
    unfold F.pleachref26_Few.l111010.B
    rw [if_out (by omega)]
    exact hb
  | d + 1, i, x, h, h0, h1 => by
    have hi : i < g.1.length := by omega
    obtain ⟨w, hw, w0, w1, w2⟩ := weight_ok (rd sNode g.1 i).2.1 (rd sNode g.1 i).2.2
    have c1 := cut5_in (rd sNode g.1 i).1
    obtain ⟨b, hb, q⟩ := Few_l0 g hn hs d (i + 1) (x + cut5 (rd sNode g.1 i).1 + w) (by omega) (by omega) (by omega)
    refine ⟨b, ?_, fun ht => ⟨by have := (q ht).1; omega, fun j g1 g2 => ?_, (q ht).2.2⟩⟩
    · refine V.pleachref26_Few.l111010.of _ _ _ ?_
      unfold F.pleachref26_Few.l111010.B
      rw [if_in hi, guard_in hi, guard_in hi, guard_in hi, nat_cast, w64_up (n := 60) (by omega) (by omega), hw, Option.bind_some]
      show V.pleachref26_Few.l111010 _ (w64 (w64 (x + cut5 (rd sNode _ i).1) + w)) _ = _
      rw [w64_id (x := x + cut5 (rd sNode _ i).1) (by omega) (by omega), w64_id (by omega) (by omega)]
      exact hb
    · rcases Nat.eq_or_lt_of_le g1 with e | e
      · subst e; exact w2 (by have := (q ht).1; omega)
      · exact (q ht).2.1 j e g2
theorem Few_ok (g : TGraph) : ∃ b, V.pleachref26_Few g = some b ∧ (b = true → Slim g) := by
  by_cases h1 : g.1.length > 40
  · refine ⟨false, V.pleachref26_Few.of _ ?_, by simp⟩
    unfold F.pleachref26_Few.B
    rw [if_yes (by omega)]
  · by_cases h2 : g.2.length > 60
    · refine ⟨false, V.pleachref26_Few.of _ ?_, by simp⟩
      unfold F.pleachref26_Few.B
      rw [if_no (by omega), if_yes (by omega)]
    · obtain ⟨b, hb, q⟩ := Few_l0 g (by omega) (by omega) g.1.length 0 0 (by omega) (by omega) (by omega)
      refine ⟨b, V.pleachref26_Few.of _ ?_, fun ht => ⟨by omega, by omega, fun n hn => ?_, fun x hx => ?_⟩⟩
      · unfold F.pleachref26_Few.B
        rw [if_no (by omega), if_no (by omega)]
        exact hb
      · obtain ⟨i, hi, e⟩ := List.getElem_of_mem hn
        have := (q ht).2.1 i (by omega) hi
        rw [rd_get (e := sNode) hi, e] at this
        exact this
      · obtain ⟨i, hi, e⟩ := List.getElem_of_mem hx
        have := (q ht).2.2 i hi
        rw [rd_get (e := sEdge) hi, e] at this
        exact this

end Go.Proofs.Ytdblhdpnllckhaa.AE
end
section
set_option linter.unusedVariables false
set_option linter.unusedSimpArgs false
set_option maxRecDepth 20000
namespace Go.Proofs.Ytdblhdpnllckhaa.AE
open Go

/-! ### Copies -/

end Go.Proofs.Ytdblhdpnllckhaa.AE
end
section
set_option linter.unusedVariables false
set_option linter.unusedSimpArgs false
namespace Go.Proofs.Ytdblhdpnllckhaa.AE
open Go

theorem gd_len {e : Sh} {l : List (den e)} (h : Gd (.list e) l) (hb : 2 ≤ e.bytes) : l.length ≤ 70368744177616 := by
  have h1 := h.1
  have : l.length * 2 ≤ l.length * e.bytes := Nat.mul_le_mul_left _ hb
  omega
theorem gd_i64 {n : Int} (h : Gd (.int .i64) n) : -9223372036854775808 ≤ n ∧ n ≤ 9223372036854775807 := by
  have h6 : (decide (IntKind.min .i64 ≤ n) && decide (n ≤ IntKind.max .i64)) = true := h
  rw [Bool.and_eq_true, decide_eq_true_eq, decide_eq_true_eq, show IntKind.min .i64 = -9223372036854775808 by decide, show IntKind.max .i64 = 9223372036854775807 by decide] at h6
  exact h6
theorem gd_texts {l : List ByteArray} (h : Gd (.list .str) l) : okTexts l := ⟨by have := gd_len h (by decide); omega, fun s hs => h.2 s hs⟩
theorem gd_props {l : List TProp} (h : Gd (.list sProp) l) : okProps l := ⟨by have := gd_len h (by decide); omega, fun p hp => by
  obtain ⟨h1, h2, h3, h4⟩ := h.2 p hp
  have h5 := gd_i64 h3
  exact ⟨h1, h4, h5⟩⟩
theorem gd_node {n : TNode} (h : Gd sNode n) : okNode n := ⟨h.1, gd_texts h.2.1, gd_props h.2.2⟩
theorem gd_edge {x : TEdge} (h : Gd sEdge x) : okEdge x := ⟨h.1, h.2.1, h.2.2.1, gd_texts h.2.2.2.1, gd_props h.2.2.2.2⟩
theorem gd_graph {g : TGraph} (h : Gd sGraph g) : okGraph g := ⟨gd_len h.1 (by decide), gd_len h.2 (by decide), fun n hn => gd_node (h.1.2 n hn), fun x hx => gd_edge (h.2.2 x hx)⟩

end Go.Proofs.Ytdblhdpnllckhaa.AE
end
section
set_option linter.unusedVariables false
set_option linter.unusedSimpArgs false
set_option maxRecDepth 20000
namespace Go.Proofs.Ytdblhdpnllckhaa.AE
open Go

theorem scanG_zero {step : Nat → Option Int} {fin : Int} (hs : ∀ i r, step i = some r → r ≠ 0) : ∀ d i, scanG step fin d i = 0 → fin = 0 ∧ ∀ j, i ≤ j → j < i + d → step j = none
  | 0, i, h => ⟨h, fun j h1 h2 => by omega⟩
  | d + 1, i, h => by
    rw [scanG_succ] at h
    cases he : step i with
    | some r => rw [he] at h; exact absurd h (hs i r he)
    | none =>
      rw [he] at h
      obtain ⟨g1, g2⟩ := scanG_zero hs d (i + 1) h
      refine ⟨g1, fun j h1 h2 => ?_⟩
      rcases Nat.eq_or_lt_of_le h1 with e | e
      · exact e ▸ he
      · exact g2 j e (by omega)
theorem scanG_none {α : Type} {step : Nat → Option α} {fin : α} : ∀ d i, (∀ j, i ≤ j → j < i + d → step j = none) → scanG step fin d i = fin
  | 0, i, h => rfl
  | d + 1, i, h => by
    rw [scanG_succ, h i (Nat.le_refl _) (by omega)]
    exact scanG_none d (i + 1) fun j h1 h2 => h j (by omega) (by omega)
theorem nodeStep_ne {l : List TNode} (i : Nat) (r : Int) (h : nodeStep l i = some r) : r ≠ 0 := by
  unfold nodeStep at h
  split at h
  · rename_i h0; cases h; exact h0
  · split at h <;> cases h; decide
theorem edgeStep_ne {ks : List ByteArray} {l : List TEdge} (i : Nat) (r : Int) (h : edgeStep ks l i = some r) : r ≠ 0 := by
  unfold edgeStep at h
  split at h
  · rename_i h0; cases h; exact h0
  · split at h
    · cases h; decide
    · split at h <;> cases h; decide

theorem good_iff (g : TGraph) : wrongN g = 0 ↔ Good26 g := by
  constructor
  · intro h
    unfold wrongN at h
    split at h
    · cases h
    · split at h
      · cases h
      · rename_i h1 h2
        obtain ⟨g1, g2⟩ := scanG_zero nodeStep_ne _ _ h
        obtain ⟨_, g3⟩ := scanG_zero edgeStep_ne _ _ g1
        have n := fun j (hj : j < g.1.length) => g2 j (by omega) (by omega)
        have e := fun j (hj : j < g.2.length) => g3 j (by omega) (by omega)
        refine ⟨by omega, by omega, fun x hx => ?_, fun x hx => ?_, up_nodes n, up_edges e, fun x hx => ?_, fun x hx => ?_⟩
        · obtain ⟨i, hi, rfl⟩ := List.getElem_of_mem hx
          have := (nodeStep_none (n i hi)).1
          rwa [rd_get (e := sNode) hi] at this
        all_goals
          obtain ⟨i, hi, rfl⟩ := List.getElem_of_mem hx
          have := edgeStep_none (e i hi)
          rw [rd_get (e := sEdge) hi] at this
        · exact this.1
        · exact has_iff.1 this.2.2.1
        · exact has_iff.1 this.2.2.2
  · intro h
    unfold wrongN
    rw [if_neg (by have := h.ns; omega), if_neg (by have := h.es; omega), scanG_none _ _ fun j _ hj => ?_]
    · refine scanG_none _ _ fun j _ hj => ?_
      have hj' : j < g.2.length := by omega
      have m : rd sEdge g.2 j ∈ g.2 := rd_mem hj'
      unfold edgeStep
      rw [if_neg (by rw [h.edges _ m]; simp), if_neg, if_pos ⟨has_iff.2 (h.fr _ m), has_iff.2 (h.to _ m)⟩]
      rintro ⟨h0, h1⟩
      have := h.eup.lt (i := j - 1) (j := j) (by omega) (by simpa using hj')
      rw [← eids_get hj', ← eids_get (by omega : j - 1 < g.2.length), h1] at this
      cases this
    · have hj' : j < g.1.length := by omega
      have m : rd sNode g.1 j ∈ g.1 := rd_mem hj'
      unfold nodeStep
      rw [if_neg (by rw [h.nodes _ m]; simp), if_neg]
      rintro ⟨h0, h1⟩
      have := h.nup.lt (i := j - 1) (j := j) (by omega) (by simpa using hj')
      rw [← ids_get hj', ← ids_get (by omega : j - 1 < g.1.length), h1] at this
      cases this

theorem rowN_up {l : List ByteArray} (h : rowN l = 0) : Up l := by
  refine up_of fun i hi hp => ?_
  have := (rowN_zero h hi).2 hp
  rw [rd_get (e := .str) hi, rd_get (e := .str) (by omega : i - 1 < l.length)] at this
  exact this
theorem nodeN_up {n : TNode} (h : nodeN n = 0) : n.2.1.length ≤ 8 ∧ Up n.2.1 ∧ n.2.2.length ≤ 8 := by
  have : restN n.2.1 n.2.2 = 0 := by
    unfold nodeN at h
    split at h
    · exact h
    · cases h
  obtain ⟨h1, h2, h3⟩ := restN_zero this
  exact ⟨h1, rowN_up h2, propsN_len h3⟩
theorem edgeN_up {x : TEdge} (h : edgeN x = 0) : x.2.2.2.1.length ≤ 8 ∧ Up x.2.2.2.1 ∧ x.2.2.2.2.length ≤ 8 := by
  have : restN x.2.2.2.1 x.2.2.2.2 = 0 := by
    unfold edgeN at h
    split at h
    · exact h
    · cases h
  obtain ⟨h1, h2, h3⟩ := restN_zero this
  exact ⟨h1, rowN_up h2, propsN_len h3⟩

end Go.Proofs.Ytdblhdpnllckhaa.AE
end
section
set_option linter.unusedVariables false
set_option linter.unusedSimpArgs false
set_option maxRecDepth 20000
namespace Go.Proofs.Ytdblhdpnllckhaa.AE
open Go

def lessF (a b : TFact) : Bool := bif a.1 != b.1 then decide (a.1 < b.1) else bif !strEq a.2.1 b.2.1 then strLt a.2.1 b.2.1 else strLt a.2.2.1 b.2.2.1
def cmpF (a b : TFact) : Int := if lessF a b then -1 else if lessF b a then 1 else 0

theorem CompareString_ok (a b : ByteArray) : V.bytealg_CompareString a b = some (cmpS a b) := V.bytealg_CompareString.of a b rfl
theorem stringsCompare_ok (a b : ByteArray) : V.strings_Compare a b = some (cmpS a b) := by
  refine V.strings_Compare.of a b ?_
  unfold F.strings_Compare.B
  rw [CompareString_ok, Option.bind_some]
def cmpI (a b : Int) : Int := if a < b then -1 else if b < a then 1 else 0
theorem cmpCompareInt_ok (a b : Int) : V.cmp_Compare_int a b = some (cmpI a b) := by
  have nan : ∀ x : Int, V.cmp_isNaN_int x = some false := fun x => V.cmp_isNaN_int.of x (by unfold F.cmp_isNaN_int.B; simp)
  refine V.cmp_Compare_int.of a b ?_
  unfold F.cmp_Compare_int.B cmpI
  rw [nan, nan, Option.bind_some, Option.bind_some]
  by_cases h : a < b
  · simp [h]
  · by_cases g : b < a <;> simp [h, g]
theorem cmpOr_ok (x y z : Int) : V.cmp_Or_int [x, y, z] = some (if x ≠ 0 then x else if y ≠ 0 then y else z) := by
  refine V.cmp_Or_int.of _ ?_
  unfold F.cmp_Or_int.B
  refine V.cmp_Or_int.l11010.of _ _ ?_
  unfold F.cmp_Or_int.l11010.B
  by_cases hx : x = 0
  · subst hx
    have e1 : w64 (0 + 1) = 1 := by rw [w64_id (by omega) (by omega)]; rfl
    simp only [e1]
    simp [rd, guardK]
    refine V.cmp_Or_int.l11010.of _ _ ?_
    unfold F.cmp_Or_int.l11010.B
    by_cases hy : y = 0
    · subst hy
      have e2 : w64 (1 + 1) = 2 := by rw [w64_id (by omega) (by omega)]; rfl
      simp only [e2]
      simp [rd, guardK]
      refine V.cmp_Or_int.l11010.of _ _ ?_
      unfold F.cmp_Or_int.l11010.B
      by_cases hz : z = 0
      · subst hz
        have e3 : w64 (2 + 1) = 3 := by rw [w64_id (by omega) (by omega)]; rfl
        simp only [e3]
        simp [rd, guardK]
        refine V.cmp_Or_int.l11010.of _ _ ?_
        unfold F.cmp_Or_int.l11010.B
        simp
      · simp [rd, guardK, hz, Bool.cond_eq_ite]
    · simp [rd, guardK, hy, Bool.cond_eq_ite]
  · simp [rd, guardK, hx, Bool.cond_eq_ite]

theorem cmpS_self (a : ByteArray) : cmpS a a = 0 := by simp [cmpS, lt_irr]
theorem cmpS_lt {a b : ByteArray} (h : strLt a b = true) : cmpS a b = -1 := by simp [cmpS, h]
theorem cmpS_gt {a b : ByteArray} (h : strLt b a = true) : cmpS a b = 1 := by simp [cmpS, h, lt_asymm h]
theorem cmpS_ne {a b : ByteArray} (h : a ≠ b) : (strLt a b = true ∧ cmpS a b = -1) ∨ (strLt b a = true ∧ strLt a b = false ∧ cmpS a b = 1) := by
  cases hl : strLt a b with
  | true => exact .inl ⟨rfl, cmpS_lt hl⟩
  | false => have := lt_total hl h; exact .inr ⟨this, rfl, cmpS_gt this⟩

theorem lessF_irr (a : TFact) : lessF a a = false := by simp [lessF, strEq_self, lt_irr]

theorem Compare_ok (a b : TFact) : V.facts_Compare a b = some (cmpF a b) := by
  refine V.facts_Compare.of a b ?_
  unfold F.facts_Compare.B
  rw [cmpCompareInt_ok, Option.bind_some, stringsCompare_ok, Option.bind_some, stringsCompare_ok, Option.bind_some, cmpOr_ok, Option.bind_some]
  refine congrArg some ?_
  unfold cmpF lessF cmpI
  by_cases h1 : a.1 = b.1
  · rw [h1]
    by_cases h2 : a.2.1 = b.2.1
    · rw [h2, cmpS_self]
      by_cases h3 : a.2.2.1 = b.2.2.1
      · rw [h3, cmpS_self]; simp [strEq_self, lt_irr]
      · rcases cmpS_ne h3 with ⟨g1, g2⟩ | ⟨g1, g2, g3⟩
        · simp [strEq_self, g1, g2]
        · simp [strEq_self, g1, g2, g3]
    · have h2' : b.2.1 ≠ a.2.1 := fun e => h2 e.symm
      rcases cmpS_ne h2 with ⟨g1, g2⟩ | ⟨g1, g2, g3⟩
      · simp [strEq_no h2, strEq_no h2', g1, g2]
      · simp [strEq_no h2, strEq_no h2', g1, g2, g3]
  · have h1' : ¬ b.1 = a.1 := fun e => h1 e.symm
    by_cases h4 : a.1 < b.1
    · simp [h1, h4]
    · have h5 : b.1 < a.1 := by omega
      simp [h1, h1', h4, h5]

theorem cmpF_lt {a b : TFact} : cmpF a b < 0 ↔ lessF a b = true := by
  unfold cmpF
  cases lessF a b <;> cases lessF b a <;> simp

/-- Do they rise from a place on? -/
def riseF (l : List TFact) : Nat → Nat → Bool
  | 0, _ => true
  | d + 1, i => lessF (rd sFact l (i - 1)) (rd sFact l i) && riseF l d (i + 1)
def rises (l : List TFact) : Bool := riseF l (l.length - 1) 1

theorem Rise_l (l : List TFact) (hs : l.length ≤ 140737488351232) : ∀ d i : Nat, i + d = l.length → 1 ≤ i → V.facts_Rise.l1010 l (i : Int) = some (if riseF l d i then 0 else 4)
  | 0, i, h, h1 => by
    refine V.facts_Rise.l1010.of _ _ ?_
    unfold F.facts_Rise.l1010.B
    rw [if_out (by omega)]
    rfl
  | d + 1, i, h, h1 => by
    have hi : i < l.length := by omega
    have ih := Rise_l l hs d (i + 1) (by omega) (by omega)
    refine V.facts_Rise.l1010.of _ _ ?_
    unfold F.facts_Rise.l1010.B
    rw [if_in hi, w64_dn hi hs (by omega), guard_in (by omega : i - 1 < l.length), guard_in hi, nat_cast, nat_cast, Compare_ok, Option.bind_some, w64_up hi hs, ih]
    show (bif decide (cmpF (rd sFact l (i - 1)) (rd sFact l i) ≥ 0) then some 4 else some (if riseF l d (i + 1) = true then 0 else 4)) = _
    by_cases hl : lessF (rd sFact l (i - 1)) (rd sFact l i) = true
    · have e : riseF l (d + 1) i = riseF l d (i + 1) := by rw [riseF, hl, Bool.true_and]
      rw [if_no (by have := cmpF_lt.2 hl; omega), e]
    · have e : riseF l (d + 1) i = false := by rw [riseF, Bool.eq_false_iff.2 hl, Bool.false_and]
      rw [if_yes (by have := mt cmpF_lt.1 hl; omega), e]; rfl

theorem Rise_ok (l : List TFact) (hs : l.length ≤ 140737488351232) : V.facts_Rise l = some (if rises l then 0 else 4) := by
  refine V.facts_Rise.of _ ?_
  unfold F.facts_Rise.B rises
  rcases Nat.eq_zero_or_pos l.length with h | h
  · rw [show l.length - 1 = 0 by omega]
    refine V.facts_Rise.l1010.of _ _ ?_
    unfold F.facts_Rise.l1010.B
    rw [if_no (by omega)]
    rfl
  · exact Rise_l l hs (l.length - 1) 1 (by omega) (by omega)

end Go.Proofs.Ytdblhdpnllckhaa.AE
end
section
set_option linter.unusedVariables false
set_option linter.unusedSimpArgs false
set_option maxRecDepth 20000
namespace Go.Proofs.Ytdblhdpnllckhaa.AE
open Go

abbrev Z1 : ByteArray := (⟨#[0]⟩ : ByteArray)

end Go.Proofs.Ytdblhdpnllckhaa.AE
end
section
set_option linter.unusedVariables false
set_option linter.unusedSimpArgs false
set_option maxRecDepth 20000
namespace Go.Proofs.Ytdblhdpnllckhaa.AE
open Go

abbrev gA : TGraph := ([((⟨#[97]⟩ : ByteArray), [], [])], [])
abbrev fA : TFact := (1, (⟨#[97]⟩ : ByteArray), (⟨#[]⟩ : ByteArray), (⟨#[]⟩ : ByteArray))

theorem w64_one : w64 (0 + 1) = 1 := by rw [w64_id (by omega) (by omega)]; rfl

theorem awake_check : V.graph_Check gA = some 0 := by
  have hn : nodeN ((⟨#[97]⟩ : ByteArray), [], []) = 0 := by decide +kernel
  refine V.graph_Check.of gA ?_
  unfold F.graph_Check.B
  show V.graph_Check.l11010 gA 0 = some 0
  refine V.graph_Check.l11010.of _ _ ?_
  unfold F.graph_Check.l11010.B
  show guardK true ((V.elem_CheckNode ((⟨#[97]⟩ : ByteArray), [], [])).bind fun t0 => (bif (t0 != 0) then (some t0) else (bif (decide ((0 : Int) > 0)) then _ else V.graph_Check.l11010 gA (w64 (0 + 1))))) = some 0
  rw [guard_tt, CheckNode_ok _ (by refine ⟨by decide +kernel, ⟨by simp, by simp⟩, ⟨by simp, by simp⟩⟩), hn, Option.bind_some, w64_one]
  show V.graph_Check.l11010 gA 1 = some 0
  refine V.graph_Check.l11010.of _ _ ?_
  unfold F.graph_Check.l11010.B
  show V.graph_Check.l111010 gA 0 = some 0
  refine V.graph_Check.l111010.of _ _ ?_
  unfold F.graph_Check.l111010.B
  rfl

theorem awake_of : V.facts_of (⟨#[97]⟩ : ByteArray) 2 3 [] [] = some [] := by
  refine V.facts_of.of _ _ _ _ _ ?_
  unfold F.facts_of.B
  refine V.facts_of.l11010.of _ _ _ _ _ _ _ ?_
  unfold F.facts_of.l11010.B
  show V.facts_of.l111010 (⟨#[97]⟩ : ByteArray) 2 3 [] [] 0 [] = some []
  refine V.facts_of.l111010.of _ _ _ _ _ _ _ ?_
  unfold F.facts_of.l111010.B
  rfl

theorem awake_sort : V.slices_SortStableFunc_apiFactapiFact_by_facts_Compare [fA] = some [fA] := by
  have hi : V.slices_insertionSortCmpFunc_apiFact_by_facts_Compare [fA] 0 1 = some [fA] := by
    refine V.slices_insertionSortCmpFunc_apiFact_by_facts_Compare.of _ _ _ ?_
    unfold F.slices_insertionSortCmpFunc_apiFact_by_facts_Compare.B
    rw [w64_one]
    refine V.slices_insertionSortCmpFunc_apiFact_by_facts_Compare.l10.of _ _ _ _ _ ?_
    unfold F.slices_insertionSortCmpFunc_apiFact_by_facts_Compare.l10.B
    rfl
  have hs : V.slices_stableCmpFunc_apiFact_by_facts_Compare [fA] 1 = some [fA] := by
    refine V.slices_stableCmpFunc_apiFact_by_facts_Compare.of _ _ ?_
    unfold F.slices_stableCmpFunc_apiFact_by_facts_Compare.B
    refine V.slices_stableCmpFunc_apiFact_by_facts_Compare.l1100.of _ _ _ _ _ ?_
    unfold F.slices_stableCmpFunc_apiFact_by_facts_Compare.l1100.B
    rw [if_no (by omega), hi, Option.bind_some]
    refine V.slices_stableCmpFunc_apiFact_by_facts_Compare.l11110.of _ _ _ _ ?_
    unfold F.slices_stableCmpFunc_apiFact_by_facts_Compare.l11110.B
    rfl
  refine V.slices_SortStableFunc_apiFactapiFact_by_facts_Compare.of _ ?_
  unfold F.slices_SortStableFunc_apiFactapiFact_by_facts_Compare.B
  show (V.slices_stableCmpFunc_apiFact_by_facts_Compare [fA] 1).bind _ = _
  rw [hs, Option.bind_some]

theorem awake_Of : V.facts_Of gA = some [fA] := by
  refine V.facts_Of.of gA ?_
  unfold F.facts_Of.B
  show (V.graph_Check gA).bind _ = _
  rw [awake_check, Option.bind_some]
  show V.facts_Of.l111010 gA 0 [] = some [fA]
  refine V.facts_Of.l111010.of _ _ _ ?_
  unfold F.facts_Of.l111010.B
  show guardK true (guardK true ((V.facts_of (⟨#[97]⟩ : ByteArray) 2 3 [] []).bind fun t1 => guardK (decide (1 + t1.length ≤ nmax)) (V.facts_Of.l111010 gA (w64 (0 + 1)) ([fA] ++ t1)))) = some [fA]
  rw [guard_tt, guard_tt, awake_of, Option.bind_some, guard_dec (by decide), w64_one]
  show V.facts_Of.l111010 gA 1 [fA] = some [fA]
  refine V.facts_Of.l111010.of _ _ _ ?_
  unfold F.facts_Of.l111010.B
  show V.facts_Of.l1111010 gA 0 [fA] = some [fA]
  refine V.facts_Of.l1111010.of _ _ _ ?_
  unfold F.facts_Of.l1111010.B
  show (V.slices_SortStableFunc_apiFactapiFact_by_facts_Compare [fA]).bind (fun t4 => some t4) = some [fA]
  rw [awake_sort, Option.bind_some]

theorem awake27 : V.pleachlaw27_awake = some true := by
  refine V.pleachlaw27_awake.of ?_
  unfold F.pleachlaw27_awake.B
  show (V.facts_Of gA).bind _ = _
  rw [awake_Of, Option.bind_some]
  show guardK true (some (((1 : Int) == 1) && (strEq (⟨#[97]⟩ : ByteArray) (⟨#[97]⟩ : ByteArray) && (strEq (⟨#[]⟩ : ByteArray) (⟨#[]⟩ : ByteArray) && (strEq (⟨#[]⟩ : ByteArray) (⟨#[]⟩ : ByteArray) && true))))) = _
  rw [guard_tt, strEq_self, strEq_self]; rfl

end Go.Proofs.Ytdblhdpnllckhaa.AE
end
section
set_option linter.unusedVariables false
set_option linter.unusedSimpArgs false
set_option maxRecDepth 20000
namespace Go.Proofs.Ytdblhdpnllckhaa.AE
open Go

theorem lessF_asymm {a b : TFact} (h : lessF a b = true) : lessF b a = false := by
  unfold lessF at h ⊢
  by_cases h1 : a.1 = b.1
  · have h1' : b.1 = a.1 := h1.symm
    rw [h1] at h ⊢
    simp only [bne_self_eq_false, cond_false] at h ⊢
    by_cases h2 : a.2.1 = b.2.1
    · rw [h2] at h ⊢
      simp only [strEq_self, Bool.not_true, cond_false] at h ⊢
      exact lt_asymm h
    · have h2' : b.2.1 ≠ a.2.1 := fun e => h2 e.symm
      simp only [strEq_no h2, strEq_no h2', Bool.not_false, cond_true] at h ⊢
      exact lt_asymm h
  · have h1' : b.1 ≠ a.1 := fun e => h1 e.symm
    have e1 : (a.1 != b.1) = true := by simpa using h1
    have e2 : (b.1 != a.1) = true := by simpa using h1'
    rw [e1] at h
    rw [e2]
    simp only [cond_true, decide_eq_true_eq, decide_eq_false_iff_not] at h ⊢
    omega

def keyF (a : TFact) : Int × ByteArray × ByteArray := (a.1, a.2.1, a.2.2.1)
theorem lessF_key {a b c d : TFact} (h : keyF a = keyF c) (g : keyF b = keyF d) : lessF a b = lessF c d := by
  unfold keyF at h g
  simp only [Prod.mk.injEq] at h g
  unfold lessF
  rw [h.1, h.2.1, h.2.2, g.1, g.2.1, g.2.2]
theorem lessF_cases {a b : TFact} : lessF a b = true ↔ a.1 < b.1 ∨ (a.1 = b.1 ∧ (strLt a.2.1 b.2.1 = true ∨ (a.2.1 = b.2.1 ∧ strLt a.2.2.1 b.2.2.1 = true))) := by
  unfold lessF
  by_cases h1 : a.1 = b.1
  · by_cases h2 : a.2.1 = b.2.1
    · simp [h1, h2, strEq_self, lt_irr]
    · have e : (!strEq a.2.1 b.2.1) = true := by rw [strEq_no h2]; rfl
      simp [h1, h2, e]
  · simp [h1]
theorem lessF_trans {a b c : TFact} (h : lessF a b = true) (g : lessF b c = true) : lessF a c = true := by
  rw [lessF_cases] at h g ⊢
  rcases h with h | ⟨h1, h⟩ <;> rcases g with g | ⟨g1, g⟩
  · exact .inl (by omega)
  · exact .inl (by omega)
  · exact .inl (by omega)
  · refine .inr ⟨by omega, ?_⟩
    rcases h with h | ⟨h2, h⟩ <;> rcases g with g | ⟨g2, g⟩
    · exact .inl (lt_trans h g)
    · exact .inl (g2 ▸ h)
    · exact .inl (h2 ▸ g)
    · exact .inr ⟨h2.trans g2, lt_trans h g⟩
theorem lessF_tri {a b : TFact} (h : lessF a b = false) (g : lessF b a = false) : keyF a = keyF b := by
  have h := Bool.eq_false_iff.1 h
  have g := Bool.eq_false_iff.1 g
  rw [Ne, lessF_cases] at h g
  simp only [not_or, not_and] at h g
  have e1 : a.1 = b.1 := by omega
  have h2 := h.2 e1
  have g2 := g.2 e1.symm
  have e2 : a.2.1 = b.2.1 := Classical.byContradiction fun n => by
    rcases cmpS_ne n with ⟨q, _⟩ | ⟨q, _⟩
    · exact h2.1 q
    · exact g2.1 q
  have e3 : a.2.2.1 = b.2.2.1 := Classical.byContradiction fun n => by
    rcases cmpS_ne n with ⟨q, _⟩ | ⟨q, _⟩
    · exact h2.2 e2 q
    · exact g2.2 e2.symm q
  simp [keyF, e1, e2, e3]
/-- A row that rises. -/
def Rs : List TFact → Prop := List.Pairwise fun a b => lessF a b = true

def strip (f : TFact) : TFact := (f.1, f.2.1, f.2.2.1, (⟨#[]⟩ : ByteArray))
/-- What two rows have. -/
def both : List TFact → List TFact → List TFact
  | [], b => b.map strip
  | x :: a, [] => strip x :: both a []
  | x :: a, y :: b => if lessF y x then strip y :: both (x :: a) b else if lessF x y then strip x :: both a (y :: b) else strip x :: both a b
termination_by a b => a.length + b.length

theorem Rs.head {x : TFact} {l : List TFact} (h : Rs (x :: l)) {z : TFact} (hz : z ∈ l) : lessF x z = true := List.rel_of_pairwise_cons h hz
theorem Rs.tail {x : TFact} {l : List TFact} (h : Rs (x :: l)) : Rs l := List.Pairwise.of_cons h

end Go.Proofs.Ytdblhdpnllckhaa.AE
end
section
set_option linter.unusedVariables false
set_option linter.unusedSimpArgs false
namespace Go.Proofs.Ytdblhdpnllckhaa.AE
open Go

/-- An order in which some may stand alike. -/
structure Weak {α : Type} (lt : α → α → Bool) : Prop where
  irr : ∀ a, lt a a = false
  trans : ∀ a b c, lt a b = true → lt b c = true → lt a c = true
  comp : ∀ a b c, lt a c = true → lt a b = true ∨ lt b c = true

section
variable {α : Type} {lt : α → α → Bool}

/-- No one stands ahead of an earlier one. -/
def Srt (lt : α → α → Bool) (l : List α) : Prop := l.Pairwise fun a b => lt b a = false

theorem Weak.asymm (w : Weak lt) {a b : α} (h : lt a b = true) : lt b a = false := by
  cases hb : lt b a with
  | false => rfl
  | true => have := w.trans a b a h hb; rw [w.irr] at this; cases this
/-- Not behind, and not behind: not behind. -/
theorem Weak.le_trans (w : Weak lt) {a b c : α} (h : lt b a = false) (g : lt c b = false) : lt c a = false := by
  cases hb : lt c a with
  | false => rfl
  | true =>
    rcases w.comp c b a hb with k | k
    · rw [g] at k; cases k
    · rw [h] at k; cases k

theorem srt_app {x y : List α} : Srt lt (x ++ y) ↔ Srt lt x ∧ Srt lt y ∧ ∀ a ∈ x, ∀ b ∈ y, lt b a = false := List.pairwise_append
theorem srt_nil : Srt lt ([] : List α) := List.Pairwise.nil
theorem srt_one (a : α) : Srt lt [a] := List.pairwise_singleton _ _
theorem srt_cons {a : α} {y : List α} : Srt lt (a :: y) ↔ (∀ b ∈ y, lt b a = false) ∧ Srt lt y := List.pairwise_cons
/-- All are at most the last one; at least the first one. -/
theorem srt_last (w : Weak lt) {x : List α} {u : α} (h : Srt lt (x ++ [u])) : ∀ a ∈ x ++ [u], lt u a = false := by
  intro a ha
  rw [List.mem_append, List.mem_singleton] at ha
  rcases ha with ha | rfl
  · exact (srt_app.1 h).2.2 a ha u (by simp)
  · exact w.irr _
theorem srt_first (w : Weak lt) {y : List α} {v : α} (h : Srt lt (v :: y)) : ∀ b ∈ v :: y, lt b v = false := by
  intro b hb
  rcases List.mem_cons.1 hb with rfl | hb
  · exact w.irr _
  · exact (srt_cons.1 h).1 b hb

/-- Two sorted rows of the same ones, no two of which stand alike, are the same row. -/
theorem srt_unique (w : Weak lt) : ∀ {x y : List α}, x.Perm y → Srt lt x → (y.Pairwise fun a b => lt a b = true) → x = y
  | [], y, h, _, _ => (List.nil_perm.1 h).symm
  | a :: x, [], h, _, _ => absurd h.symm (by simp)
  | a :: x, b :: y, h, hx, hy => by
    have hab : a = b := by
      have ha : a ∈ b :: y := h.subset (by simp)
      rcases List.mem_cons.1 ha with e | ha
      · exact e
      · have hb : b ∈ a :: x := h.symm.subset (by simp)
        rcases List.mem_cons.1 hb with e | hb
        · exact e.symm
        · have h1 := (srt_cons.1 hx).1 b hb
          have h2 := (List.pairwise_cons.1 hy).1 a ha
          rw [h2] at h1; cases h1
    subst hab
    rw [srt_unique w ((List.perm_cons a).1 h) (srt_cons.1 hx).2 (List.pairwise_cons.1 hy).2]

/-! ### Two places change over -/

/-- What is behind a first part. -/
theorem app_at {x y : List α} {i : Nat} (d : α) (h : i = x.length) (a : α) : (x ++ a :: y).getD i d = a := by
  subst h
  simp [List.getD_eq_getElem?_getD]
theorem set_at {x y : List α} {i : Nat} (h : i = x.length) (a b : α) : (x ++ a :: y).set i b = x ++ b :: y := by
  subst h
  simp
theorem swap_at {x y z : List α} {i j : Nat} (u v : α) (hi : i = x.length) (hj : j = x.length + (1 + y.length)) : ((x ++ u :: (y ++ v :: z)).set i v).set j u = x ++ v :: (y ++ u :: z) := by
  rw [set_at hi]
  have e : x ++ v :: (y ++ v :: z) = (x ++ v :: y) ++ v :: z := by simp
  rw [e, set_at (by simp; omega)]
  simp

/-! ### Merging -/

/-- The heart of the merge by halves: X1 X2 and Y1 Y2 are sorted; cut so, X1 Y1 stand ahead of X2 Y2. -/
theorem halves (w : Weak lt) {x1 x2 y1 y2 : List α} (hx : Srt lt (x1 ++ x2)) (hy : Srt lt (y1 ++ y2))
    (h1 : x1 = [] ∨ y2 = [] ∨ ∃ u x v y, x1 = x ++ [u] ∧ y2 = v :: y ∧ lt v u = false)
    (h2 : y1 = [] ∨ x2 = [] ∨ ∃ u y v x, y1 = y ++ [u] ∧ x2 = v :: x ∧ lt u v = true) :
    ∀ a ∈ x1 ++ y1, ∀ b ∈ x2 ++ y2, lt b a = false := by
  intro a ha b hb
  obtain ⟨sx1, sx2, cx⟩ := srt_app.1 hx
  obtain ⟨sy1, sy2, cy⟩ := srt_app.1 hy
  rw [List.mem_append] at ha hb
  rcases ha with ha | ha <;> rcases hb with hb | hb
  · exact cx a ha b hb
  · rcases h1 with rfl | rfl | ⟨u, x, v, y, rfl, rfl, h⟩
    · cases ha
    · cases hb
    · exact w.le_trans (srt_last w sx1 a ha) (w.le_trans h (srt_first w sy2 b hb))
  · rcases h2 with rfl | rfl | ⟨u, y, v, x, rfl, rfl, h⟩
    · cases ha
    · cases hb
    · exact w.le_trans (srt_last w sy1 a ha) (w.le_trans (w.asymm h) (srt_first w sx2 b hb))
  · exact cy a ha b hb
/-- One that goes into its place in a sorted row, from ahead of it. -/
theorem insert_up (w : Weak lt) {y1 y2 : List α} {x : α} (hy : Srt lt (y1 ++ y2)) (h1 : y1 = [] ∨ ∃ y u, y1 = y ++ [u] ∧ lt u x = true) (h2 : y2 = [] ∨ ∃ v y, y2 = v :: y ∧ lt v x = false) : Srt lt (y1 ++ x :: y2) := by
  obtain ⟨s1, s2, c⟩ := srt_app.1 hy
  have g1 : ∀ a ∈ y1, lt x a = false := by
    intro a ha
    rcases h1 with rfl | ⟨y, u, rfl, h⟩
    · cases ha
    · exact w.le_trans (srt_last w s1 a ha) (w.asymm h)
  have g2 : ∀ b ∈ y2, lt b x = false := by
    intro b hb
    rcases h2 with rfl | ⟨v, y, rfl, h⟩
    · cases hb
    · exact w.le_trans h (srt_first w s2 b hb)
  refine srt_app.2 ⟨s1, srt_cons.2 ⟨g2, s2⟩, fun a ha b hb => ?_⟩
  rcases List.mem_cons.1 hb with rfl | hb
  · exact g1 a ha
  · exact c a ha b hb
/-- .. from behind it. -/
theorem insert_down (w : Weak lt) {x1 x2 : List α} {y : α} (hx : Srt lt (x1 ++ x2)) (h1 : x1 = [] ∨ ∃ x u, x1 = x ++ [u] ∧ lt y u = false) (h2 : x2 = [] ∨ ∃ v x, x2 = v :: x ∧ lt y v = true) : Srt lt (x1 ++ y :: x2) := by
  obtain ⟨s1, s2, c⟩ := srt_app.1 hx
  have g1 : ∀ a ∈ x1, lt y a = false := by
    intro a ha
    rcases h1 with rfl | ⟨x, u, rfl, h⟩
    · cases ha
    · exact w.le_trans (srt_last w s1 a ha) h
  have g2 : ∀ b ∈ x2, lt b y = false := by
    intro b hb
    rcases h2 with rfl | ⟨v, x, rfl, h⟩
    · cases hb
    · exact w.le_trans (w.asymm h) (srt_first w s2 b hb)
  refine srt_app.2 ⟨s1, srt_cons.2 ⟨g2, s2⟩, fun a ha b hb => ?_⟩
  rcases List.mem_cons.1 hb with rfl | hb
  · exact g1 a ha
  · exact c a ha b hb

/-! ### Blocks -/

/-- From a place on, all blocks of k are sorted. -/
def Blk' (lt : α → α → Bool) (k : Nat) (l : List α) (p : Nat → Prop) : Prop := ∀ j, p (j * k) → Srt lt ((l.drop (j * k)).take k)
theorem srt_take {l : List α} (h : Srt lt l) (n : Nat) : Srt lt (l.take n) := List.Pairwise.sublist (List.take_sublist n l) h
theorem srt_drop {l : List α} (h : Srt lt l) (n : Nat) : Srt lt (l.drop n) := List.Pairwise.sublist (List.drop_sublist n l) h

/-- Behind a change of the part from a to b. -/
structure Done (lt : α → α → Bool) (a b : Nat) (l l' : List α) : Prop where
  ex : ∃ z, l' = l.take a ++ z ++ l.drop b ∧ z.Perm ((l.take b).drop a) ∧ Srt lt z
theorem seg_split (l : List α) {a b : Nat} (h : a ≤ b) : l = l.take a ++ (l.take b).drop a ++ l.drop b := by
  have e1 : l.take a = (l.take b).take a := by rw [List.take_take, Nat.min_eq_left h]
  rw [e1, List.take_append_drop, List.take_append_drop]
theorem Done.perm {a b : Nat} {l l' : List α} (h : a ≤ b) (d : Done lt a b l l') : l'.Perm l := by
  obtain ⟨z, rfl, hp, _⟩ := d.ex
  conv => rhs; rw [seg_split l h]
  exact ((List.Perm.refl _).append hp).append_right _
theorem Done.len {a b : Nat} {l l' : List α} (h : a ≤ b) (d : Done lt a b l l') : l'.length = l.length := (d.perm h).length_eq
theorem Done.drop {a b : Nat} {l l' : List α} (h : a ≤ b) (hb : b ≤ l.length) (d : Done lt a b l l') {c : Nat} (hc : b ≤ c) : l'.drop c = l.drop c := by
  have hl := d.len h
  obtain ⟨z, rfl, hp, _⟩ := d.ex
  have hz : (l.take a ++ z).length = b := by
    have := hp.length_eq
    simp at this ⊢
    omega
  rw [List.drop_append, hz, List.drop_eq_nil_of_le (by omega), List.nil_append, List.drop_drop]
  congr 1; omega
theorem Done.take {a b : Nat} {l l' : List α} (h : a ≤ b) (hb : b ≤ l.length) (d : Done lt a b l l') {c : Nat} (hc : c ≤ a) : l'.take c = l.take c := by
  obtain ⟨z, rfl, hp, _⟩ := d.ex
  rw [List.append_assoc, List.take_append_of_le_length (by rw [List.length_take]; omega), List.take_take, Nat.min_eq_left hc]
theorem Done.mid {a b : Nat} {l l' : List α} (h : a ≤ b) (hb : b ≤ l.length) (d : Done lt a b l l') : Srt lt ((l'.take b).drop a) := by
  obtain ⟨z, rfl, hp, hs⟩ := d.ex
  have hl : (l.take a).length = a := by rw [List.length_take]; omega
  have hz : (l.take a ++ z).length = b := by
    have := hp.length_eq
    simp at this ⊢
    omega
  rw [List.take_left' hz, List.drop_left' hl]
  exact hs
end
end Go.Proofs.Ytdblhdpnllckhaa.AE
end
section
set_option linter.unusedVariables false
set_option linter.unusedSimpArgs false
set_option maxRecDepth 20000
namespace Go.Proofs.Ytdblhdpnllckhaa.AE
open Go

theorem weakF : Weak lessF := ⟨lessF_irr, fun _ _ _ h g => lessF_trans h g, fun a b c h => by
  cases h1 : lessF a b with
  | true => exact .inl rfl
  | false =>
    cases h2 : lessF b a with
    | true => exact .inr (lessF_trans h2 h)
    | false => rw [lessF_key (lessF_tri h1 h2) rfl] at h; exact .inr h⟩
theorem cmpF_dec (a b : TFact) : decide (cmpF a b < 0) = lessF a b := by
  rw [Bool.eq_iff_iff, decide_eq_true_iff]; exact cmpF_lt

theorem w64_add {x y : Nat} (h : x + y ≤ 140737488351232) : w64 ((x : Int) + (y : Int)) = ((x + y : Nat) : Int) := by rw [w64_id (by omega) (by omega)]; omega
theorem w64_sub {x y : Nat} (h : y ≤ x) (hb : x ≤ 140737488351232) : w64 ((x : Int) - (y : Int)) = ((x - y : Nat) : Int) := by rw [w64_id (by omega) (by omega)]; omega
theorem half_nat' {lo hi : Nat} (hb : lo + hi ≤ 140737488351232) : w64 (Int.fdiv (IntKind.wrap .u64 (w64 ((lo : Int) + (hi : Int)))) (2 ^ 1)) = (((lo + hi) / 2 : Nat) : Int) := by
  rw [w64_id (x := (lo : Int) + hi) (by omega) (by omega), u64_id (by omega) (by omega), Int.fdiv_eq_ediv_of_nonneg _ (by omega), w64_id (by omega) (by omega)]
  omega

theorem swap_rd {e : Sh} {x y z l : List (den e)} {u v : den e} {i j : Nat} (hl : l = x ++ u :: (y ++ v :: z)) (hi : i = x.length) (hj : j = x.length + (1 + y.length)) : (l.set i (rd e l j)).set j (rd e l i) = x ++ v :: (y ++ u :: z) := by
  have e1 : rd e l i = u := by rw [hl]; exact app_at _ hi u
  have e2 : rd e l j = v := by
    rw [hl, show x ++ u :: (y ++ v :: z) = (x ++ u :: y) ++ v :: z by simp]
    exact app_at _ (by simp; omega) v
  rw [e1, e2, hl]
  exact swap_at u v hi hj
theorem swap_rd' {e : Sh} {x y z l : List (den e)} {u v : den e} {i j : Nat} (hl : l = x ++ u :: (y ++ v :: z)) (hi : i = x.length) (hj : j = x.length + (1 + y.length)) : (l.set j (rd e l i)).set i (rd e l j) = x ++ v :: (y ++ u :: z) := by
  rw [List.set_comm _ _ (by omega)]
  exact swap_rd hl hi hj
theorem rd_app {e : Sh} {x y l : List (den e)} {u : den e} {i : Nat} (hl : l = x ++ u :: y) (hi : i = x.length) : rd e l i = u := by rw [hl]; exact app_at _ hi u

theorem swapRange_l (a0 A X M Y S : List TFact) (n : Nat) (hu : X.length = n) (hv : Y.length = n) (hb : (A ++ X ++ M ++ Y ++ S).length ≤ 35184372088832) (a1 a2 : Nat) (h1 : a1 = A.length) (h2 : a2 = A.length + n + M.length) : ∀ d i : Nat, i + d = n →
    V.slices_swapRangeCmpFunc_apiFact_by_facts_Compare.l10 a0 (a1 : Int) (a2 : Int) (n : Int) (i : Int) (A ++ (Y.take i ++ X.drop i) ++ M ++ (X.take i ++ Y.drop i) ++ S) = some (A ++ Y ++ M ++ X ++ S)
  | 0, i, h => by
    refine V.slices_swapRangeCmpFunc_apiFact_by_facts_Compare.l10.of _ _ _ _ _ _ ?_
    unfold F.slices_swapRangeCmpFunc_apiFact_by_facts_Compare.l10.B
    rw [if_no (by omega), List.take_of_length_le (by omega), List.take_of_length_le (by omega), List.drop_eq_nil_of_le (by omega), List.drop_eq_nil_of_le (by omega)]
    simp
  | d + 1, i, h => by
    simp only [List.length_append] at hb
    have hi : i < X.length := by omega
    have hj : i < Y.length := by omega
    obtain ⟨u, hu'⟩ : ∃ u, X.drop i = u :: X.drop (i + 1) := ⟨_, List.drop_eq_getElem_cons hi⟩
    obtain ⟨v, hv'⟩ : ∃ v, Y.drop i = v :: Y.drop (i + 1) := ⟨_, List.drop_eq_getElem_cons hj⟩
    have tu : X.take (i + 1) = X.take i ++ [u] := by
      rw [List.take_add_one, ← List.head?_drop, hu']; rfl
    have tv : Y.take (i + 1) = Y.take i ++ [v] := by
      rw [List.take_add_one, ← List.head?_drop, hv']; rfl
    have lu : (X.take i).length = i := by rw [List.length_take]; omega
    have lv : (Y.take i).length = i := by rw [List.length_take]; omega
    have ld : (X.drop (i + 1)).length = n - (i + 1) := by rw [List.length_drop, hu]
    have ih := swapRange_l a0 A X M Y S n hu hv (by simp only [List.length_append]; omega) a1 a2 h1 h2 d (i + 1) (by omega)
    have hL : A ++ (Y.take i ++ X.drop i) ++ M ++ (X.take i ++ Y.drop i) ++ S = (A ++ Y.take i) ++ u :: ((X.drop (i + 1) ++ M ++ X.take i) ++ v :: (Y.drop (i + 1) ++ S)) := by rw [hu', hv']; simp
    have hlen : (A ++ (Y.take i ++ X.drop i) ++ M ++ (X.take i ++ Y.drop i) ++ S).length = A.length + n + M.length + n + S.length := by simp; omega
    have sw := swap_rd (e := sFact) hL (i := a1 + i) (j := a2 + i) (by simp; omega) (by simp; omega)
    generalize A ++ (Y.take i ++ X.drop i) ++ M ++ (X.take i ++ Y.drop i) ++ S = L at hL hlen sw ⊢
    refine V.slices_swapRangeCmpFunc_apiFact_by_facts_Compare.l10.of _ _ _ _ _ _ ?_
    unfold F.slices_swapRangeCmpFunc_apiFact_by_facts_Compare.l10.B
    rw [if_yes (by omega), w64_add (x := a2) (y := i) (by omega), w64_add (x := a1) (y := i) (by omega), guard_in (by omega), guard_in (by omega), meet_self, guard_in (by omega), guard_in (by rw [List.length_set]; omega), w64_up (i := i) (n := n) (by omega) (by omega)]
    simp only [nat_cast]
    show V.slices_swapRangeCmpFunc_apiFact_by_facts_Compare.l10 a0 (a1 : Int) (a2 : Int) (n : Int) ((i + 1 : Nat) : Int) ((L.set (a1 + i) (rd sFact L (a2 + i))).set (a2 + i) (rd sFact L (a1 + i))) = _
    rw [sw, ← ih, tu, tv]
    simp
theorem swapRange_ok (A X M Y S : List TFact) (n : Nat) (hu : X.length = n) (hv : Y.length = n) (hb : (A ++ X ++ M ++ Y ++ S).length ≤ 35184372088832) (a1 a2 : Nat) (h1 : a1 = A.length) (h2 : a2 = A.length + n + M.length) :
    V.slices_swapRangeCmpFunc_apiFact_by_facts_Compare (A ++ X ++ M ++ Y ++ S) (a1 : Int) (a2 : Int) (n : Int) = some (A ++ Y ++ M ++ X ++ S) := by
  refine V.slices_swapRangeCmpFunc_apiFact_by_facts_Compare.of _ _ _ _ ?_
  unfold F.slices_swapRangeCmpFunc_apiFact_by_facts_Compare.B
  have := swapRange_l (A ++ X ++ M ++ Y ++ S) A X M Y S n hu hv hb a1 a2 h1 h2 n 0 (by omega)
  simpa using this

theorem rotate_l (a0 : List TFact) (a1 a3 : Int) : ∀ (k : Nat) (A X Y S : List TFact) (m : Nat), X.length + Y.length ≤ k → 0 < X.length → 0 < Y.length → (A ++ X ++ Y ++ S).length ≤ 35184372088832 → m = A.length + X.length →
    V.slices_rotateCmpFunc_apiFact_by_facts_Compare.l1100 a0 a1 (m : Int) a3 (X.length : Int) (Y.length : Int) (A ++ X ++ Y ++ S) = some (A ++ Y ++ X ++ S)
  | 0, A, X, Y, S, m, h, hu, hv, hb, hm => by omega
  | k + 1, A, X, Y, S, m, h, hu, hv, hb, hm => by
    have hb' := hb
    simp only [List.length_append] at hb'
    refine V.slices_rotateCmpFunc_apiFact_by_facts_Compare.l1100.of _ _ _ _ _ _ _ ?_
    unfold F.slices_rotateCmpFunc_apiFact_by_facts_Compare.l1100.B
    rcases Nat.lt_trichotomy X.length Y.length with hlt | heq | hgt
    · rw [show ((X.length : Int) != (Y.length : Int)) = true by simp; omega, cond_true, if_no (by omega), w64_sub (x := m) (y := X.length) (by omega) (by omega), w64_add (x := m) (y := Y.length) (by omega), w64_sub (x := m + Y.length) (y := X.length) (by omega) (by omega), w64_sub (x := Y.length) (y := X.length) (by omega) (by omega)]
      -- Y = Y1 Y2, as many in Y2 as in X
      have e : Y = Y.take (Y.length - X.length) ++ Y.drop (Y.length - X.length) := (List.take_append_drop _ _).symm
      have l1 : (Y.take (Y.length - X.length)).length = Y.length - X.length := by rw [List.length_take]; omega
      have l2 : (Y.drop (Y.length - X.length)).length = X.length := by rw [List.length_drop]; omega
      generalize Y.take (Y.length - X.length) = Y1 at e l1
      generalize Y.drop (Y.length - X.length) = Y2 at e l2
      subst e
      have ll : (Y1 ++ Y2).length - X.length = Y1.length := by simp; omega
      have hs := swapRange_ok A X Y1 Y2 S X.length rfl l2 (by simp only [List.length_append] at hb' ⊢; omega) (m - X.length) (m + (Y1 ++ Y2).length - X.length) (by omega) (by simp only [List.length_append]; omega)
      have hr := rotate_l a0 a1 a3 k A Y2 Y1 (X ++ S) m (by simp only [List.length_append] at h; omega) (by omega) (by simp only [List.length_append] at hlt; omega) (by simp only [List.length_append] at hb' ⊢; omega) (by omega)
      rw [show A ++ X ++ (Y1 ++ Y2) ++ S = A ++ X ++ Y1 ++ Y2 ++ S by simp, hs, Option.bind_some, ll]
      rw [l2] at hr
      rw [show A ++ Y2 ++ Y1 ++ X ++ S = A ++ Y2 ++ Y1 ++ (X ++ S) by simp, hr]
      simp
    · rw [show ((X.length : Int) != (Y.length : Int)) = false by simp; omega, cond_false, w64_sub (x := m) (y := X.length) (by omega) (by omega)]
      have hs := swapRange_ok A X [] Y S X.length rfl heq.symm (by simpa using hb) (m - X.length) m (by omega) (by simp; omega)
      rw [show A ++ X ++ Y ++ S = A ++ X ++ [] ++ Y ++ S by simp, hs]
      simp
    · rw [show ((X.length : Int) != (Y.length : Int)) = true by simp; omega, cond_true, if_yes (by omega), w64_sub (x := m) (y := X.length) (by omega) (by omega), w64_sub (x := X.length) (y := Y.length) (by omega) (by omega)]
      have e : X = X.take Y.length ++ X.drop Y.length := (List.take_append_drop _ _).symm
      have l1 : (X.take Y.length).length = Y.length := by rw [List.length_take]; omega
      have l2 : (X.drop Y.length).length = X.length - Y.length := by rw [List.length_drop]
      generalize X.take Y.length = X1 at e l1
      generalize X.drop Y.length = X2 at e l2
      subst e
      have hs := swapRange_ok A X1 X2 Y S Y.length l1 rfl (by simp only [List.length_append] at hb' ⊢; omega) (m - (X1 ++ X2).length) m (by omega) (by simp only [List.length_append] at hm ⊢; omega)
      have hr := rotate_l a0 a1 a3 k (A ++ Y) X2 X1 S m (by simp only [List.length_append] at h; omega) (by simp only [List.length_append] at hgt; omega) (by omega) (by simp only [List.length_append] at hb' ⊢; omega) (by simp only [List.length_append] at hm ⊢; omega)
      rw [show A ++ (X1 ++ X2) ++ Y ++ S = A ++ X1 ++ X2 ++ Y ++ S by simp, hs, Option.bind_some, show (X1 ++ X2).length - Y.length = X2.length by simp; omega]
      rw [l1] at hr
      rw [hr]
      simp
theorem rotate_ok (A X Y S : List TFact) (hu : 0 < X.length) (hv : 0 < Y.length) (hb : (A ++ X ++ Y ++ S).length ≤ 35184372088832) (a m b : Nat) (ha : a = A.length) (hm : m = a + X.length) (hbb : b = m + Y.length) :
    V.slices_rotateCmpFunc_apiFact_by_facts_Compare (A ++ X ++ Y ++ S) (a : Int) (m : Int) (b : Int) = some (A ++ Y ++ X ++ S) := by
  have hb' := hb
  simp only [List.length_append] at hb'
  refine V.slices_rotateCmpFunc_apiFact_by_facts_Compare.of _ _ _ _ ?_
  unfold F.slices_rotateCmpFunc_apiFact_by_facts_Compare.B
  rw [w64_sub (x := m) (y := a) (by omega) (by omega), w64_sub (x := b) (y := m) (by omega) (by omega), show m - a = X.length by omega, show b - m = Y.length by omega]
  exact rotate_l _ _ _ _ A X Y S m (Nat.le_refl _) hu hv hb (by omega)

end Go.Proofs.Ytdblhdpnllckhaa.AE
end
section
set_option linter.unusedVariables false
set_option linter.unusedSimpArgs false
set_option maxRecDepth 20000
namespace Go.Proofs.Ytdblhdpnllckhaa.AE
open Go

theorem snoc_of {α : Type} {l : List α} {k : Nat} (h : l.length = k + 1) : ∃ y u, l = y ++ [u] ∧ y.length = k := by
  have hn : l ≠ [] := fun e => by rw [e] at h; cases h
  exact ⟨l.dropLast, l.getLast hn, (List.dropLast_concat_getLast hn).symm, by rw [List.length_dropLast]; omega⟩

/-! ### Insertions -/

theorem ins_in (a0 : List TFact) (a1 : Nat) (a2 : Int) (i : Nat) : ∀ (k : Nat) (A Z1 Z2 T : List TFact) (x : TFact), Z1.length = k → a1 = A.length → i = A.length + Z1.length + Z2.length → (A ++ Z1 ++ x :: (Z2 ++ T)).length ≤ 35184372088832 →
    Srt lessF (Z1 ++ Z2) → (∀ z ∈ Z2, lessF x z = true) → ∀ j : Nat, j = A.length + Z1.length →
    ∃ Z', Z'.Perm (x :: (Z1 ++ Z2)) ∧ Srt lessF Z' ∧ ∀ r, V.slices_insertionSortCmpFunc_apiFact_by_facts_Compare.l10 a0 (a1 : Int) a2 ((i + 1 : Nat) : Int) (A ++ Z' ++ T) = some r →
      V.slices_insertionSortCmpFunc_apiFact_by_facts_Compare.l10010010 a0 (a1 : Int) a2 (i : Int) (j : Int) (A ++ Z1 ++ x :: (Z2 ++ T)) = some r
  | 0, A, Z1, Z2, T, x, hk, h1, hi, hb, hs, hz, j, hj => by
    have : Z1 = [] := List.length_eq_zero_iff.1 hk
    subst this
    refine ⟨x :: Z2, List.Perm.refl _, srt_cons.2 ⟨fun b hb => lessF_asymm (hz b hb), hs⟩, fun r hr => ?_⟩
    simp only [List.length_append, List.length_cons] at hb
    refine V.slices_insertionSortCmpFunc_apiFact_by_facts_Compare.l10010010.of _ _ _ _ _ _ ?_
    unfold F.slices_insertionSortCmpFunc_apiFact_by_facts_Compare.l10010010.B
    simp only [List.length_nil] at hi hj
    rw [if_no (by omega), w64_up (i := i) (n := i + 1) (by omega) (by omega), ← hr]
    simp
  | k + 1, A, Z1, Z2, T, x, hk, h1, hi, hb, hs, hz, j, hj => by
    obtain ⟨Y, u, rfl, hy⟩ := snoc_of hk
    have hb' := hb
    simp only [List.length_append, List.length_cons, List.length_nil] at hb' hi hj
    have hL : A ++ (Y ++ [u]) ++ x :: (Z2 ++ T) = (A ++ Y) ++ u :: ([] ++ x :: (Z2 ++ T)) := by simp
    have hlen : (A ++ (Y ++ [u]) ++ x :: (Z2 ++ T)).length = A.length + Y.length + 2 + Z2.length + T.length := by simp; omega
    have sw := swap_rd' (e := sFact) hL (i := j - 1) (j := j) (by simp; omega) (by simp; omega)
    have e1 : rd sFact (A ++ (Y ++ [u]) ++ x :: (Z2 ++ T)) j = x := rd_app (e := sFact) rfl (by simp; omega)
    have e2 : rd sFact (A ++ (Y ++ [u]) ++ x :: (Z2 ++ T)) (j - 1) = u := rd_app (e := sFact) hL (by simp; omega)
    cases hc : lessF x u with
    | true =>
      obtain ⟨Z', p1, p2, p3⟩ := ins_in a0 a1 a2 i k A Y (u :: Z2) T x hy h1 (by simp; omega) (by simp; omega) (by simpa using hs) (fun z hz' => by
        rcases List.mem_cons.1 hz' with rfl | hz'
        · exact hc
        · exact hz z hz') (j - 1) (by omega)
      refine ⟨Z', by simpa using p1, p2, fun r hr => ?_⟩
      have h3 := p3 r hr
      generalize A ++ (Y ++ [u]) ++ x :: (Z2 ++ T) = L at hlen sw e1 e2 ⊢
      refine V.slices_insertionSortCmpFunc_apiFact_by_facts_Compare.l10010010.of _ _ _ _ _ _ ?_
      unfold F.slices_insertionSortCmpFunc_apiFact_by_facts_Compare.l10010010.B
      rw [if_yes (by omega), guard_in (by omega), show ((j : Int) - 1) = ((j : Int) - ((1 : Nat) : Int)) from rfl, w64_sub (x := j) (y := 1) (by omega) (by omega), guard_in (by omega)]
      simp only [nat_cast]
      rw [show V.facts_Compare ((rd sFact L j).1, (rd sFact L j).2.1, (rd sFact L j).2.2.1, (rd sFact L j).2.2.2) ((rd sFact L (j - 1)).1, (rd sFact L (j - 1)).2.1, (rd sFact L (j - 1)).2.2.1, (rd sFact L (j - 1)).2.2.2) = some (cmpF (rd sFact L j) (rd sFact L (j - 1))) from Compare_ok _ _, Option.bind_some, cmpF_dec, (show lessF (rd sFact L j) (rd sFact L (j - 1)) = true from by rw [e1, e2]; exact hc), cond_true, guard_in (by omega), guard_in (by omega), meet_self, guard_in (by omega), guard_in (by rw [List.length_set]; omega)]
      rw [← h3]
      show V.slices_insertionSortCmpFunc_apiFact_by_facts_Compare.l10010010 a0 (a1 : Int) a2 (i : Int) ((j - 1 : Nat) : Int) ((L.set j (rd sFact L (j - 1))).set (j - 1) (rd sFact L j)) = _
      rw [sw]
      simp
    | false =>
      refine ⟨(Y ++ [u]) ++ x :: Z2, List.perm_middle, insert_down weakF hs (.inr ⟨Y, u, rfl, hc⟩) ?_, fun r hr => ?_⟩
      · cases Z2 with
        | nil => exact .inl rfl
        | cons v w => exact .inr ⟨v, w, rfl, hz v (by simp)⟩
      · have hr' : V.slices_insertionSortCmpFunc_apiFact_by_facts_Compare.l10 a0 (a1 : Int) a2 ((i + 1 : Nat) : Int) (A ++ (Y ++ [u]) ++ x :: (Z2 ++ T)) = some r := by rw [← hr]; simp
        generalize A ++ (Y ++ [u]) ++ x :: (Z2 ++ T) = L at hlen sw e1 e2 hr' ⊢
        refine V.slices_insertionSortCmpFunc_apiFact_by_facts_Compare.l10010010.of _ _ _ _ _ _ ?_
        unfold F.slices_insertionSortCmpFunc_apiFact_by_facts_Compare.l10010010.B
        rw [if_yes (by omega), guard_in (by omega), show ((j : Int) - 1) = ((j : Int) - ((1 : Nat) : Int)) from rfl, w64_sub (x := j) (y := 1) (by omega) (by omega), guard_in (by omega)]
        simp only [nat_cast]
        rw [show V.facts_Compare ((rd sFact L j).1, (rd sFact L j).2.1, (rd sFact L j).2.2.1, (rd sFact L j).2.2.2) ((rd sFact L (j - 1)).1, (rd sFact L (j - 1)).2.1, (rd sFact L (j - 1)).2.2.1, (rd sFact L (j - 1)).2.2.2) = some (cmpF (rd sFact L j) (rd sFact L (j - 1))) from Compare_ok _ _, Option.bind_some, cmpF_dec, (show lessF (rd sFact L j) (rd sFact L (j - 1)) = false from by rw [e1, e2]; exact hc), cond_false, w64_up (i := i) (n := i + 1) (by omega) (by omega)]
        exact hr'
theorem ins_out (a0 : List TFact) (a1 b : Nat) : ∀ (d : Nat) (i : Nat) (A Z T : List TFact), a1 = A.length → i = A.length + Z.length → i + d = b → d ≤ T.length → (A ++ Z ++ T).length ≤ 35184372088832 → Srt lessF Z →
    ∃ Z', Z'.Perm (Z ++ T.take d) ∧ Srt lessF Z' ∧ V.slices_insertionSortCmpFunc_apiFact_by_facts_Compare.l10 a0 (a1 : Int) (b : Int) (i : Int) (A ++ Z ++ T) = some (A ++ Z' ++ T.drop d)
  | 0, i, A, Z, T, h1, hi, hd, ht, hb, hs => by
    refine ⟨Z, by simp, hs, ?_⟩
    refine V.slices_insertionSortCmpFunc_apiFact_by_facts_Compare.l10.of _ _ _ _ _ ?_
    unfold F.slices_insertionSortCmpFunc_apiFact_by_facts_Compare.l10.B
    rw [if_no (by omega)]
    rfl
  | d + 1, i, A, Z, [], h1, hi, hd, ht, hb, hs => by simp at ht
  | d + 1, i, A, Z, x :: T, h1, hi, hd, ht, hb, hs => by
    obtain ⟨Z', p1, p2, p3⟩ := ins_in a0 a1 (b : Int) i Z.length A Z [] T x rfl h1 (by simpa using hi) (by simpa using hb) (by simpa using hs) (by simp) i (by simpa using hi)
    have hl := p1.length_eq
    simp at hl
    have hb' := hb
    simp only [List.length_append, List.length_cons] at hb' ht
    obtain ⟨Z2, q1, q2, q3⟩ := ins_out a0 a1 b d (i + 1) A Z' T h1 (by omega) (by omega) (by omega) (by simp only [List.length_append]; omega) p2
    refine ⟨Z2, ?_, q2, ?_⟩
    · refine q1.trans ?_
      rw [List.take_succ_cons]
      refine (p1.append_right _).trans ?_
      simp only [List.append_nil]
      exact List.perm_middle.symm
    · refine V.slices_insertionSortCmpFunc_apiFact_by_facts_Compare.l10.of _ _ _ _ _ ?_
      unfold F.slices_insertionSortCmpFunc_apiFact_by_facts_Compare.l10.B
      rw [if_yes (by omega)]
      exact p3 _ q3
theorem ins_ok (l : List TFact) (a b : Nat) (h : a ≤ b) (hbl : b ≤ l.length) (hb : l.length ≤ 35184372088832) : ∃ l', V.slices_insertionSortCmpFunc_apiFact_by_facts_Compare l (a : Int) (b : Int) = some l' ∧ Done lessF a b l l' := by
  have hl : (l.take a).length = a := by rw [List.length_take]; omega
  rcases Nat.eq_or_lt_of_le h with e | e
  · subst e
    refine ⟨l, ?_, ⟨[], by simp, by rw [List.drop_eq_nil_of_le (by rw [List.length_take]; omega)], srt_nil⟩⟩
    refine V.slices_insertionSortCmpFunc_apiFact_by_facts_Compare.of _ _ _ ?_
    unfold F.slices_insertionSortCmpFunc_apiFact_by_facts_Compare.B
    rw [w64_up (i := a) (n := a + 1) (by omega) (by omega)]
    refine V.slices_insertionSortCmpFunc_apiFact_by_facts_Compare.l10.of _ _ _ _ _ ?_
    unfold F.slices_insertionSortCmpFunc_apiFact_by_facts_Compare.l10.B
    rw [if_no (by omega)]
  · have hlt : a < l.length := by omega
    have e1 : l = l.take a ++ [l[a]] ++ l.drop (a + 1) := by
      rw [List.append_assoc, List.singleton_append, ← List.drop_eq_getElem_cons hlt, List.take_append_drop]
    obtain ⟨Z', q1, q2, q3⟩ := ins_out l a b (b - (a + 1)) (a + 1) (l.take a) [l[a]] (l.drop (a + 1)) (by omega) (by simp; omega) (by omega) (by rw [List.length_drop]; omega) (by rw [← e1]; exact hb) (srt_one _)
    refine ⟨l.take a ++ Z' ++ l.drop b, ?_, ⟨Z', rfl, ?_, q2⟩⟩
    · refine V.slices_insertionSortCmpFunc_apiFact_by_facts_Compare.of _ _ _ ?_
      unfold F.slices_insertionSortCmpFunc_apiFact_by_facts_Compare.B
      rw [w64_up (i := a) (n := a + 1) (by omega) (by omega)]
      rw [← e1, List.drop_drop, show a + 1 + (b - (a + 1)) = b by omega] at q3
      exact q3
    · refine q1.trans ?_
      have e2 : (l.take b).drop a = [l[a]] ++ (l.drop (a + 1)).take (b - (a + 1)) := by
        rw [List.drop_take, List.drop_eq_getElem_cons hlt, show b - a = (b - (a + 1)) + 1 by omega, List.take_succ_cons]
        rfl
      rw [e2]

/-! ### Merging by halves -/

theorem find_gen {R : Type} (p : Nat → Bool) (S : Int → Int → Option R) (E : Nat → Option R) :
    ∀ (d lo hi : Nat), hi - lo ≤ d → lo ≤ hi →
    (∀ (lo' hi' : Nat) r, lo ≤ lo' → lo' < hi' → hi' ≤ hi → (if p ((lo' + hi') / 2) = true then S (((lo' + hi') / 2 + 1 : Nat) : Int) (hi' : Int) else S (lo' : Int) (((lo' + hi') / 2 : Nat) : Int)) = some r → S (lo' : Int) (hi' : Int) = some r) →
    (∀ (i : Nat) r, lo ≤ i → i ≤ hi → E i = some r → S (i : Int) (i : Int) = some r) →
    ∃ i, lo ≤ i ∧ i ≤ hi ∧ (i = lo ∨ p (i - 1) = true) ∧ (i = hi ∨ p i = false) ∧ ∀ r, E i = some r → S (lo : Int) (hi : Int) = some r := by
  intro d
  induction d with
  | zero =>
    intro lo hi h hle h1 h2
    have e : lo = hi := by omega
    subst e
    exact ⟨lo, Nat.le_refl _, Nat.le_refl _, .inl rfl, .inl rfl, fun r hr => h2 lo r (Nat.le_refl _) (Nat.le_refl _) hr⟩
  | succ d ih =>
    intro lo hi h hle h1 h2
    rcases Nat.eq_or_lt_of_le hle with e | e
    · subst e
      exact ⟨lo, Nat.le_refl _, Nat.le_refl _, .inl rfl, .inl rfl, fun r hr => h2 lo r (Nat.le_refl _) (Nat.le_refl _) hr⟩
    · cases hp : p ((lo + hi) / 2) with
      | true =>
        obtain ⟨i, g1, g2, g3, g4, g5⟩ := ih ((lo + hi) / 2 + 1) hi (by omega) (by omega) (fun lo' hi' r q1 q2 q3 => h1 lo' hi' r (by omega) q2 q3) (fun i r q1 q2 => h2 i r (by omega) q2)
        refine ⟨i, by omega, g2, ?_, g4, fun r hr => h1 lo hi r (Nat.le_refl _) e (Nat.le_refl _) (by rw [if_pos hp]; exact g5 r hr)⟩
        rcases g3 with g3 | g3
        · right; rw [g3, Nat.add_sub_cancel]; exact hp
        · exact .inr g3
      | false =>
        obtain ⟨i, g1, g2, g3, g4, g5⟩ := ih lo ((lo + hi) / 2) (by omega) (by omega) (fun lo' hi' r q1 q2 q3 => h1 lo' hi' r q1 q2 (by omega)) (fun i r q1 q2 => h2 i r q1 (by omega))
        refine ⟨i, g1, by omega, g3, ?_, fun r hr => h1 lo hi r (Nat.le_refl _) e (Nat.le_refl _) (by rw [if_neg (by rw [hp]; simp)]; exact g5 r hr)⟩
        rcases g4 with g4 | g4
        · right; rw [g4]; exact hp
        · exact .inr g4

theorem up_l (a0 : List TFact) (a1 a2 a3 : Int) (A Y1 T : List TFact) (x : TFact) (hb : (A ++ (Y1 ++ x :: T)).length ≤ 35184372088832) (i : Nat) (hi : i = A.length + 1 + Y1.length) : ∀ d t : Nat, t + d = Y1.length → ∀ k : Nat, k = A.length + t →
    V.slices_symMergeCmpFunc_apiFact_by_facts_Compare.l010111010 a0 a1 a2 a3 (i : Int) (k : Int) (A ++ (Y1.take t ++ x :: (Y1.drop t ++ T))) = some (A ++ (Y1 ++ x :: T))
  | 0, t, h, k, hk => by
    simp only [List.length_append, List.length_cons] at hb
    refine V.slices_symMergeCmpFunc_apiFact_by_facts_Compare.l010111010.of _ _ _ _ _ _ _ ?_
    unfold F.slices_symMergeCmpFunc_apiFact_by_facts_Compare.l010111010.B
    rw [show ((i : Int) - 1) = ((i : Int) - ((1 : Nat) : Int)) from rfl, w64_sub (x := i) (y := 1) (by omega) (by omega), if_no (by omega), List.take_of_length_le (by omega), List.drop_eq_nil_of_le (by omega)]
    rfl
  | d + 1, t, h, k, hk => by
    have hb' := hb
    simp only [List.length_append, List.length_cons] at hb'
    have ht : t < Y1.length := by omega
    obtain ⟨u, hu⟩ : ∃ u, Y1.drop t = u :: Y1.drop (t + 1) := ⟨_, List.drop_eq_getElem_cons ht⟩
    have tu : Y1.take (t + 1) = Y1.take t ++ [u] := by
      rw [List.take_add_one, ← List.head?_drop, hu]; rfl
    have lt' : (Y1.take t).length = t := by rw [List.length_take]; omega
    have ld : (Y1.drop (t + 1)).length = Y1.length - (t + 1) := List.length_drop
    have hL : A ++ (Y1.take t ++ x :: (Y1.drop t ++ T)) = (A ++ Y1.take t) ++ x :: ([] ++ u :: (Y1.drop (t + 1) ++ T)) := by rw [hu]; simp
    have hlen : (A ++ (Y1.take t ++ x :: (Y1.drop t ++ T))).length = A.length + 1 + Y1.length + T.length := by simp; omega
    have sw := swap_rd (e := sFact) hL (i := k) (j := k + 1) (by simp; omega) (by simp; omega)
    have ih := up_l a0 a1 a2 a3 A Y1 T x hb i hi d (t + 1) (by omega) (k + 1) (by omega)
    generalize A ++ (Y1.take t ++ x :: (Y1.drop t ++ T)) = L at hlen sw ⊢
    refine V.slices_symMergeCmpFunc_apiFact_by_facts_Compare.l010111010.of _ _ _ _ _ _ _ ?_
    unfold F.slices_symMergeCmpFunc_apiFact_by_facts_Compare.l010111010.B
    rw [show ((i : Int) - 1) = ((i : Int) - ((1 : Nat) : Int)) from rfl, w64_sub (x := i) (y := 1) (by omega) (by omega), if_yes (by omega), w64_up (i := k) (n := k + 1) (by omega) (by omega), guard_in (by omega), guard_in (by omega), meet_self, guard_in (by omega), guard_in (by rw [List.length_set]; omega)]
    simp only [nat_cast]
    refine V.slices_symMergeCmpFunc_apiFact_by_facts_Compare.j010111010011.of _ _ _ _ _ _ _ ?_
    unfold F.slices_symMergeCmpFunc_apiFact_by_facts_Compare.j010111010011.B
    rw [w64_up (i := k) (n := k + 1) (by omega) (by omega), ← ih]
    show V.slices_symMergeCmpFunc_apiFact_by_facts_Compare.l010111010 a0 a1 a2 a3 (i : Int) ((k + 1 : Nat) : Int) ((L.set k (rd sFact L (k + 1))).set (k + 1) (rd sFact L k)) = _
    rw [sw, tu]
    simp
theorem down_l (a0 : List TFact) (a1 a2 a3 : Int) (y : TFact) (i : Nat) : ∀ (d : Nat) (B P T : List TFact), P.length = d → i = B.length → (B ++ (P ++ y :: T)).length ≤ 35184372088832 → ∀ k : Nat, k = B.length + P.length →
    V.slices_symMergeCmpFunc_apiFact_by_facts_Compare.l1010111010 a0 a1 a2 a3 (i : Int) (k : Int) (B ++ (P ++ y :: T)) = some (B ++ y :: (P ++ T))
  | 0, B, P, T, h, hi, hb, k, hk => by
    have : P = [] := List.length_eq_zero_iff.1 h
    subst this
    refine V.slices_symMergeCmpFunc_apiFact_by_facts_Compare.l1010111010.of _ _ _ _ _ _ _ ?_
    unfold F.slices_symMergeCmpFunc_apiFact_by_facts_Compare.l1010111010.B
    simp only [List.length_nil] at hk
    rw [if_no (by omega)]
    rfl
  | d + 1, B, P, T, h, hi, hb, k, hk => by
    obtain ⟨Q, u, rfl, hq⟩ := snoc_of h
    have hb' := hb
    simp only [List.length_append, List.length_cons, List.length_nil] at hb' hk
    have hL : B ++ ((Q ++ [u]) ++ y :: T) = (B ++ Q) ++ u :: ([] ++ y :: T) := by simp
    have hlen : (B ++ ((Q ++ [u]) ++ y :: T)).length = B.length + Q.length + 2 + T.length := by simp; omega
    have sw := swap_rd' (e := sFact) hL (i := k - 1) (j := k) (by simp; omega) (by simp; omega)
    have ih := down_l a0 a1 a2 a3 y i d B Q (u :: T) hq hi (by simp; omega) (k - 1) (by omega)
    generalize B ++ ((Q ++ [u]) ++ y :: T) = L at hlen sw ⊢
    refine V.slices_symMergeCmpFunc_apiFact_by_facts_Compare.l1010111010.of _ _ _ _ _ _ _ ?_
    unfold F.slices_symMergeCmpFunc_apiFact_by_facts_Compare.l1010111010.B
    rw [if_yes (by omega), show ((k : Int) - 1) = ((k : Int) - ((1 : Nat) : Int)) from rfl, w64_sub (x := k) (y := 1) (by omega) (by omega), guard_in (by omega), guard_in (by omega), meet_self, guard_in (by omega), guard_in (by rw [List.length_set]; omega)]
    simp only [nat_cast]
    refine V.slices_symMergeCmpFunc_apiFact_by_facts_Compare.j1010111010011.of _ _ _ _ _ _ _ ?_
    unfold F.slices_symMergeCmpFunc_apiFact_by_facts_Compare.j1010111010011.B
    rw [show ((k : Int) - 1) = ((k : Int) - ((1 : Nat) : Int)) from rfl, w64_sub (x := k) (y := 1) (by omega) (by omega)]
    show V.slices_symMergeCmpFunc_apiFact_by_facts_Compare.l1010111010 a0 a1 a2 a3 (i : Int) ((k - 1 : Nat) : Int) ((L.set k (rd sFact L (k - 1))).set (k - 1) (rd sFact L k)) = _
    rw [sw]
    have e : (B ++ Q) ++ y :: ([] ++ u :: T) = B ++ (Q ++ y :: (u :: T)) := by simp
    rw [e, ih]
    simp

/-- A place in the midst of a row. -/
theorem rd_mid {A X R : List TFact} {c : Nat} (h1 : A.length ≤ c) (h2 : c < A.length + X.length) : rd sFact (A ++ X ++ R) c = rd sFact X (c - A.length) := by
  show (A ++ X ++ R).getD c _ = X.getD (c - A.length) _
  rw [List.getD_eq_getElem?_getD, List.getD_eq_getElem?_getD, List.getElem?_append_left (by simp; omega), List.getElem?_append_right h1]
theorem part_last {l : List TFact} {k : Nat} (h : 0 < k) (hk : k ≤ l.length) : ∃ x, l.take k = x ++ [rd sFact l (k - 1)] := ⟨l.take (k - 1), by
  have := take_rd (e := sFact) (l := l) (i := k - 1) (by omega)
  rwa [show k - 1 + 1 = k by omega] at this⟩

end Go.Proofs.Ytdblhdpnllckhaa.AE
end
section
set_option linter.unusedVariables false
set_option linter.unusedSimpArgs false
set_option maxRecDepth 20000
namespace Go.Proofs.Ytdblhdpnllckhaa.AE
open Go

theorem cmp_rd (L : List TFact) (i j : Nat) : V.facts_Compare ((rd sFact L i).1, (rd sFact L i).2.1, (rd sFact L i).2.2.1, (rd sFact L i).2.2.2) ((rd sFact L j).1, (rd sFact L j).2.1, (rd sFact L j).2.2.1, (rd sFact L j).2.2.2) = some (cmpF (rd sFact L i) (rd sFact L j)) := Compare_ok _ _
theorem part_first {l : List TFact} {k : Nat} (hk : k < l.length) : l.drop k = rd sFact l k :: l.drop (k + 1) := drop_rd (e := sFact) hk

theorem sym_one (A Y S : List TFact) (x : TFact) (hs : Srt lessF Y) (hb : (A ++ [x] ++ Y ++ S).length ≤ 35184372088832) (a m b : Nat) (ha : a = A.length) (hm : m = a + 1) (hbb : b = m + Y.length) :
    ∃ Z, Z.Perm ([x] ++ Y) ∧ Srt lessF Z ∧ V.slices_symMergeCmpFunc_apiFact_by_facts_Compare.l0101100 (A ++ [x] ++ Y ++ S) (a : Int) (m : Int) (b : Int) (m : Int) (b : Int) = some (A ++ Z ++ S) := by
  have hlen : (A ++ [x] ++ Y ++ S).length = A.length + 1 + Y.length + S.length := by simp; omega
  have ex : rd sFact (A ++ [x] ++ Y ++ S) a = x := rd_app (e := sFact) (x := A) (y := Y ++ S) (by simp) ha
  have ey : ∀ c, m ≤ c → c < b → rd sFact (A ++ [x] ++ Y ++ S) c = rd sFact Y (c - m) := fun c h1 h2 => by
    have := rd_mid (A := A ++ [x]) (X := Y) (R := S) (c := c) (by simp; omega) (by simp; omega)
    rw [this]; congr 1; simp; omega
  obtain ⟨i, g1, g2, g3, g4, g5⟩ := find_gen (fun h => lessF (rd sFact (A ++ [x] ++ Y ++ S) h) x)
    (fun i j => V.slices_symMergeCmpFunc_apiFact_by_facts_Compare.l0101100 (A ++ [x] ++ Y ++ S) (a : Int) (m : Int) (b : Int) i j)
    (fun i => V.slices_symMergeCmpFunc_apiFact_by_facts_Compare.l010111010 (A ++ [x] ++ Y ++ S) (a : Int) (m : Int) (b : Int) (i : Int) (a : Int) (A ++ [x] ++ Y ++ S)) (b - m) m b (by omega) (by omega)
    (fun lo hi r q1 q2 q3 hr => by
      refine V.slices_symMergeCmpFunc_apiFact_by_facts_Compare.l0101100.of _ _ _ _ _ _ ?_
      unfold F.slices_symMergeCmpFunc_apiFact_by_facts_Compare.l0101100.B
      rw [if_yes (by omega), half_nat' (by omega), guard_in (by omega), guard_in (by omega), nat_cast, nat_cast, cmp_rd, Option.bind_some, cmpF_dec, w64_up (n := b) (by omega) (by omega), ← hr, ex]
      cases lessF (rd sFact (A ++ [x] ++ Y ++ S) ((lo + hi) / 2)) x <;> rfl)
    (fun i r q1 q2 hr => by
      refine V.slices_symMergeCmpFunc_apiFact_by_facts_Compare.l0101100.of _ _ _ _ _ _ ?_
      unfold F.slices_symMergeCmpFunc_apiFact_by_facts_Compare.l0101100.B
      rw [if_no (by omega)]
      exact hr)
  have eY : Y = Y.take (i - m) ++ Y.drop (i - m) := (List.take_append_drop _ _).symm
  have l1 : (Y.take (i - m)).length = i - m := by rw [List.length_take]; omega
  refine ⟨Y.take (i - m) ++ x :: Y.drop (i - m), ?_, insert_up weakF (by rw [← eY]; exact hs) ?_ ?_, ?_⟩
  · conv => rhs; rw [eY]
    exact List.perm_middle
  · rcases Nat.eq_or_lt_of_le g1 with e | e
    · left; rw [show i - m = 0 by omega]; rfl
    · right
      obtain ⟨y, hy⟩ := part_last (l := Y) (k := i - m) (by omega) (by omega)
      refine ⟨y, _, hy, ?_⟩
      rcases g3 with g3 | g3
      · omega
      · rw [ey (i - 1) (by omega) (by omega), show i - 1 - m = i - m - 1 by omega] at g3
        exact g3
  · rcases Nat.eq_or_lt_of_le g2 with e | e
    · left; exact List.drop_eq_nil_of_le (by omega)
    · right
      refine ⟨_, _, part_first (by omega), ?_⟩
      rcases g4 with g4 | g4
      · omega
      · rwa [ey i (by omega) (by omega)] at g4
  · refine g5 _ ?_
    have := up_l (A ++ [x] ++ Y ++ S) (a : Int) (m : Int) (b : Int) A (Y.take (i - m)) (Y.drop (i - m) ++ S) x (by simp; omega) i (by omega) (i - m) 0 (by omega) a (by omega)
    rw [List.take_zero, List.drop_zero, List.nil_append] at this
    have e2 : A ++ (x :: (Y.take (i - m) ++ (Y.drop (i - m) ++ S))) = A ++ [x] ++ Y ++ S := by
      rw [← List.append_assoc (Y.take (i - m)), List.take_append_drop]; simp
    rw [e2] at this
    rw [this]
    simp
theorem sym_one' (A X S : List TFact) (y : TFact) (hs : Srt lessF X) (hb : (A ++ X ++ [y] ++ S).length ≤ 35184372088832) (a m b : Nat) (ha : a = A.length) (hm : m = a + X.length) (hbb : b = m + 1) :
    ∃ Z, Z.Perm (X ++ [y]) ∧ Srt lessF Z ∧ V.slices_symMergeCmpFunc_apiFact_by_facts_Compare.l10101100 (A ++ X ++ [y] ++ S) (a : Int) (m : Int) (b : Int) (a : Int) (m : Int) = some (A ++ Z ++ S) := by
  have hlen : (A ++ X ++ [y] ++ S).length = A.length + X.length + 1 + S.length := by simp; omega
  have ey : rd sFact (A ++ X ++ [y] ++ S) m = y := rd_app (e := sFact) (x := A ++ X) (y := S) (by simp) (by simp; omega)
  have exx : ∀ c, a ≤ c → c < m → rd sFact (A ++ X ++ [y] ++ S) c = rd sFact X (c - a) := fun c h1 h2 => by
    have := rd_mid (A := A) (X := X) (R := [y] ++ S) (c := c) (by omega) (by omega)
    rw [show A ++ X ++ [y] ++ S = A ++ X ++ ([y] ++ S) by simp, this, ha]
  obtain ⟨i, g1, g2, g3, g4, g5⟩ := find_gen (fun h => !lessF y (rd sFact (A ++ X ++ [y] ++ S) h))
    (fun i j => V.slices_symMergeCmpFunc_apiFact_by_facts_Compare.l10101100 (A ++ X ++ [y] ++ S) (a : Int) (m : Int) (b : Int) i j)
    (fun i => V.slices_symMergeCmpFunc_apiFact_by_facts_Compare.l1010111010 (A ++ X ++ [y] ++ S) (a : Int) (m : Int) (b : Int) (i : Int) (m : Int) (A ++ X ++ [y] ++ S)) (m - a) a m (by omega) (by omega)
    (fun lo hi r q1 q2 q3 hr => by
      refine V.slices_symMergeCmpFunc_apiFact_by_facts_Compare.l10101100.of _ _ _ _ _ _ ?_
      unfold F.slices_symMergeCmpFunc_apiFact_by_facts_Compare.l10101100.B
      rw [if_yes (by omega), half_nat' (by omega), guard_in (by omega), guard_in (by omega), nat_cast, nat_cast, cmp_rd, Option.bind_some, cmpF_dec, w64_up (n := m) (by omega) (by omega), ← hr, ey]
      cases lessF y (rd sFact (A ++ X ++ [y] ++ S) ((lo + hi) / 2)) <;> rfl)
    (fun i r q1 q2 hr => by
      refine V.slices_symMergeCmpFunc_apiFact_by_facts_Compare.l10101100.of _ _ _ _ _ _ ?_
      unfold F.slices_symMergeCmpFunc_apiFact_by_facts_Compare.l10101100.B
      rw [if_no (by omega)]
      exact hr)
  have eX : X = X.take (i - a) ++ X.drop (i - a) := (List.take_append_drop _ _).symm
  have l1 : (X.take (i - a)).length = i - a := by rw [List.length_take]; omega
  have l2 : (X.drop (i - a)).length = X.length - (i - a) := List.length_drop
  refine ⟨X.take (i - a) ++ y :: X.drop (i - a), ?_, insert_down weakF (by rw [← eX]; exact hs) ?_ ?_, ?_⟩
  · conv => rhs; rw [eX]
    exact List.perm_middle.trans (List.perm_append_comm (l₁ := [y]))
  · rcases Nat.eq_or_lt_of_le g1 with e | e
    · left; rw [show i - a = 0 by omega]; rfl
    · right
      obtain ⟨z, hz⟩ := part_last (l := X) (k := i - a) (by omega) (by omega)
      refine ⟨z, _, hz, ?_⟩
      rcases g3 with g3 | g3
      · omega
      · rw [exx (i - 1) (by omega) (by omega), show i - 1 - a = i - a - 1 by omega] at g3
        simpa using g3
  · rcases Nat.eq_or_lt_of_le g2 with e | e
    · left; exact List.drop_eq_nil_of_le (by omega)
    · right
      refine ⟨_, _, part_first (by omega), ?_⟩
      rcases g4 with g4 | g4
      · omega
      · rw [exx i (by omega) (by omega)] at g4
        simpa using g4
  · refine g5 _ ?_
    have := down_l (A ++ X ++ [y] ++ S) (a : Int) (m : Int) (b : Int) y i (X.drop (i - a)).length (A ++ X.take (i - a)) (X.drop (i - a)) S rfl (by simp; omega) (by simp; omega) m (by simp; omega)
    have e2 : (A ++ X.take (i - a)) ++ (X.drop (i - a) ++ y :: S) = A ++ X ++ [y] ++ S := by
      rw [List.append_assoc A, ← List.append_assoc (X.take (i - a)), List.take_append_drop]; simp
    rw [e2] at this
    rw [this]
    simp

set_option maxHeartbeats 2000000 in
theorem sym_ok : ∀ (k : Nat) (A X Y S : List TFact) (a m b : Nat), X.length + Y.length ≤ k → 0 < X.length → 0 < Y.length → (A ++ X ++ Y ++ S).length ≤ 35184372088832 → Srt lessF X → Srt lessF Y → a = A.length → m = a + X.length → b = m + Y.length →
    ∃ Z, Z.Perm (X ++ Y) ∧ Srt lessF Z ∧ V.slices_symMergeCmpFunc_apiFact_by_facts_Compare (A ++ X ++ Y ++ S) (a : Int) (m : Int) (b : Int) = some (A ++ Z ++ S)
  | 0, A, X, Y, S, a, m, b, h, hx, hy, hb, sx, sy, ha, hm, hbb => by omega
  | k + 1, A, X, Y, S, a, m, b, h, hx, hy, hb, sx, sy, ha, hm, hbb => by
    have hlen : (A ++ X ++ Y ++ S).length = A.length + X.length + Y.length + S.length := by simp; omega
    have hbn : A.length + X.length + Y.length + S.length ≤ 35184372088832 := hlen ▸ hb
    -- what the search by halves finds
    have mid_eq : w64 (Int.fdiv (IntKind.wrap .u64 (w64 ((a : Int) + (b : Int)))) (2 ^ 1)) = (((a + b) / 2 : Nat) : Int) := half_nat' (by omega)
    by_cases h1 : X.length = 1
    · obtain ⟨x, rfl⟩ := List.length_eq_one_iff.1 h1
      obtain ⟨Z, p1, p2, p3⟩ := sym_one A Y S x sy hb a m b ha (by omega) hbb
      refine ⟨Z, p1, p2, V.slices_symMergeCmpFunc_apiFact_by_facts_Compare.of _ _ _ _ ?_⟩
      unfold F.slices_symMergeCmpFunc_apiFact_by_facts_Compare.B
      rw [w64_sub (x := m) (y := a) (by omega) (by omega), show (((m - a : Nat) : Int) == 1) = true by simp; omega, cond_true]
      exact p3
    · by_cases h2 : Y.length = 1
      · obtain ⟨y, rfl⟩ := List.length_eq_one_iff.1 h2
        obtain ⟨Z, p1, p2, p3⟩ := sym_one' A X S y sx hb a m b ha hm (by simpa using hbb)
        refine ⟨Z, p1, p2, V.slices_symMergeCmpFunc_apiFact_by_facts_Compare.of _ _ _ _ ?_⟩
        unfold F.slices_symMergeCmpFunc_apiFact_by_facts_Compare.B
        rw [w64_sub (x := m) (y := a) (by omega) (by omega), show (((m - a : Nat) : Int) == 1) = false by simp; omega, cond_false, w64_sub (x := b) (y := m) (by omega) (by omega), show (((b - m : Nat) : Int) == 1) = true by simp; simp at hbb; omega, cond_true]
        exact p3
      · obtain ⟨mid, hmid⟩ : ∃ mid, mid = (a + b) / 2 := ⟨_, rfl⟩
        rw [← hmid] at mid_eq
        obtain ⟨s0, r0, hs0⟩ : ∃ s0 r0 : Nat, (mid < m ∧ s0 = mid + m - b ∧ r0 = mid) ∨ (m ≤ mid ∧ s0 = a ∧ r0 = m) := by
          rcases Nat.lt_or_ge mid m with g | g
          · exact ⟨_, _, .inl ⟨g, rfl, rfl⟩⟩
          · exact ⟨_, _, .inr ⟨g, rfl, rfl⟩⟩
        have exx : ∀ c, a ≤ c → c < m → rd sFact (A ++ X ++ Y ++ S) c = rd sFact X (c - a) := fun c q1 q2 => by
          have := rd_mid (A := A) (X := X) (R := Y ++ S) (c := c) (by omega) (by omega)
          rw [show A ++ X ++ Y ++ S = A ++ X ++ (Y ++ S) by simp, this, ha]
        have eyy : ∀ c, m ≤ c → c < b → rd sFact (A ++ X ++ Y ++ S) c = rd sFact Y (c - m) := fun c q1 q2 => by
          have := rd_mid (A := A ++ X) (X := Y) (R := S) (c := c) (by simp; omega) (by simp; omega)
          rw [this]; congr 1; simp; omega
        obtain ⟨L, hL⟩ : ∃ L, L = A ++ X ++ Y ++ S := ⟨_, rfl⟩
        rw [← hL] at hlen exx eyy ⊢
        obtain ⟨st, g1, g2, g3, g4, g5⟩ := find_gen (fun c => !lessF (rd sFact L (mid + m - 1 - c)) (rd sFact L c))
          (fun i j => V.slices_symMergeCmpFunc_apiFact_by_facts_Compare.l111111100 L (a : Int) (m : Int) (b : Int) i j)
          (fun c => bif decide (c < m) then V.slices_symMergeCmpFunc_apiFact_by_facts_Compare.j11111111101 L (a : Int) (m : Int) (b : Int) (c : Int) ((mid + m - c : Nat) : Int) (decide (m < mid + m - c)) else V.slices_symMergeCmpFunc_apiFact_by_facts_Compare.j11111111101 L (a : Int) (m : Int) (b : Int) (c : Int) ((mid + m - c : Nat) : Int) false) (r0 - s0) s0 r0 (by omega) (by omega)
          (fun lo hi r q1 q2 q3 hr => by
            refine V.slices_symMergeCmpFunc_apiFact_by_facts_Compare.l111111100.of _ _ _ _ _ _ ?_
            unfold F.slices_symMergeCmpFunc_apiFact_by_facts_Compare.l111111100.B
            rw [if_yes (by omega), mid_eq, half_nat' (by omega), w64_add (x := mid) (y := m) (by omega), show (((mid + m : Nat) : Int) - 1) = (((mid + m : Nat) : Int) - ((1 : Nat) : Int)) from rfl, w64_sub (x := mid + m) (y := 1) (by omega) (by omega), w64_sub (x := mid + m - 1) (y := (lo + hi) / 2) (by omega) (by omega), guard_in (by omega), guard_in (by omega), nat_cast, nat_cast, cmp_rd, Option.bind_some, cmpF_dec, w64_up (n := r0) (by omega) (by omega), ← hr]
            cases lessF (rd sFact L (mid + m - 1 - (lo + hi) / 2)) (rd sFact L ((lo + hi) / 2)) <;> rfl)
          (fun i r q1 q2 hr => by
            refine V.slices_symMergeCmpFunc_apiFact_by_facts_Compare.l111111100.of _ _ _ _ _ _ ?_
            unfold F.slices_symMergeCmpFunc_apiFact_by_facts_Compare.l111111100.B
            rw [if_no (by omega), mid_eq, w64_add (x := mid) (y := m) (by omega), w64_sub (x := mid + m) (y := i) (by omega) (by omega), ← hr]
            by_cases q : i < m
            · rw [if_yes (by omega), if_yes q]
              congr 2
              exact propext (by omega)
            · rw [if_no (by omega), if_no q])
        obtain ⟨en, hen⟩ : ∃ en, en = mid + m - st := ⟨_, rfl⟩
        rw [← hen] at g5
        have b1 : a ≤ st := by omega
        have b2 : st ≤ m := by omega
        have b3 : m ≤ en := by omega
        have b4 : en ≤ b := by omega
        obtain ⟨X1, hX1⟩ : ∃ X1, X1 = X.take (st - a) := ⟨_, rfl⟩
        obtain ⟨X2, hX2⟩ : ∃ X2, X2 = X.drop (st - a) := ⟨_, rfl⟩
        obtain ⟨Y1, hY1⟩ : ∃ Y1, Y1 = Y.take (en - m) := ⟨_, rfl⟩
        obtain ⟨Y2, hY2⟩ : ∃ Y2, Y2 = Y.drop (en - m) := ⟨_, rfl⟩
        have eX : X = X1 ++ X2 := by rw [hX1, hX2, List.take_append_drop]
        have eY : Y = Y1 ++ Y2 := by rw [hY1, hY2, List.take_append_drop]
        have lX1 : X1.length = st - a := by rw [hX1, List.length_take]; omega
        have lX2 : X2.length = m - st := by rw [hX2, List.length_drop]; omega
        have lY1 : Y1.length = en - m := by rw [hY1, List.length_take]; omega
        have lY2 : Y2.length = b - en := by rw [hY2, List.length_drop]; omega
        rw [eX] at sx
        rw [eY] at sy
        have hh := halves weakF sx sy
          (by
            by_cases q : st = s0
            · rcases hs0 with ⟨q1, q2, q3⟩ | ⟨q1, q2, q3⟩
              · right; left; exact List.length_eq_zero_iff.1 (by omega)
              · left; exact List.length_eq_zero_iff.1 (by omega)
            · by_cases q2 : en = b
              · right; left; exact List.length_eq_zero_iff.1 (by omega)
              · right; right
                obtain ⟨z, hz⟩ := part_last (l := X) (k := st - a) (by omega) (by omega)
                refine ⟨_, z, _, _, by rw [hX1]; exact hz, by rw [hY2]; exact part_first (by omega), ?_⟩
                rcases g3 with g3 | g3
                · exact absurd g3 q
                · rw [show mid + m - 1 - (st - 1) = en by omega, eyy en (by omega) (by omega), exx (st - 1) (by omega) (by omega), show st - 1 - a = st - a - 1 by omega] at g3
                  simpa using g3)
          (by
            by_cases q : st = r0
            · rcases hs0 with ⟨q1, q2, q3⟩ | ⟨q1, q2, q3⟩
              · left; exact List.length_eq_zero_iff.1 (by omega)
              · right; left; exact List.length_eq_zero_iff.1 (by omega)
            · right; right
              obtain ⟨z, hz⟩ := part_last (l := Y) (k := en - m) (by omega) (by omega)
              refine ⟨_, z, _, _, by rw [hY1]; exact hz, by rw [hX2]; exact part_first (by omega), ?_⟩
              rcases g4 with g4 | g4
              · exact absurd g4 q
              · rw [show mid + m - 1 - st = en - 1 by omega, eyy (en - 1) (by omega) (by omega), exx st (by omega) (by omega), show en - 1 - m = en - m - 1 by omega] at g4
                simpa using g4)
        obtain ⟨sx1, sx2, _⟩ := srt_app.1 sx
        obtain ⟨sy1, sy2, _⟩ := srt_app.1 sy
        have hb2 : A.length + (X1.length + X2.length) + (Y1.length + Y2.length) + S.length ≤ 35184372088832 := by
          have e1 : X.length = X1.length + X2.length := by rw [eX, List.length_append]
          have e2 : Y.length = Y1.length + Y2.length := by rw [eY, List.length_append]
          omega
        -- the first half
        obtain ⟨Z1, p1, p2, p3⟩ : ∃ Z1, Z1.Perm (X1 ++ Y1) ∧ Srt lessF Z1 ∧ ∀ r, V.slices_symMergeCmpFunc_apiFact_by_facts_Compare.j11111111111 L (a : Int) (m : Int) (b : Int) (en : Int) (A ++ Z1 ++ (X2 ++ Y2 ++ S)) = some r →
            V.slices_symMergeCmpFunc_apiFact_by_facts_Compare.j1111111111 L (a : Int) (m : Int) (b : Int) (st : Int) (en : Int) (A ++ X1 ++ Y1 ++ (X2 ++ Y2 ++ S)) = some r := by
          have join : ∀ (flag : Bool) (L1 : List TFact) (r : List TFact), flag = false → V.slices_symMergeCmpFunc_apiFact_by_facts_Compare.j11111111111 L (a : Int) (m : Int) (b : Int) (en : Int) L1 = some r → V.slices_symMergeCmpFunc_apiFact_by_facts_Compare.j111111111101 L (a : Int) (m : Int) (b : Int) (st : Int) (en : Int) flag L1 = some r := fun flag L1 r hf hr => by
            subst hf
            refine V.slices_symMergeCmpFunc_apiFact_by_facts_Compare.j111111111101.of _ _ _ _ _ _ _ _ ?_
            unfold F.slices_symMergeCmpFunc_apiFact_by_facts_Compare.j111111111101.B
            exact hr
          by_cases q1 : a < st
          · by_cases q2 : st < mid
            · obtain ⟨Z1, p1, p2, p3⟩ := sym_ok k A X1 Y1 (X2 ++ Y2 ++ S) a st mid (by omega) (by omega) (by omega) (by simp only [List.length_append]; omega) sx1 sy1 ha (by omega) (by omega)
              refine ⟨Z1, p1, p2, fun r hr => ?_⟩
              refine V.slices_symMergeCmpFunc_apiFact_by_facts_Compare.j1111111111.of _ _ _ _ _ _ _ ?_
              unfold F.slices_symMergeCmpFunc_apiFact_by_facts_Compare.j1111111111.B
              rw [if_yes (by omega), mid_eq, show decide ((st : Int) < (mid : Int)) = true by simp; omega]
              refine V.slices_symMergeCmpFunc_apiFact_by_facts_Compare.j111111111101.of _ _ _ _ _ _ _ _ ?_
              unfold F.slices_symMergeCmpFunc_apiFact_by_facts_Compare.j111111111101.B
              rw [cond_true, mid_eq, p3, Option.bind_some]
              exact hr
            · have e : Y1 = [] := List.length_eq_zero_iff.1 (by omega)
              refine ⟨X1, by rw [e, List.append_nil], sx1, fun r hr => ?_⟩
              refine V.slices_symMergeCmpFunc_apiFact_by_facts_Compare.j1111111111.of _ _ _ _ _ _ _ ?_
              unfold F.slices_symMergeCmpFunc_apiFact_by_facts_Compare.j1111111111.B
              rw [if_yes (by omega), mid_eq]
              exact join _ _ r (by simp; omega) (by rw [e]; simpa using hr)
          · have e : X1 = [] := List.length_eq_zero_iff.1 (by omega)
            refine ⟨Y1, by rw [e, List.nil_append], sy1, fun r hr => ?_⟩
            refine V.slices_symMergeCmpFunc_apiFact_by_facts_Compare.j1111111111.of _ _ _ _ _ _ _ ?_
            unfold F.slices_symMergeCmpFunc_apiFact_by_facts_Compare.j1111111111.B
            rw [if_no (by omega)]
            exact join _ _ r rfl (by rw [e]; simpa using hr)
        have lZ1 : Z1.length = mid - a := by rw [p1.length_eq, List.length_append]; omega
        -- the second half
        obtain ⟨Z2, p4, p5, p6⟩ : ∃ Z2, Z2.Perm (X2 ++ Y2) ∧ Srt lessF Z2 ∧ V.slices_symMergeCmpFunc_apiFact_by_facts_Compare.j11111111111 L (a : Int) (m : Int) (b : Int) (en : Int) (A ++ Z1 ++ (X2 ++ Y2 ++ S)) = some (A ++ Z1 ++ (Z2 ++ S)) := by
          have join : ∀ (flag : Bool) (L1 : List TFact), flag = false → V.slices_symMergeCmpFunc_apiFact_by_facts_Compare.j111111111111 L (a : Int) (m : Int) (b : Int) (en : Int) flag L1 = some L1 := fun flag L1 hf => by
            subst hf
            refine V.slices_symMergeCmpFunc_apiFact_by_facts_Compare.j111111111111.of _ _ _ _ _ _ _ ?_
            rfl
          by_cases q1 : mid < en
          · by_cases q2 : en < b
            · obtain ⟨Z2, p4, p5, p6⟩ := sym_ok k (A ++ Z1) X2 Y2 S mid en b (by omega) (by omega) (by omega) (by simp only [List.length_append]; omega) sx2 sy2 (by simp only [List.length_append]; omega) (by omega) (by omega)
              refine ⟨Z2, p4, p5, ?_⟩
              refine V.slices_symMergeCmpFunc_apiFact_by_facts_Compare.j11111111111.of _ _ _ _ _ _ ?_
              unfold F.slices_symMergeCmpFunc_apiFact_by_facts_Compare.j11111111111.B
              rw [mid_eq, if_yes (by omega), show decide ((en : Int) < (b : Int)) = true by simp; omega]
              refine V.slices_symMergeCmpFunc_apiFact_by_facts_Compare.j111111111111.of _ _ _ _ _ _ _ ?_
              unfold F.slices_symMergeCmpFunc_apiFact_by_facts_Compare.j111111111111.B
              rw [cond_true, mid_eq, show A ++ Z1 ++ (X2 ++ Y2 ++ S) = A ++ Z1 ++ X2 ++ Y2 ++ S by simp, p6]
              simp
            · have e : Y2 = [] := List.length_eq_zero_iff.1 (by omega)
              refine ⟨X2, by rw [e, List.append_nil], sx2, ?_⟩
              refine V.slices_symMergeCmpFunc_apiFact_by_facts_Compare.j11111111111.of _ _ _ _ _ _ ?_
              unfold F.slices_symMergeCmpFunc_apiFact_by_facts_Compare.j11111111111.B
              rw [mid_eq, if_yes (by omega), join _ _ (by simp; omega), e]
              simp
          · have e : X2 = [] := List.length_eq_zero_iff.1 (by omega)
            refine ⟨Y2, by rw [e, List.nil_append], sy2, ?_⟩
            refine V.slices_symMergeCmpFunc_apiFact_by_facts_Compare.j11111111111.of _ _ _ _ _ _ ?_
            unfold F.slices_symMergeCmpFunc_apiFact_by_facts_Compare.j11111111111.B
            rw [mid_eq, if_no (by omega), join _ _ rfl, e]
            simp
        have p7 := p3 _ p6
        refine ⟨Z1 ++ Z2, ?_, ?_, ?_⟩
        · rw [eX, eY]
          refine (p1.append p4).trans ?_
          simp only [List.append_assoc]
          refine List.Perm.append_left _ ?_
          rw [← List.append_assoc, ← List.append_assoc]
          exact List.perm_append_comm.append_right _
        · exact srt_app.2 ⟨p2, p5, fun u hu v hv => hh u (p1.subset hu) v (p4.subset hv)⟩
        · have q7 : V.slices_symMergeCmpFunc_apiFact_by_facts_Compare.l111111100 L (a : Int) (m : Int) (b : Int) (s0 : Int) (r0 : Int) = some (A ++ (Z1 ++ Z2) ++ S) := by
            refine g5 _ ?_
            have e0 : A ++ (Z1 ++ Z2) ++ S = A ++ Z1 ++ (Z2 ++ S) := by simp
            rw [e0]
            by_cases q1 : st < m
            · rw [if_yes q1]
              refine V.slices_symMergeCmpFunc_apiFact_by_facts_Compare.j11111111101.of _ _ _ _ _ _ _ ?_
              unfold F.slices_symMergeCmpFunc_apiFact_by_facts_Compare.j11111111101.B
              by_cases q2 : m < en
              · have hr := rotate_ok (A ++ X1) X2 Y1 (Y2 ++ S) (by omega) (by omega) (by simp only [List.length_append]; omega) st m en (by simp only [List.length_append]; omega) (by omega) (by omega)
                rw [show A ++ X1 ++ X2 ++ Y1 ++ (Y2 ++ S) = L by rw [hL, eX, eY]; simp] at hr
                rw [if_yes q2, hr, Option.bind_some, ← p7]
                simp
              · have e : Y1 = [] := List.length_eq_zero_iff.1 (by omega)
                rw [if_no q2, ← p7, hL, eX, eY, e]
                simp
            · have e : X2 = [] := List.length_eq_zero_iff.1 (by omega)
              rw [if_no q1]
              refine V.slices_symMergeCmpFunc_apiFact_by_facts_Compare.j11111111101.of _ _ _ _ _ _ _ ?_
              unfold F.slices_symMergeCmpFunc_apiFact_by_facts_Compare.j11111111101.B
              rw [cond_false, ← p7, hL, eX, eY, e]
              simp
          have q8 : V.slices_symMergeCmpFunc_apiFact_by_facts_Compare.j111111 L (a : Int) (m : Int) (b : Int) (s0 : Int) (r0 : Int) = some (A ++ (Z1 ++ Z2) ++ S) := by
            refine V.slices_symMergeCmpFunc_apiFact_by_facts_Compare.j111111.of _ _ _ _ _ _ ?_
            unfold F.slices_symMergeCmpFunc_apiFact_by_facts_Compare.j111111.B
            exact q7
          refine V.slices_symMergeCmpFunc_apiFact_by_facts_Compare.of _ _ _ _ ?_
          unfold F.slices_symMergeCmpFunc_apiFact_by_facts_Compare.B
          rw [w64_sub (x := m) (y := a) (by omega) (by omega), show (((m - a : Nat) : Int) == 1) = false by simp; omega, cond_false, w64_sub (x := b) (y := m) (by omega) (by omega), show (((b - m : Nat) : Int) == 1) = false by simp; omega, cond_false, mid_eq]
          rcases hs0 with ⟨q1, q2, q3⟩ | ⟨q1, q2, q3⟩
          · rw [if_yes (by omega), w64_add (x := mid) (y := m) (by omega), w64_sub (x := mid + m) (y := b) (by omega) (by omega), ← q2, ← q3]
            exact q8
          · rw [if_no (by omega)]
            rw [q2, q3] at q8
            exact q8

/-- A merge of two neighbours. -/
theorem merge_ok (l : List TFact) (a m b : Nat) (h1 : a < m) (h2 : m < b) (h3 : b ≤ l.length) (hb : l.length ≤ 35184372088832) (sx : Srt lessF ((l.take m).drop a)) (sy : Srt lessF ((l.take b).drop m)) :
    ∃ l', V.slices_symMergeCmpFunc_apiFact_by_facts_Compare l (a : Int) (m : Int) (b : Int) = some l' ∧ Done lessF a b l l' := by
  have e : l = l.take a ++ (l.take m).drop a ++ (l.take b).drop m ++ l.drop b := by
    have e1 := seg_split (l.take b) (a := a) (b := m) (by omega)
    have e2 : (l.take b).take m = l.take m := by rw [List.take_take, Nat.min_eq_left (by omega)]
    have e3 : (l.take b).take a = l.take a := by rw [List.take_take, Nat.min_eq_left (by omega)]
    rw [e2, e3] at e1
    rw [← e1, List.take_append_drop]
  have l0 : (l.take a).length = a := by rw [List.length_take]; omega
  have l1 : ((l.take m).drop a).length = m - a := by rw [List.length_drop, List.length_take]; omega
  have l2 : ((l.take b).drop m).length = b - m := by rw [List.length_drop, List.length_take]; omega
  obtain ⟨Z, p1, p2, p3⟩ := sym_ok _ (l.take a) ((l.take m).drop a) ((l.take b).drop m) (l.drop b) a m b (Nat.le_refl _) (by omega) (by omega) (by rw [← e]; exact hb) sx sy l0.symm (by omega) (by omega)
  rw [← e] at p3
  refine ⟨_, p3, ⟨Z, rfl, p1.trans ?_, p2⟩⟩
  have e4 : (l.take b).drop a = (l.take m).drop a ++ (l.take b).drop m := by
    conv => lhs; rw [← List.take_append_drop m (l.take b), List.take_take, Nat.min_eq_left (by omega : m ≤ b)]
    rw [List.drop_append, List.length_take, Nat.min_eq_left (by omega : m ≤ l.length), show a - m = 0 by omega, List.drop_zero]
  rw [e4]

end Go.Proofs.Ytdblhdpnllckhaa.AE
end
section
set_option linter.unusedVariables false
set_option linter.unusedSimpArgs false
set_option maxRecDepth 20000
namespace Go.Proofs.Ytdblhdpnllckhaa.AE
open Go

/-- Each block of so many is sorted. -/
def AllB (k : Nat) (l : List TFact) : Prop := ∀ j : Nat, Srt lessF ((l.drop (j * k)).take k)
theorem srt_past {l : List TFact} {c k : Nat} (h : l.length ≤ c) : Srt lessF ((l.drop c).take k) := by
  rw [List.drop_eq_nil_of_le h, List.take_nil]; exact srt_nil
theorem seg_take (l : List TFact) (a k : Nat) : (l.take (a + k)).drop a = (l.drop a).take k := by rw [List.drop_take]; congr 1; omega

theorem blocks_l (a0 : List TFact) (n : Nat) (hn : n ≤ 35184372088832) : ∀ (d q : Nat) (l : List TFact), n - q * 20 ≤ d → q * 20 ≤ n → l.length = n → (∀ j, j < q → Srt lessF ((l.drop (j * 20)).take 20)) → ∀ a b : Nat, a = q * 20 → b = a + 20 →
    ∃ l', l'.Perm l ∧ AllB 20 l' ∧ ∀ r, V.slices_stableCmpFunc_apiFact_by_facts_Compare.l11110 a0 (n : Int) 20 l' = some r → V.slices_stableCmpFunc_apiFact_by_facts_Compare.l1100 a0 (n : Int) (a : Int) (b : Int) l = some r := by
  intro d
  induction d with
  | zero =>
    intro q l h1 h2 h3 h4 a b ha hb
    obtain ⟨l', g1, g2⟩ := ins_ok l a n (by omega) (by omega) (by omega)
    have gl := g2.len (by omega)
    refine ⟨l', g2.perm (by omega), fun j => ?_, fun r hr => ?_⟩
    · rcases Nat.lt_or_ge j q with hj | hj
      · have := h4 j hj
        rw [← seg_take] at this ⊢
        rwa [g2.take (by omega) (by omega) (by omega)]
      · exact srt_past (by omega)
    · refine V.slices_stableCmpFunc_apiFact_by_facts_Compare.l1100.of _ _ _ _ _ ?_
      unfold F.slices_stableCmpFunc_apiFact_by_facts_Compare.l1100.B
      rw [if_no (by omega), g1, Option.bind_some]
      exact hr
  | succ d ih =>
    intro q l h1 h2 h3 h4 a b ha hb
    by_cases hle : b ≤ n
    · obtain ⟨l1, g1, g2⟩ := ins_ok l a b (by omega) (by omega) (by omega)
      have gl := g2.len (by omega)
      obtain ⟨l', p1, p2, p3⟩ := ih (q + 1) l1 (by omega) (by omega) (by omega) (fun j hj => by
        rw [← seg_take]
        rcases Nat.lt_or_ge j q with hq | hq
        · have := h4 j hq
          rw [← seg_take] at this
          rwa [g2.take (by omega) (by omega) (by omega)]
        · have e : j * 20 = a := by omega
          rw [e, ← hb]
          exact g2.mid (by omega) (by omega)) b (b + 20) (by omega) rfl
      refine ⟨l', p1.trans (g2.perm (by omega)), p2, fun r hr => ?_⟩
      have h5 := p3 r hr
      refine V.slices_stableCmpFunc_apiFact_by_facts_Compare.l1100.of _ _ _ _ _ ?_
      unfold F.slices_stableCmpFunc_apiFact_by_facts_Compare.l1100.B
      rw [if_yes (by omega), g1, Option.bind_some, show ((b : Int) + 20) = ((b : Int) + ((20 : Nat) : Int)) from rfl, w64_add (x := b) (y := 20) (by omega)]
      exact h5
    · obtain ⟨l', g1, g2⟩ := ins_ok l a n (by omega) (by omega) (by omega)
      have gl := g2.len (by omega)
      refine ⟨l', g2.perm (by omega), fun j => ?_, fun r hr => ?_⟩
      · rcases Nat.lt_trichotomy j q with hj | hj | hj
        · have := h4 j hj
          rw [← seg_take] at this ⊢
          rwa [g2.take (by omega) (by omega) (by omega)]
        · have := g2.mid (by omega) (by omega)
          rw [List.take_of_length_le (by omega)] at this
          rw [hj, ← ha]
          exact srt_take this _
        · exact srt_past (by omega)
      · refine V.slices_stableCmpFunc_apiFact_by_facts_Compare.l1100.of _ _ _ _ _ ?_
        unfold F.slices_stableCmpFunc_apiFact_by_facts_Compare.l1100.B
        rw [if_no (by omega), g1, Option.bind_some]
        exact hr

theorem pass_l (a0 : List TFact) (n k : Nat) (hn : n ≤ 35184372088832) (hk : 0 < k) (hkn : k < n) : ∀ (d q : Nat) (l : List TFact), n - q * (2 * k) ≤ d → q * (2 * k) ≤ n → l.length = n →
    (∀ j, j < q → Srt lessF ((l.drop (j * (2 * k))).take (2 * k))) → (∀ j, 2 * q ≤ j → Srt lessF ((l.drop (j * k)).take k)) → ∀ a b : Nat, a = q * (2 * k) → b = a + 2 * k →
    ∃ l', l'.Perm l ∧ AllB (2 * k) l' ∧ ∀ r, V.slices_stableCmpFunc_apiFact_by_facts_Compare.l11110 a0 (n : Int) ((2 * k : Nat) : Int) l' = some r → V.slices_stableCmpFunc_apiFact_by_facts_Compare.l11110010100 a0 (n : Int) (k : Int) (a : Int) (b : Int) l = some r := by
  intro d
  induction d with
  | zero =>
    intro q l h1 h2 h3 h4 h5 a b ha hb
    refine ⟨l, List.Perm.refl _, fun j => ?_, fun r hr => ?_⟩
    · rcases Nat.lt_or_ge j q with hj | hj
      · exact h4 j hj
      · have := Nat.mul_le_mul_right (2 * k) hj
        exact srt_past (by omega)
    · refine V.slices_stableCmpFunc_apiFact_by_facts_Compare.l11110010100.of _ _ _ _ _ _ ?_
      unfold F.slices_stableCmpFunc_apiFact_by_facts_Compare.l11110010100.B
      rw [if_no (by omega), w64_add (x := a) (y := k) (by omega), if_no (by omega), show ((k : Int) * 2) = ((k : Int) + (k : Int)) by omega, w64_add (x := k) (y := k) (by omega), show k + k = 2 * k by omega]
      exact hr
  | succ d ih =>
    intro q l h1 h2 h3 h4 h5 a b ha hb
    have e2 : 2 * q * k = a := by rw [ha, Nat.mul_comm 2 q, Nat.mul_assoc]
    have e3 : (2 * q + 1) * k = a + k := by rw [Nat.add_mul, e2, Nat.one_mul]
    have s1 := h5 (2 * q) (Nat.le_refl _)
    have s2 := h5 (2 * q + 1) (by omega)
    rw [e2, ← seg_take] at s1
    rw [e3, ← seg_take] at s2
    by_cases hle : b ≤ n
    · obtain ⟨l1, g1, g2⟩ := merge_ok l a (a + k) b (by omega) (by omega) (by omega) (by omega) s1 (by rw [show b = a + k + k by omega]; exact s2)
      have gl := g2.len (by omega)
      have e4 : (q + 1) * (2 * k) = b := by rw [Nat.add_mul, Nat.one_mul]; omega
      obtain ⟨l', p1, p2, p3⟩ := ih (q + 1) l1 (by omega) (by omega) (by omega) (fun j hj => by
        rw [← seg_take]
        rcases Nat.lt_or_ge j q with hq | hq
        · have := h4 j hq
          rw [← seg_take] at this
          have hm := Nat.mul_le_mul_right (2 * k) (show j + 1 ≤ q by omega)
          rw [Nat.add_mul, Nat.one_mul] at hm
          rwa [g2.take (by omega) (by omega) (by omega)]
        · have e : j * (2 * k) = a := by rw [ha]; congr 1; omega
          rw [e, ← hb]
          exact g2.mid (by omega) (by omega)) (fun j hj => by
        have hm := Nat.mul_le_mul_right k hj
        have e5 : 2 * (q + 1) * k = b := by rw [← e4, Nat.mul_comm 2 (q + 1), Nat.mul_assoc]
        rw [g2.drop (by omega) (by omega) (by omega)]
        exact h5 j (by omega)) b (b + 2 * k) e4.symm rfl
      refine ⟨l', p1.trans (g2.perm (by omega)), p2, fun r hr => ?_⟩
      have h6 := p3 r hr
      refine V.slices_stableCmpFunc_apiFact_by_facts_Compare.l11110010100.of _ _ _ _ _ _ ?_
      unfold F.slices_stableCmpFunc_apiFact_by_facts_Compare.l11110010100.B
      rw [if_yes (by omega), w64_add (x := a) (y := k) (by omega), g1, Option.bind_some, show (2 * (k : Int)) = ((k : Int) + (k : Int)) by omega, w64_add (x := k) (y := k) (by omega), w64_add (x := b) (y := k + k) (by omega), show b + (k + k) = b + 2 * k by omega]
      exact h6
    · have rest : ∀ j, q < j → l.length ≤ j * (2 * k) := fun j hj => by
        have hm := Nat.mul_le_mul_right (2 * k) (show q + 1 ≤ j by omega)
        rw [Nat.add_mul, Nat.one_mul] at hm
        omega
      by_cases hm : a + k < n
      · obtain ⟨l1, g1, g2⟩ := merge_ok l a (a + k) n (by omega) (by omega) (by omega) (by omega) s1 (by
          rw [List.take_of_length_le (by omega)] at s2 ⊢
          exact s2)
        have gl := g2.len (by omega)
        refine ⟨l1, g2.perm (by omega), fun j => ?_, fun r hr => ?_⟩
        · rcases Nat.lt_trichotomy j q with hj | hj | hj
          · have := h4 j hj
            rw [← seg_take] at this ⊢
            have hm := Nat.mul_le_mul_right (2 * k) (show j + 1 ≤ q by omega)
            rw [Nat.add_mul, Nat.one_mul] at hm
            rwa [g2.take (by omega) (by omega) (by omega)]
          · have := g2.mid (by omega) (by omega)
            rw [List.take_of_length_le (by omega)] at this
            rw [hj, ← ha]
            exact srt_take this _
          · exact srt_past (by rw [gl]; exact rest j hj)
        · refine V.slices_stableCmpFunc_apiFact_by_facts_Compare.l11110010100.of _ _ _ _ _ _ ?_
          unfold F.slices_stableCmpFunc_apiFact_by_facts_Compare.l11110010100.B
          rw [if_no (by omega), w64_add (x := a) (y := k) (by omega), if_yes (by omega), g1, Option.bind_some, show ((k : Int) * 2) = ((k : Int) + (k : Int)) by omega, w64_add (x := k) (y := k) (by omega), show k + k = 2 * k by omega]
          exact hr
      · refine ⟨l, List.Perm.refl _, fun j => ?_, fun r hr => ?_⟩
        · rcases Nat.lt_trichotomy j q with hj | hj | hj
          · exact h4 j hj
          · rw [List.take_of_length_le (by omega)] at s1
            rw [hj, ← ha]
            exact srt_take s1 _
          · exact srt_past (rest j hj)
        · refine V.slices_stableCmpFunc_apiFact_by_facts_Compare.l11110010100.of _ _ _ _ _ _ ?_
          unfold F.slices_stableCmpFunc_apiFact_by_facts_Compare.l11110010100.B
          rw [if_no (by omega), w64_add (x := a) (y := k) (by omega), if_no (by omega), show ((k : Int) * 2) = ((k : Int) + (k : Int)) by omega, w64_add (x := k) (y := k) (by omega), show k + k = 2 * k by omega]
          exact hr
theorem passes_l (a0 : List TFact) (n : Nat) (hn : n ≤ 35184372088832) : ∀ (d k : Nat) (l : List TFact), n - k ≤ d → 0 < k → l.length = n → AllB k l → ∃ l', l'.Perm l ∧ Srt lessF l' ∧ V.slices_stableCmpFunc_apiFact_by_facts_Compare.l11110 a0 (n : Int) (k : Int) l = some l' := by
  intro d
  induction d with
  | zero =>
    intro k l h1 h2 h3 h4
    have := h4 0
    rw [Nat.zero_mul, List.drop_zero, List.take_of_length_le (by omega)] at this
    refine ⟨l, List.Perm.refl _, this, ?_⟩
    refine V.slices_stableCmpFunc_apiFact_by_facts_Compare.l11110.of _ _ _ _ ?_
    unfold F.slices_stableCmpFunc_apiFact_by_facts_Compare.l11110.B
    rw [if_no (by omega)]
  | succ d ih =>
    intro k l h1 h2 h3 h4
    by_cases hk : k < n
    · obtain ⟨l1, p1, p2, p3⟩ := pass_l a0 n k hn h2 hk n 0 l (by omega) (by omega) h3 (by omega) (fun j _ => h4 j) 0 (2 * k) (by omega) (by omega)
      obtain ⟨l', q1, q2, q3⟩ := ih (2 * k) l1 (by omega) (by omega) (by rw [p1.length_eq, h3]) p2
      refine ⟨l', q1.trans p1, q2, ?_⟩
      refine V.slices_stableCmpFunc_apiFact_by_facts_Compare.l11110.of _ _ _ _ ?_
      unfold F.slices_stableCmpFunc_apiFact_by_facts_Compare.l11110.B
      rw [if_yes (by omega), show (2 * (k : Int)) = ((k : Int) + (k : Int)) by omega, w64_add (x := k) (y := k) (by omega), show k + k = 2 * k by omega]
      exact p3 _ q3
    · exact ih k l (by omega) h2 h3 h4
theorem sort_ok (l : List TFact) (hb : l.length ≤ 35184372088832) : ∃ l', V.slices_SortStableFunc_apiFactapiFact_by_facts_Compare l = some l' ∧ l'.Perm l ∧ Srt lessF l' := by
  obtain ⟨l1, p1, p2, p3⟩ := blocks_l l l.length hb l.length 0 l (by omega) (by omega) rfl (by omega) 0 20 rfl rfl
  obtain ⟨l', q1, q2, q3⟩ := passes_l l l.length hb l.length 20 l1 (by omega) (by omega) p1.length_eq p2
  refine ⟨l', ?_, q1.trans p1, q2⟩
  refine V.slices_SortStableFunc_apiFactapiFact_by_facts_Compare.of _ ?_
  unfold F.slices_SortStableFunc_apiFactapiFact_by_facts_Compare.B
  have h : V.slices_stableCmpFunc_apiFact_by_facts_Compare l (l.length : Int) = some l' := by
    refine V.slices_stableCmpFunc_apiFact_by_facts_Compare.of _ _ ?_
    unfold F.slices_stableCmpFunc_apiFact_by_facts_Compare.B
    exact p3 _ q3
  rw [h, Option.bind_some]
/-- What is sorted is the row of the same ones that rises. -/
theorem sort_is (l k : List TFact) (hb : l.length ≤ 35184372088832) (hp : l.Perm k) (hk : k.Pairwise fun a b => lessF a b = true) : V.slices_SortStableFunc_apiFactapiFact_by_facts_Compare l = some k := by
  obtain ⟨l', h1, h2, h3⟩ := sort_ok l hb
  rw [h1, srt_unique weakF (h2.trans hp) h3 hk]

end Go.Proofs.Ytdblhdpnllckhaa.AE
end
section
set_option linter.unusedVariables false
set_option linter.unusedSimpArgs false
set_option maxRecDepth 20000
namespace Go.Proofs.Ytdblhdpnllckhaa.AE
open Go

abbrev bE : ByteArray := (⟨#[]⟩ : ByteArray)
def endsB (a b : ByteArray) : ByteArray := (a ++ (⟨#[0]⟩ : ByteArray)) ++ b
def labF (k : Int) (id : ByteArray) (l : List ByteArray) : List TFact := l.map fun s => (k, id, s, bE)
def proF (k : Int) (id : ByteArray) (l : List TProp) : List TFact := l.map fun p => (k, id, p.1, valB p.2)
def nodeFs (n : TNode) : List TFact := [(1, n.1, bE, bE)] ++ (labF 2 n.1 n.2.1 ++ proF 3 n.1 n.2.2)
def edgeFs (x : TEdge) : List TFact := [(4, x.1, bE, endsB x.2.1 x.2.2.1)] ++ (labF 5 x.1 x.2.2.2.1 ++ proF 6 x.1 x.2.2.2.2)
def mixF (g : TGraph) : List TFact := g.1.flatMap nodeFs ++ g.2.flatMap edgeFs
def kF1 (g : TGraph) : List TFact := g.1.flatMap fun n => [(1, n.1, bE, bE)]
def kF2 (g : TGraph) : List TFact := g.1.flatMap fun n => labF 2 n.1 n.2.1
def kF3 (g : TGraph) : List TFact := g.1.flatMap fun n => proF 3 n.1 n.2.2
def kF4 (g : TGraph) : List TFact := g.2.flatMap fun x => [(4, x.1, bE, endsB x.2.1 x.2.2.1)]
def kF5 (g : TGraph) : List TFact := g.2.flatMap fun x => labF 5 x.1 x.2.2.2.1
def kF6 (g : TGraph) : List TFact := g.2.flatMap fun x => proF 6 x.1 x.2.2.2.2
/-- Kind by kind. -/
def factsT (g : TGraph) : List TFact := kF1 g ++ (kF2 g ++ (kF3 g ++ (kF4 g ++ (kF5 g ++ kF6 g))))

theorem flat_perm {α β : Type} (f h : α → List β) : ∀ l : List α, (l.flatMap fun a => f a ++ h a).Perm (l.flatMap f ++ l.flatMap h)
  | [] => List.Perm.refl _
  | a :: l => by
    have ih := flat_perm f h l
    simp only [List.flatMap_cons]
    refine (List.Perm.append_left _ ih).trans ?_
    simp only [List.append_assoc]
    refine List.Perm.append_left _ ?_
    rw [← List.append_assoc, ← List.append_assoc]
    exact List.perm_append_comm.append_right _
theorem mix_perm (g : TGraph) : (mixF g).Perm (factsT g) := by
  have n1 := flat_perm (fun n : TNode => [((1 : Int), n.1, bE, bE)]) (fun n => labF 2 n.1 n.2.1 ++ proF 3 n.1 n.2.2) g.1
  have n2 := flat_perm (fun n : TNode => labF 2 n.1 n.2.1) (fun n => proF 3 n.1 n.2.2) g.1
  have e1 := flat_perm (fun x : TEdge => [((4 : Int), x.1, bE, endsB x.2.1 x.2.2.1)]) (fun x => labF 5 x.1 x.2.2.2.1 ++ proF 6 x.1 x.2.2.2.2) g.2
  have e2 := flat_perm (fun x : TEdge => labF 5 x.1 x.2.2.2.1) (fun x => proF 6 x.1 x.2.2.2.2) g.2
  unfold mixF factsT
  have a := (n1.trans (List.Perm.append_left _ n2)).append (e1.trans (List.Perm.append_left _ e2))
  refine List.Perm.trans a ?_
  simp only [List.append_assoc]
  exact List.Perm.refl _

/-! ### They rise -/

theorem lessF_kind {a b : TFact} (h : a.1 < b.1) : lessF a b = true := lessF_cases.2 (.inl h)
theorem lessF_id {a b : TFact} (h : a.1 = b.1) (g : strLt a.2.1 b.2.1 = true) : lessF a b = true := lessF_cases.2 (.inr ⟨h, .inl g⟩)
theorem lessF_kk {a b : TFact} (h : a.1 = b.1) (g : a.2.1 = b.2.1) (k : strLt a.2.2.1 b.2.2.1 = true) : lessF a b = true := lessF_cases.2 (.inr ⟨h, .inr ⟨g, k⟩⟩)
theorem labF_mem {k : Int} {id : ByteArray} {l : List ByteArray} {f : TFact} (h : f ∈ labF k id l) : f.1 = k ∧ f.2.1 = id := by
  unfold labF at h
  obtain ⟨s, _, rfl⟩ := List.mem_map.1 h
  exact ⟨rfl, rfl⟩
theorem proF_mem {k : Int} {id : ByteArray} {l : List TProp} {f : TFact} (h : f ∈ proF k id l) : f.1 = k ∧ f.2.1 = id := by
  unfold proF at h
  obtain ⟨s, _, rfl⟩ := List.mem_map.1 h
  exact ⟨rfl, rfl⟩
abbrev RsF (l : List TFact) : Prop := l.Pairwise fun a b => lessF a b = true
theorem labF_rs {k : Int} {id : ByteArray} {l : List ByteArray} (h : Up l) : RsF (labF k id l) := by
  unfold RsF labF
  rw [List.pairwise_map]
  exact List.Pairwise.imp (fun {a b} h => by exact lessF_kk rfl rfl h) h
theorem proF_rs {k : Int} {id : ByteArray} {l : List TProp} (h : Up (l.map fun p => p.1)) : RsF (proF k id l) := by
  unfold RsF proF
  rw [List.pairwise_map]
  unfold Up at h
  rw [List.pairwise_map] at h
  exact List.Pairwise.imp (fun {a b} h => by exact lessF_kk rfl rfl h) h
/-- Rows of one kind, of elements whose names rise. -/
theorem flat_rs {α : Type} {key : α → ByteArray} {k : Int} {f : α → List TFact} {l : List α} (hu : Up (l.map key)) (h1 : ∀ a ∈ l, RsF (f a)) (h2 : ∀ a ∈ l, ∀ x ∈ f a, x.1 = k ∧ x.2.1 = key a) : RsF (l.flatMap f) := by
  unfold RsF
  rw [List.pairwise_flatMap]
  refine ⟨h1, ?_⟩
  unfold Up at hu
  rw [List.pairwise_map] at hu
  refine List.Pairwise.imp_of_mem ?_ hu
  intro a b ha hb hab x hx y hy
  obtain ⟨p1, p2⟩ := h2 a ha x hx
  obtain ⟨q1, q2⟩ := h2 b hb y hy
  exact lessF_id (p1.trans q1.symm) (by rw [p2, q2]; exact hab)
theorem rest_up {a : List ByteArray} {l : List TProp} (h : restN a l = 0) : Up a ∧ Up (l.map fun p => p.1) := by
  obtain ⟨_, h2, h3⟩ := restN_zero h
  refine ⟨rowN_up h2, up_of fun i hi hp => ?_⟩
  have hi' : i < l.length := by simpa using hi
  have := (propsN_zero h3 hi').2.2 hp
  rw [rd_get (e := sProp) hi', rd_get (e := sProp) (by omega : i - 1 < l.length)] at this
  simpa using this
theorem nodeN_rest {n : TNode} (h : nodeN n = 0) : restN n.2.1 n.2.2 = 0 := by
  unfold nodeN at h
  split at h
  · exact h
  · cases h
theorem edgeN_rest {x : TEdge} (h : edgeN x = 0) : restN x.2.2.2.1 x.2.2.2.2 = 0 := by
  unfold edgeN at h
  split at h
  · exact h
  · cases h
theorem app_rs {k : Int} {x y : List TFact} (hx : RsF x) (hy : RsF y) (h1 : ∀ a ∈ x, a.1 = k) (h2 : ∀ b ∈ y, k < b.1) : RsF (x ++ y) := List.pairwise_append.2 ⟨hx, hy, fun a ha b hb => lessF_kind (by rw [h1 a ha]; exact h2 b hb)⟩
theorem flat_kind {α : Type} {k : Int} {f : α → List TFact} {l : List α} (h : ∀ a, ∀ x ∈ f a, x.1 = k) : ∀ x ∈ l.flatMap f, x.1 = k := fun x hx => by
  obtain ⟨a, _, hx⟩ := List.mem_flatMap.1 hx
  exact h a x hx
theorem facts_rs (g : TGraph) (hg : Good26 g) : RsF (factsT g) := by
  have k1 : ∀ x ∈ kF1 g, x.1 = 1 := flat_kind fun a x hx => by cases List.mem_singleton.1 hx; rfl
  have k2 : ∀ x ∈ kF2 g, x.1 = 2 := flat_kind fun a x hx => (labF_mem hx).1
  have k3 : ∀ x ∈ kF3 g, x.1 = 3 := flat_kind fun a x hx => (proF_mem hx).1
  have k4 : ∀ x ∈ kF4 g, x.1 = 4 := flat_kind fun a x hx => by cases List.mem_singleton.1 hx; rfl
  have k5 : ∀ x ∈ kF5 g, x.1 = 5 := flat_kind fun a x hx => (labF_mem hx).1
  have k6 : ∀ x ∈ kF6 g, x.1 = 6 := flat_kind fun a x hx => (proF_mem hx).1
  have r1 : RsF (kF1 g) := flat_rs (key := fun n : TNode => n.1) (k := 1) hg.nup (fun a _ => List.pairwise_singleton _ _) (fun a _ x hx => by cases List.mem_singleton.1 hx; exact ⟨rfl, rfl⟩)
  have r2 : RsF (kF2 g) := flat_rs (key := fun n : TNode => n.1) (k := 2) hg.nup (fun a ha => labF_rs (rest_up (nodeN_rest (hg.nodes a ha))).1) (fun a _ x hx => labF_mem hx)
  have r3 : RsF (kF3 g) := flat_rs (key := fun n : TNode => n.1) (k := 3) hg.nup (fun a ha => proF_rs (rest_up (nodeN_rest (hg.nodes a ha))).2) (fun a _ x hx => proF_mem hx)
  have r4 : RsF (kF4 g) := flat_rs (key := fun n : TEdge => n.1) (k := 4) hg.eup (fun a _ => List.pairwise_singleton _ _) (fun a _ x hx => by cases List.mem_singleton.1 hx; exact ⟨rfl, rfl⟩)
  have r5 : RsF (kF5 g) := flat_rs (key := fun n : TEdge => n.1) (k := 5) hg.eup (fun a ha => labF_rs (rest_up (edgeN_rest (hg.edges a ha))).1) (fun a _ x hx => labF_mem hx)
  have r6 : RsF (kF6 g) := flat_rs (key := fun n : TEdge => n.1) (k := 6) hg.eup (fun a ha => proF_rs (rest_up (edgeN_rest (hg.edges a ha))).2) (fun a _ x hx => proF_mem hx)
  unfold factsT
  have s5 : ∀ x ∈ kF5 g ++ kF6 g, (4 : Int) < x.1 := fun x hx => by
    rcases List.mem_append.1 hx with h | h
    · rw [k5 x h]; decide
    · rw [k6 x h]; decide
  have s4 : ∀ x ∈ kF4 g ++ (kF5 g ++ kF6 g), (3 : Int) < x.1 := fun x hx => by
    rcases List.mem_append.1 hx with h | h
    · rw [k4 x h]; decide
    · have := s5 x h; omega
  have s3 : ∀ x ∈ kF3 g ++ (kF4 g ++ (kF5 g ++ kF6 g)), (2 : Int) < x.1 := fun x hx => by
    rcases List.mem_append.1 hx with h | h
    · rw [k3 x h]; decide
    · have := s4 x h; omega
  have s2 : ∀ x ∈ kF2 g ++ (kF3 g ++ (kF4 g ++ (kF5 g ++ kF6 g))), (1 : Int) < x.1 := fun x hx => by
    rcases List.mem_append.1 hx with h | h
    · rw [k2 x h]; decide
    · have := s3 x h; omega
  exact app_rs r1 (app_rs r2 (app_rs r3 (app_rs r4 (app_rs r5 r6 k5 (fun b hb => by rw [k6 b hb]; decide)) k4 s5) k3 s4) k2 s3) k1 s2
theorem rise_of {l : List TFact} (h : RsF l) : rises l = true := by
  have key : ∀ d i, 1 ≤ i → i + d ≤ l.length → riseF l d i = true := by
    intro d
    induction d with
    | zero => intro i _ _; rfl
    | succ d ih =>
      intro i h1 h2
      rw [riseF, ih (i + 1) (by omega) (by omega), Bool.and_true, rd_get (e := sFact) (by omega : i - 1 < l.length), rd_get (e := sFact) (by omega : i < l.length)]
      exact List.pairwise_iff_getElem.1 h (i - 1) i (by omega) (by omega) (by omega)
  unfold rises
  rcases Nat.eq_zero_or_pos l.length with e | e
  · rw [e]; rfl
  · exact key _ 1 (Nat.le_refl _) (by omega)

theorem flat_len {α β : Type} {f : α → List β} {c : Nat} : ∀ {l : List α}, (∀ a ∈ l, (f a).length ≤ c) → (l.flatMap f).length ≤ c * l.length
  | [], _ => by simp
  | a :: l, h => by
    have := flat_len (f := f) (c := c) (l := l) fun b hb => h b (by simp [hb])
    have := h a (by simp)
    rw [List.flatMap_cons, List.length_append, List.length_cons, Nat.mul_add]
    omega
theorem flat_take {α : Type} {e : Sh} {l : List (den e)} {i : Nat} (f : den e → List α) (hi : i < l.length) : (l.take (i + 1)).flatMap f = (l.take i).flatMap f ++ f (rd e l i) := by
  rw [take_rd hi, List.flatMap_append]
  simp
theorem flat_drop {α : Type} {e : Sh} {l : List (den e)} {i : Nat} (f : den e → List α) (hi : i < l.length) : (l.drop i).flatMap f = f (rd e l i) ++ (l.drop (i + 1)).flatMap f := by
  rw [drop_rd hi, List.flatMap_cons]

/-! ### The program's -/

theorem Ends_ok (a b : ByteArray) (ha : a.size ≤ 1000) (hb : b.size ≤ 1000) : V.facts_Ends a b = some (endsB a b) := by
  refine V.facts_Ends.of _ _ ?_
  unfold F.facts_Ends.B
  have z : (⟨#[0]⟩ : ByteArray).size = 1 := rfl
  rw [guard_dec (by rw [z]; unfold i64max; omega), guard_dec (by rw [ByteArray.size_append, z]; unfold i64max; omega)]
  rfl
theorem of_l1 (id : ByteArray) (k1 k2 : Int) (a : List ByteArray) (l : List TProp) (hl : okProps l) (hn : l.length ≤ 8) : ∀ (d i : Nat) (acc : List TFact), i + d = l.length → acc.length ≤ 8 + i → V.facts_of.l111010 id k1 k2 a l (i : Int) acc = some (acc ++ proF k2 id (l.drop i))
  | 0, i, acc, h, hc => by
    refine V.facts_of.l111010.of _ _ _ _ _ _ _ ?_
    unfold F.facts_of.l111010.B
    rw [if_out (by omega), List.drop_eq_nil_of_le (by omega)]
    simp [proF]
  | d + 1, i, acc, h, hc => by
    have hi : i < l.length := by omega
    have hp := hl.2 _ (rd_mem (e := sProp) hi)
    refine V.facts_of.l111010.of _ _ _ _ _ _ _ ?_
    unfold F.facts_of.l111010.B
    rw [if_in hi, guard_in hi, nat_cast, w64_up hi (by omega), show V.value_Put ((rd sProp l i).2.1, (rd sProp l i).2.2.1, (rd sProp l i).2.2.2) = _ from value_Put_ok (rd sProp l i).2 hp.2.2, Option.bind_some, guard_dec (by unfold nmax; simp; omega), of_l1 id k1 k2 a l hl hn d (i + 1) _ (by omega) (by simp; omega), drop_rd (e := sProp) hi]
    simp [proF]
theorem of_l0 (id : ByteArray) (k1 k2 : Int) (a : List ByteArray) (l : List TProp) (hl : okProps l) (ha : a.length ≤ 8) (hn : l.length ≤ 8) : ∀ (d i : Nat) (acc : List TFact), i + d = a.length → acc.length ≤ i → V.facts_of.l11010 id k1 k2 a l (i : Int) acc = some (acc ++ (labF k1 id (a.drop i) ++ proF k2 id l))
  | 0, i, acc, h, hc => by
    refine V.facts_of.l11010.of _ _ _ _ _ _ _ ?_
    unfold F.facts_of.l11010.B
    rw [if_out (by omega), List.drop_eq_nil_of_le (by omega)]
    have := of_l1 id k1 k2 a l hl hn l.length 0 acc (by omega) (by omega)
    rw [List.drop_zero] at this
    exact this
  | d + 1, i, acc, h, hc => by
    have hi : i < a.length := by omega
    refine V.facts_of.l11010.of _ _ _ _ _ _ _ ?_
    unfold F.facts_of.l11010.B
    rw [if_in hi, guard_in hi, nat_cast, w64_up hi (by omega), guard_dec (by unfold nmax; simp; omega), of_l0 id k1 k2 a l hl ha hn d (i + 1) _ (by omega) (by simp; omega), drop_rd (e := .str) hi]
    simp [labF]
theorem of_ok (id : ByteArray) (k1 k2 : Int) (a : List ByteArray) (l : List TProp) (hl : okProps l) (ha : a.length ≤ 8) (hn : l.length ≤ 8) : V.facts_of id k1 k2 a l = some (labF k1 id a ++ proF k2 id l) := by
  refine V.facts_of.of _ _ _ _ _ ?_
  unfold F.facts_of.B
  exact of_l0 id k1 k2 a l hl ha hn a.length 0 [] (by omega) (by simp)
theorem nodeFs_len {n : TNode} (h : nodeN n = 0) : (nodeFs n).length ≤ 17 := by
  have := nodeN_up h
  simp [nodeFs, labF, proF]; omega
theorem edgeFs_len {x : TEdge} (h : edgeN x = 0) : (edgeFs x).length ≤ 17 := by
  have := edgeN_up h
  simp [edgeFs, labF, proF]; omega
theorem edge_ids {x : TEdge} (h : edgeN x = 0) : x.2.1.size ≤ 12 ∧ x.2.2.1.size ≤ 12 := by
  obtain ⟨⟨h1, h2⟩, _⟩ := edgeN_short h
  exact ⟨(nameB_size h1).2, (nameB_size h2).2⟩
theorem Of_l1 (g : TGraph) (hg : Good26 g) (hok : okGraph g) (pre R : List TFact) (hp : pre.length ≤ 10000) (hR : V.slices_SortStableFunc_apiFactapiFact_by_facts_Compare (pre ++ g.2.flatMap edgeFs) = some R) : ∀ d i : Nat, i + d = g.2.length → V.facts_Of.l1111010 g (i : Int) (pre ++ (g.2.take i).flatMap edgeFs) = some R
  | 0, i, h => by
    refine V.facts_Of.l1111010.of _ _ _ ?_
    unfold F.facts_Of.l1111010.B
    rw [if_out (by omega), List.take_of_length_le (by omega), hR, Option.bind_some]
  | d + 1, i, h => by
    have hi : i < g.2.length := by omega
    have hs := hg.es
    have m := rd_mem (e := sEdge) hi
    have u := edgeN_up (hg.edges _ m)
    have ids := edge_ids (hg.edges _ m)
    have fl := flat_len (f := edgeFs) (c := 17) (l := g.2.take i) fun a ha => edgeFs_len (hg.edges a (List.mem_of_mem_take ha))
    have l1 : (g.2.take i).length ≤ 1000 := by rw [List.length_take]; omega
    have ih := Of_l1 g hg hok pre R hp hR d (i + 1) (by omega)
    refine V.facts_Of.l1111010.of _ _ _ ?_
    unfold F.facts_Of.l1111010.B
    rw [if_in hi, guard_in hi, nat_cast, w64_up hi (by omega), Ends_ok _ _ (by omega) (by omega), Option.bind_some, guard_dec (by unfold nmax; simp only [labF, proF, List.length_append, List.length_cons, List.length_nil, List.length_map]; omega), of_ok _ 5 6 _ _ (hok.e _ m).pr u.1 u.2.2, Option.bind_some, guard_dec (by unfold nmax; simp only [labF, proF, List.length_append, List.length_cons, List.length_nil, List.length_map]; omega), ← ih, flat_take (e := sEdge) edgeFs hi]
    simp [edgeFs]
theorem Of_l0 (g : TGraph) (hg : Good26 g) (hok : okGraph g) (R : List TFact) (hR : V.slices_SortStableFunc_apiFactapiFact_by_facts_Compare (mixF g) = some R) : ∀ d i : Nat, i + d = g.1.length → V.facts_Of.l111010 g (i : Int) ((g.1.take i).flatMap nodeFs) = some R
  | 0, i, h => by
    have fl := flat_len (f := nodeFs) (c := 17) (l := g.1) fun a ha => nodeFs_len (hg.nodes a ha)
    have hs := hg.ns
    refine V.facts_Of.l111010.of _ _ _ ?_
    unfold F.facts_Of.l111010.B
    rw [if_out (by omega), List.take_of_length_le (by omega)]
    have := Of_l1 g hg hok (g.1.flatMap nodeFs) R (by omega) hR g.2.length 0 (by omega)
    simpa using this
  | d + 1, i, h => by
    have hi : i < g.1.length := by omega
    have hs := hg.ns
    have m := rd_mem (e := sNode) hi
    have u := nodeN_up (hg.nodes _ m)
    have fl := flat_len (f := nodeFs) (c := 17) (l := g.1.take i) fun a ha => nodeFs_len (hg.nodes a (List.mem_of_mem_take ha))
    have l1 : (g.1.take i).length ≤ 500 := by rw [List.length_take]; omega
    have ih := Of_l0 g hg hok R hR d (i + 1) (by omega)
    refine V.facts_Of.l111010.of _ _ _ ?_
    unfold F.facts_Of.l111010.B
    rw [if_in hi, guard_in hi, nat_cast, w64_up hi (by omega), guard_dec (by unfold nmax; simp only [labF, proF, List.length_append, List.length_cons, List.length_nil, List.length_map]; omega), of_ok _ 2 3 _ _ (hok.n _ m).pr u.1 u.2.2, Option.bind_some, guard_dec (by unfold nmax; simp only [labF, proF, List.length_append, List.length_cons, List.length_nil, List.length_map]; omega), ← ih, flat_take (e := sNode) nodeFs hi]
    simp [nodeFs]
theorem mix_len (g : TGraph) (hg : Good26 g) : (mixF g).length ≤ 30000 := by
  have f1 := flat_len (f := nodeFs) (c := 17) (l := g.1) fun a ha => nodeFs_len (hg.nodes a ha)
  have f2 := flat_len (f := edgeFs) (c := 17) (l := g.2) fun a ha => edgeFs_len (hg.edges a ha)
  have := hg.ns
  have := hg.es
  unfold mixF
  rw [List.length_append]; omega
theorem Of_ok (g : TGraph) (hok : okGraph g) : V.facts_Of g = some (if wrongN g = 0 then factsT g else []) := by
  refine V.facts_Of.of _ ?_
  unfold F.facts_Of.B
  rw [show ((g.1, g.2) : TGraph) = g from rfl, Check_ok g hok, Option.bind_some]
  by_cases hw : wrongN g = 0
  · have hg := (good_iff g).1 hw
    rw [hw, if_pos rfl]
    have hR := sort_is (mixF g) (factsT g) (by have := mix_len g hg; omega) (mix_perm g) (facts_rs g hg)
    have := Of_l0 g hg hok _ hR g.1.length 0 (by omega)
    simpa using this
  · rw [if_neg hw]
    simp [Bool.cond_eq_ite, hw]

/-! ### The document's -/

theorem refVPut_ok' (l : List TProp) (hl : okProps l) {i : Nat} (hi : i < l.length) : V.pleachref06_Put ((rd sProp l i).2.1, (rd sProp l i).2.2.1, (rd sProp l i).2.2.2) = some (valB (rd sProp l i).2) := refVPut_ok (rd sProp l i).2 (hl.2 _ (rd_mem (e := sProp) hi)).2.2
theorem ref_k6i (g : TGraph) (R : List TFact) (x0 : Int) (l : List TProp) (hn : l.length ≤ 8) (hl : okProps l) (p0 : ByteArray) (p1 : ByteArray) (p2 : ByteArray) (p3 : List ByteArray) (p4 : List TProp) : ∀ (d j : Nat) (acc : List TFact), j + d = l.length → acc.length ≤ 200000 + j → V.pleachref27_Of.l11111111010 g (w64 (x0 + 1)) (acc ++ proF 6 p0 (l.drop j)) = some R → V.pleachref27_Of.l1111111101001100110 g x0 l (l.length : Int) (j : Int) acc p0 p1 p2 p3 p4 = some R
  | 0, j, acc, h, ha, hR => by
    refine V.pleachref27_Of.l1111111101001100110.of _ _ _ _ _ _ _ _ _ _ _ ?_
    unfold F.pleachref27_Of.l1111111101001100110.B
    rw [List.drop_eq_nil_of_le (by omega)] at hR
    rw [if_out (by omega), ← hR]
    simp [proF]
  | d + 1, j, acc, h, ha, hR => by
    have hi : j < l.length := by omega
    rw [drop_rd (e := sProp) hi] at hR
    have ih := ref_k6i g R x0 l hn hl p0 p1 p2 p3 p4 d (j + 1) (acc ++ proF 6 p0 [rd sProp l j]) (by omega) (by simp [proF]; omega) (by rw [← hR]; simp [proF])
    refine V.pleachref27_Of.l1111111101001100110.of _ _ _ _ _ _ _ _ _ _ _ ?_
    unfold F.pleachref27_Of.l1111111101001100110.B
    rw [if_in hi, guard_in hi, nat_cast, w64_up hi (by omega), refVPut_ok' l hl hi, Option.bind_some, guard_dec (by unfold nmax; simp; omega)]
    exact ih
theorem ref_k6 (g : TGraph) (hg : Good26 g) (hok : okGraph g) (R : List TFact) : ∀ (d i : Nat) (acc : List TFact), i + d = g.2.length → acc.length ≤ 120000 + 20 * i → acc ++ ((g.2.drop i).flatMap fun n => proF 6 n.1 n.2.2.2.2) = R → V.pleachref27_Of.l11111111010 g (i : Int) acc = some R
  | 0, i, acc, h, ha, hR => by
    refine V.pleachref27_Of.l11111111010.of _ _ _ ?_
    unfold F.pleachref27_Of.l11111111010.B
    rw [List.drop_eq_nil_of_le (by omega), List.flatMap_nil, List.append_nil] at hR
    rw [if_out (by omega), hR]
  | d + 1, i, acc, h, ha, hR => by
    have hi : i < g.2.length := by omega
    have hs := hg.es
    have m := rd_mem (e := sEdge) hi
    have u := edgeN_up (hg.edges _ m)
    rw [flat_drop (e := sEdge) _ hi, ← List.append_assoc] at hR
    have ih := ref_k6 g hg hok R d (i + 1) (acc ++ proF 6 (rd sEdge g.2 i).1 (rd sEdge g.2 i).2.2.2.2) (by omega) (by simp only [labF, proF, List.length_append, List.length_cons, List.length_nil, List.length_map]; omega) hR
    refine V.pleachref27_Of.l11111111010.of _ _ _ ?_
    unfold F.pleachref27_Of.l11111111010.B
    rw [if_in hi, guard_in hi, nat_cast]
    refine ref_k6i g R (i : Int) (rd sEdge g.2 i).2.2.2.2 u.2.2 (hok.e _ m).pr _ _ _ _ _ (rd sEdge g.2 i).2.2.2.2.length 0 acc (by omega) (by omega) ?_
    rw [w64_up hi (by omega), List.drop_zero]
    exact ih
theorem ref_k5i (g : TGraph) (R : List TFact) (x0 : Int) (l : List ByteArray) (hn : l.length ≤ 8) (p0 : ByteArray) (p1 : ByteArray) (p2 : ByteArray) (p3 : List ByteArray) (p4 : List TProp) : ∀ (d j : Nat) (acc : List TFact), j + d = l.length → acc.length ≤ 200000 + j → V.pleachref27_Of.l1111111010 g (w64 (x0 + 1)) (acc ++ labF 5 p0 (l.drop j)) = some R → V.pleachref27_Of.l111111101001100110 g x0 l (l.length : Int) (j : Int) acc p0 p1 p2 p3 p4 = some R
  | 0, j, acc, h, ha, hR => by
    refine V.pleachref27_Of.l111111101001100110.of _ _ _ _ _ _ _ _ _ _ _ ?_
    unfold F.pleachref27_Of.l111111101001100110.B
    rw [List.drop_eq_nil_of_le (by omega)] at hR
    rw [if_out (by omega), ← hR]
    simp [labF]
  | d + 1, j, acc, h, ha, hR => by
    have hi : j < l.length := by omega
    rw [drop_rd (e := .str) hi] at hR
    have ih := ref_k5i g R x0 l hn p0 p1 p2 p3 p4 d (j + 1) (acc ++ labF 5 p0 [rd .str l j]) (by omega) (by simp [labF]; omega) (by rw [← hR]; simp [labF])
    refine V.pleachref27_Of.l111111101001100110.of _ _ _ _ _ _ _ _ _ _ _ ?_
    unfold F.pleachref27_Of.l111111101001100110.B
    rw [if_in hi, guard_in hi, nat_cast, w64_up hi (by omega), guard_dec (by unfold nmax; simp; omega)]
    exact ih
theorem ref_k5 (g : TGraph) (hg : Good26 g) (hok : okGraph g) (R : List TFact) : ∀ (d i : Nat) (acc : List TFact), i + d = g.2.length → acc.length ≤ 100000 + 20 * i → V.pleachref27_Of.l11111111010 g 0 (acc ++ (g.2.drop i).flatMap fun n => labF 5 n.1 n.2.2.2.1) = some R → V.pleachref27_Of.l1111111010 g (i : Int) acc = some R
  | 0, i, acc, h, ha, hR => by
    refine V.pleachref27_Of.l1111111010.of _ _ _ ?_
    unfold F.pleachref27_Of.l1111111010.B
    rw [List.drop_eq_nil_of_le (by omega), List.flatMap_nil, List.append_nil] at hR
    rw [if_out (by omega)]
    exact hR
  | d + 1, i, acc, h, ha, hR => by
    have hi : i < g.2.length := by omega
    have hs := hg.es
    have m := rd_mem (e := sEdge) hi
    have u := edgeN_up (hg.edges _ m)
    rw [flat_drop (e := sEdge) _ hi, ← List.append_assoc] at hR
    have ih := ref_k5 g hg hok R d (i + 1) (acc ++ labF 5 (rd sEdge g.2 i).1 (rd sEdge g.2 i).2.2.2.1) (by omega) (by simp only [labF, proF, List.length_append, List.length_cons, List.length_nil, List.length_map]; omega) hR
    refine V.pleachref27_Of.l1111111010.of _ _ _ ?_
    unfold F.pleachref27_Of.l1111111010.B
    rw [if_in hi, guard_in hi, nat_cast]
    refine ref_k5i g R (i : Int) (rd sEdge g.2 i).2.2.2.1 u.1 _ _ _ _ _ (rd sEdge g.2 i).2.2.2.1.length 0 acc (by omega) (by omega) ?_
    rw [w64_up hi (by omega), List.drop_zero]
    exact ih
theorem ref_k4 (g : TGraph) (hg : Good26 g) (R : List TFact) : ∀ (d i : Nat) (acc : List TFact), i + d = g.2.length → acc.length ≤ 80000 + 20 * i → V.pleachref27_Of.l1111111010 g 0 (acc ++ (g.2.drop i).flatMap fun n => [(4, n.1, bE, endsB n.2.1 n.2.2.1)]) = some R → V.pleachref27_Of.l111111010 g (i : Int) acc = some R
  | 0, i, acc, h, ha, hR => by
    refine V.pleachref27_Of.l111111010.of _ _ _ ?_
    unfold F.pleachref27_Of.l111111010.B
    rw [List.drop_eq_nil_of_le (by omega), List.flatMap_nil, List.append_nil] at hR
    rw [if_out (by omega)]
    exact hR
  | d + 1, i, acc, h, ha, hR => by
    have hi : i < g.2.length := by omega
    have hs := hg.es
    rw [flat_drop (e := sEdge) _ hi, ← List.append_assoc] at hR
    have ih := ref_k4 g hg R d (i + 1) _ (by omega) (by simp; omega) hR
    refine V.pleachref27_Of.l111111010.of _ _ _ ?_
    unfold F.pleachref27_Of.l111111010.B
    have m := rd_mem (e := sEdge) hi
    have ids := edge_ids (hg.edges _ m)
    have z : (⟨#[0]⟩ : ByteArray).size = 1 := rfl
    rw [if_in hi, guard_in hi, nat_cast, w64_up hi (by omega), guard_dec (by rw [z]; unfold i64max; omega), guard_dec (by rw [ByteArray.size_append, z]; unfold i64max; omega), guard_dec (by unfold nmax; simp; omega)]
    exact ih
theorem ref_k3i (g : TGraph) (R : List TFact) (x0 : Int) (l : List TProp) (hn : l.length ≤ 8) (hl : okProps l) (p0 : ByteArray) (p1 : List ByteArray) (p2 : List TProp) : ∀ (d j : Nat) (acc : List TFact), j + d = l.length → acc.length ≤ 200000 + j → V.pleachref27_Of.l11111010 g (w64 (x0 + 1)) (acc ++ proF 3 p0 (l.drop j)) = some R → V.pleachref27_Of.l1111101001100110 g x0 l (l.length : Int) (j : Int) acc p0 p1 p2 = some R
  | 0, j, acc, h, ha, hR => by
    refine V.pleachref27_Of.l1111101001100110.of _ _ _ _ _ _ _ _ _ ?_
    unfold F.pleachref27_Of.l1111101001100110.B
    rw [List.drop_eq_nil_of_le (by omega)] at hR
    rw [if_out (by omega), ← hR]
    simp [proF]
  | d + 1, j, acc, h, ha, hR => by
    have hi : j < l.length := by omega
    rw [drop_rd (e := sProp) hi] at hR
    have ih := ref_k3i g R x0 l hn hl p0 p1 p2 d (j + 1) (acc ++ proF 3 p0 [rd sProp l j]) (by omega) (by simp [proF]; omega) (by rw [← hR]; simp [proF])
    refine V.pleachref27_Of.l1111101001100110.of _ _ _ _ _ _ _ _ _ ?_
    unfold F.pleachref27_Of.l1111101001100110.B
    rw [if_in hi, guard_in hi, nat_cast, w64_up hi (by omega), refVPut_ok' l hl hi, Option.bind_some, guard_dec (by unfold nmax; simp; omega)]
    exact ih
theorem ref_k3 (g : TGraph) (hg : Good26 g) (hok : okGraph g) (R : List TFact) : ∀ (d i : Nat) (acc : List TFact), i + d = g.1.length → acc.length ≤ 60000 + 20 * i → V.pleachref27_Of.l111111010 g 0 (acc ++ (g.1.drop i).flatMap fun n => proF 3 n.1 n.2.2) = some R → V.pleachref27_Of.l11111010 g (i : Int) acc = some R
  | 0, i, acc, h, ha, hR => by
    refine V.pleachref27_Of.l11111010.of _ _ _ ?_
    unfold F.pleachref27_Of.l11111010.B
    rw [List.drop_eq_nil_of_le (by omega), List.flatMap_nil, List.append_nil] at hR
    rw [if_out (by omega)]
    exact hR
  | d + 1, i, acc, h, ha, hR => by
    have hi : i < g.1.length := by omega
    have hs := hg.ns
    have m := rd_mem (e := sNode) hi
    have u := nodeN_up (hg.nodes _ m)
    rw [flat_drop (e := sNode) _ hi, ← List.append_assoc] at hR
    have ih := ref_k3 g hg hok R d (i + 1) (acc ++ proF 3 (rd sNode g.1 i).1 (rd sNode g.1 i).2.2) (by omega) (by simp only [labF, proF, List.length_append, List.length_cons, List.length_nil, List.length_map]; omega) hR
    refine V.pleachref27_Of.l11111010.of _ _ _ ?_
    unfold F.pleachref27_Of.l11111010.B
    rw [if_in hi, guard_in hi, nat_cast]
    refine ref_k3i g R (i : Int) (rd sNode g.1 i).2.2 u.2.2 (hok.n _ m).pr _ _ _ (rd sNode g.1 i).2.2.length 0 acc (by omega) (by omega) ?_
    rw [w64_up hi (by omega), List.drop_zero]
    exact ih
theorem ref_k2i (g : TGraph) (R : List TFact) (x0 : Int) (l : List ByteArray) (hn : l.length ≤ 8) (p0 : ByteArray) (p1 : List ByteArray) (p2 : List TProp) : ∀ (d j : Nat) (acc : List TFact), j + d = l.length → acc.length ≤ 200000 + j → V.pleachref27_Of.l1111010 g (w64 (x0 + 1)) (acc ++ labF 2 p0 (l.drop j)) = some R → V.pleachref27_Of.l111101001100110 g x0 l (l.length : Int) (j : Int) acc p0 p1 p2 = some R
  | 0, j, acc, h, ha, hR => by
    refine V.pleachref27_Of.l111101001100110.of _ _ _ _ _ _ _ _ _ ?_
    unfold F.pleachref27_Of.l111101001100110.B
    rw [List.drop_eq_nil_of_le (by omega)] at hR
    rw [if_out (by omega), ← hR]
    simp [labF]
  | d + 1, j, acc, h, ha, hR => by
    have hi : j < l.length := by omega
    rw [drop_rd (e := .str) hi] at hR
    have ih := ref_k2i g R x0 l hn p0 p1 p2 d (j + 1) (acc ++ labF 2 p0 [rd .str l j]) (by omega) (by simp [labF]; omega) (by rw [← hR]; simp [labF])
    refine V.pleachref27_Of.l111101001100110.of _ _ _ _ _ _ _ _ _ ?_
    unfold F.pleachref27_Of.l111101001100110.B
    rw [if_in hi, guard_in hi, nat_cast, w64_up hi (by omega), guard_dec (by unfold nmax; simp; omega)]
    exact ih
theorem ref_k2 (g : TGraph) (hg : Good26 g) (hok : okGraph g) (R : List TFact) : ∀ (d i : Nat) (acc : List TFact), i + d = g.1.length → acc.length ≤ 40000 + 20 * i → V.pleachref27_Of.l11111010 g 0 (acc ++ (g.1.drop i).flatMap fun n => labF 2 n.1 n.2.1) = some R → V.pleachref27_Of.l1111010 g (i : Int) acc = some R
  | 0, i, acc, h, ha, hR => by
    refine V.pleachref27_Of.l1111010.of _ _ _ ?_
    unfold F.pleachref27_Of.l1111010.B
    rw [List.drop_eq_nil_of_le (by omega), List.flatMap_nil, List.append_nil] at hR
    rw [if_out (by omega)]
    exact hR
  | d + 1, i, acc, h, ha, hR => by
    have hi : i < g.1.length := by omega
    have hs := hg.ns
    have m := rd_mem (e := sNode) hi
    have u := nodeN_up (hg.nodes _ m)
    rw [flat_drop (e := sNode) _ hi, ← List.append_assoc] at hR
    have ih := ref_k2 g hg hok R d (i + 1) (acc ++ labF 2 (rd sNode g.1 i).1 (rd sNode g.1 i).2.1) (by omega) (by simp only [labF, proF, List.length_append, List.length_cons, List.length_nil, List.length_map]; omega) hR
    refine V.pleachref27_Of.l1111010.of _ _ _ ?_
    unfold F.pleachref27_Of.l1111010.B
    rw [if_in hi, guard_in hi, nat_cast]
    refine ref_k2i g R (i : Int) (rd sNode g.1 i).2.1 u.1 _ _ _ (rd sNode g.1 i).2.1.length 0 acc (by omega) (by omega) ?_
    rw [w64_up hi (by omega), List.drop_zero]
    exact ih
theorem ref_k1 (g : TGraph) (hg : Good26 g) (R : List TFact) : ∀ (d i : Nat) (acc : List TFact), i + d = g.1.length → acc.length ≤ 20000 + 20 * i → V.pleachref27_Of.l1111010 g 0 (acc ++ (g.1.drop i).flatMap fun n => [(1, n.1, bE, bE)]) = some R → V.pleachref27_Of.l111010 g (i : Int) acc = some R
  | 0, i, acc, h, ha, hR => by
    refine V.pleachref27_Of.l111010.of _ _ _ ?_
    unfold F.pleachref27_Of.l111010.B
    rw [List.drop_eq_nil_of_le (by omega), List.flatMap_nil, List.append_nil] at hR
    rw [if_out (by omega)]
    exact hR
  | d + 1, i, acc, h, ha, hR => by
    have hi : i < g.1.length := by omega
    have hs := hg.ns
    rw [flat_drop (e := sNode) _ hi, ← List.append_assoc] at hR
    have ih := ref_k1 g hg R d (i + 1) _ (by omega) (by simp; omega) hR
    refine V.pleachref27_Of.l111010.of _ _ _ ?_
    unfold F.pleachref27_Of.l111010.B
    rw [if_in hi, guard_in hi, nat_cast, w64_up hi (by omega), guard_dec (by unfold nmax; simp; omega)]
    exact ih
theorem refOf_ok (g : TGraph) (hok : okGraph g) : V.pleachref27_Of g = some (if wrongN g = 0 then factsT g else []) := by
  refine V.pleachref27_Of.of _ ?_
  unfold F.pleachref27_Of.B
  rw [show ((g.1, g.2) : TGraph) = g from rfl, Wrong_ok g hok, Option.bind_some]
  by_cases hw : wrongN g = 0
  · have hg := (good_iff g).1 hw
    have ns := hg.ns
    have es := hg.es
    have c1 : (kF1 g).length ≤ 8 * 500 := by have := flat_len (f := fun n : TNode => [((1 : Int), n.1, bE, bE)]) (c := 8) (l := g.1) (fun a ha => by simp); unfold kF1; omega
    have c2 : (kF2 g).length ≤ 8 * 500 := by have := flat_len (f := fun n : TNode => labF 2 n.1 n.2.1) (c := 8) (l := g.1) (fun a ha => by have := nodeN_up (hg.nodes a ha); simp [labF]; omega); unfold kF2; omega
    have c3 : (kF3 g).length ≤ 8 * 500 := by have := flat_len (f := fun n : TNode => proF 3 n.1 n.2.2) (c := 8) (l := g.1) (fun a ha => by have := nodeN_up (hg.nodes a ha); simp [proF]; omega); unfold kF3; omega
    have c4 : (kF4 g).length ≤ 8 * 1000 := by have := flat_len (f := fun x : TEdge => [((4 : Int), x.1, bE, endsB x.2.1 x.2.2.1)]) (c := 8) (l := g.2) (fun a ha => by simp); unfold kF4; omega
    have c5 : (kF5 g).length ≤ 8 * 1000 := by have := flat_len (f := fun x : TEdge => labF 5 x.1 x.2.2.2.1) (c := 8) (l := g.2) (fun a ha => by have := edgeN_up (hg.edges a ha); simp [labF]; omega); unfold kF5; omega
    rw [hw, if_pos rfl]
    show V.pleachref27_Of.l111010 g 0 [] = _
    refine ref_k1 g hg _ g.1.length 0 [] (by omega) (by simp) ?_
    refine ref_k2 g hg hok _ g.1.length 0 _ (by omega) (by rw [List.drop_zero, List.nil_append]; show (kF1 g).length ≤ _; omega) ?_
    refine ref_k3 g hg hok _ g.1.length 0 _ (by omega) (by rw [List.drop_zero, List.nil_append]; show (kF1 g ++ kF2 g).length ≤ _; rw [List.length_append]; omega) ?_
    refine ref_k4 g hg _ g.2.length 0 _ (by omega) (by rw [List.drop_zero, List.nil_append]; show (kF1 g ++ kF2 g ++ kF3 g).length ≤ _; rw [List.length_append, List.length_append]; omega) ?_
    refine ref_k5 g hg hok _ g.2.length 0 _ (by omega) (by rw [List.drop_zero, List.drop_zero, List.nil_append]; show (kF1 g ++ kF2 g ++ kF3 g ++ kF4 g).length ≤ _; rw [List.length_append, List.length_append, List.length_append]; omega) ?_
    refine ref_k6 g hg hok _ g.2.length 0 _ (by omega) (by rw [List.drop_zero, List.drop_zero, List.nil_append]; show (kF1 g ++ kF2 g ++ kF3 g ++ kF4 g ++ kF5 g).length ≤ _; rw [List.length_append, List.length_append, List.length_append, List.length_append]; omega) ?_
    rw [List.drop_zero, List.drop_zero, List.nil_append]
    show kF1 g ++ kF2 g ++ kF3 g ++ kF4 g ++ kF5 g ++ kF6 g = factsT g
    unfold factsT
    simp only [List.append_assoc]
  · rw [if_neg hw]
    simp [Bool.cond_eq_ite, hw]
theorem Same27s_l (l : List TFact) (hl : l.length ≤ 140737488351232) : ∀ d i : Nat, i + d = l.length → V.pleachref27_Same.l11010 l l (i : Int) = some true
  | 0, i, h => by
    refine V.pleachref27_Same.l11010.of _ _ _ ?_
    unfold F.pleachref27_Same.l11010.B
    rw [if_out (by omega)]
  | d + 1, i, h => by
    have hi : i < l.length := by omega
    refine V.pleachref27_Same.l11010.of _ _ _ ?_
    unfold F.pleachref27_Same.l11010.B
    rw [if_in hi, guard_in hi, guard_in hi, nat_cast, w64_up hi hl, Same27s_l l hl d (i + 1) (by omega)]
    simp [strEq_self]
theorem Same27s_ok (l : List TFact) (hl : l.length ≤ 140737488351232) : V.pleachref27_Same l l = some true := by
  refine V.pleachref27_Same.of _ _ ?_
  unfold F.pleachref27_Same.B
  rw [show ((l.length : Int) != (l.length : Int)) = false by simp, cond_false]
  exact Same27s_l l hl l.length 0 (by omega)

end Go.Proofs.Ytdblhdpnllckhaa.AE
end
section
set_option linter.unusedVariables false
set_option linter.unusedSimpArgs false
set_option maxRecDepth 20000
namespace Go.Proofs.Ytdblhdpnllckhaa.AE
open Go

theorem FactsOf_pure (g : TGraph) (hok : okGraph g) : V.pleachlaw27_FactsOf g = some true := by
  obtain ⟨p, h1, _⟩ := Few_ok g
  refine V.pleachlaw27_FactsOf.of _ ?_
  unfold F.pleachlaw27_FactsOf.B
  rw [show ((g.1, g.2) : TGraph) = g from rfl, h1, Option.bind_some, awake27, Of_ok g hok, refOf_ok g hok, Option.bind_some, Option.bind_some]
  cases p with
  | false => rfl
  | true =>
    have hl : (if wrongN g = 0 then factsT g else []).length ≤ 30000 ∧ rises (if wrongN g = 0 then factsT g else []) = true := by
      by_cases hw : wrongN g = 0
      · have hg := (good_iff g).1 hw
        rw [if_pos hw]
        exact ⟨by rw [← (mix_perm g).length_eq]; exact mix_len g hg, rise_of (facts_rs g hg)⟩
      · rw [if_neg hw]; exact ⟨by simp, rfl⟩
    generalize (if wrongN g = 0 then factsT g else []) = F at hl ⊢
    rw [Bool.not_true, cond_false, Option.bind_some, Same27s_ok F (by omega), Option.bind_some, cond_true, Rise_ok F (by omega), hl.2]
    rfl

end Go.Proofs.Ytdblhdpnllckhaa.AE
end
section
namespace Go.Proofs.Ytdblhdpnllckhaa.AE
open Go Go.ChangeShapes Go.WideShapes Go.ChangeAt Go.RowKit
theorem weights_each {H : Type} {P : Program} {p : Nat → Bool} {ts : List TypeId} {ds : List (DataW H)} (h : (DataW.weightsEach P ts ds).all p = true) {j : Nat} {t : TypeId} {d : DataW H} (ht : ts[j]? = some t) (hd : ds[j]? = some d) : ∀ n ∈ d.weights P t, p n = true :=
  fun n hn => List.all_eq_true.1 h _ (DataW.weights_mem_each ht hd n hn)
theorem own : ownKnob Try.prog.godebug = none := by kernel_rfl
theorem laidOut : laidOutB Try.prog = true := by kernel_rfl
theorem mix : Try.prog.follows .mixedOrders = true := by kernel_rfl
theorem numGoB : (Try.prog.funcs.all fun fn => !(fn.name == "runtime.NumGoroutine")) = true := by kernel_rfl
theorem num (f : FuncId) (fn : Func) (h : Try.prog.funcs[f]? = some fn) : (fn.name == "runtime.NumGoroutine") = false := by
  have := Array.all_eq_true_iff_forall_mem.1 numGoB fn (Array.mem_of_getElem? h)
  simpa using this
def rho167 : Go.Shelf.Ren := ⟨fun i => match i with | 29 => 200 | _ => 201, fun i => match i with | 24 => 23 | 9 => 95 | 3 => 3 | 4 => 4 | _ => 0, fun x => x⟩
theorem ins167 : InsOk Try.prog rho167 167 "slices.Insert[[]pleach/api.Edge,pleach/api.Edge]" Try.f200 sEdge := by
  refine ⟨⟨mix, Try.func167.trans (congrArg some (by kernel_rfl)), Try.func200, by kernel_rfl, by kernel_rfl, by kernel_rfl, by kernel_rfl, by kernel_rfl, by kernel_rfl, by kernel_rfl, by kernel_rfl, by kernel_rfl, by decide⟩, by kernel_rfl, by kernel_rfl, by kernel_rfl, by kernel_rfl, by decide⟩
def rho166 : Go.Shelf.Ren := ⟨fun i => match i with | 29 => 198 | _ => 199, fun i => match i with | 24 => 22 | 9 => 63 | 3 => 3 | 4 => 4 | _ => 0, fun x => x⟩
theorem ins166 : InsOk Try.prog rho166 166 "slices.Insert[[]pleach/api.Node,pleach/api.Node]" Try.f198 sNode := by
  refine ⟨⟨mix, Try.func166.trans (congrArg some (by kernel_rfl)), Try.func198, by kernel_rfl, by kernel_rfl, by kernel_rfl, by kernel_rfl, by kernel_rfl, by kernel_rfl, by kernel_rfl, by kernel_rfl, by kernel_rfl, by decide⟩, by kernel_rfl, by kernel_rfl, by kernel_rfl, by kernel_rfl, by decide⟩
def rho162 : Go.Shelf.Ren := ⟨fun i => match i with | 29 => 194 | _ => 195, fun i => match i with | 24 => 60 | 9 => 9 | 3 => 3 | 4 => 4 | _ => 0, fun x => x⟩
theorem ins162 : InsOk Try.prog rho162 162 "slices.Insert[[]string,string]" Try.f194 .str := by
  refine ⟨⟨mix, Try.func162.trans (congrArg some (by kernel_rfl)), Try.func194, by kernel_rfl, by kernel_rfl, by kernel_rfl, by kernel_rfl, by kernel_rfl, by kernel_rfl, by kernel_rfl, by kernel_rfl, by kernel_rfl, by decide⟩, by kernel_rfl, by kernel_rfl, by kernel_rfl, by kernel_rfl, by decide⟩
def rho123 : Go.Shelf.Ren := ⟨fun i => match i with | 29 => 159 | _ => 160, fun i => match i with | 24 => 61 | 9 => 99 | 3 => 3 | 4 => 4 | _ => 0, fun x => x⟩
theorem ins123 : InsOk Try.prog rho123 123 "slices.Insert[[]pleach/api.Prop,pleach/api.Prop]" Try.f159 sProp := by
  refine ⟨⟨mix, Try.func123.trans (congrArg some (by kernel_rfl)), Try.func159, by kernel_rfl, by kernel_rfl, by kernel_rfl, by kernel_rfl, by kernel_rfl, by kernel_rfl, by kernel_rfl, by kernel_rfl, by kernel_rfl, by decide⟩, by kernel_rfl, by kernel_rfl, by kernel_rfl, by kernel_rfl, by decide⟩
theorem extok : ExtOk Try.prog sg := .of (show extAll Try.prog sgT from
  ⟨.nothing rfl rfl,
  ⟨.nothing rfl rfl,
  ⟨.nothing rfl rfl,
  ⟨.nothing rfl rfl,
  ⟨.nothing rfl rfl,
  ⟨.nothing rfl rfl,
  ⟨.nothing rfl rfl,
  ⟨.nothing rfl rfl,
  ⟨.nothing rfl rfl,
  ⟨.nothing rfl rfl,
  ⟨.nothing rfl rfl,
  ⟨.nothing rfl rfl,
  ⟨.nothing rfl rfl,
  ⟨.nothing rfl rfl,
  ⟨.nothing rfl rfl,
  ⟨.nothing rfl rfl,
  ⟨.nothing rfl rfl,
  ⟨.nothing rfl rfl,
  ⟨.nothing rfl rfl,
  ⟨.nothing rfl rfl,
  ⟨.nothing rfl rfl,
  ⟨.nothing rfl rfl,
  ⟨.nothing rfl rfl,
  ⟨.nothing rfl rfl,
  ⟨.nothing rfl rfl,
  ⟨.nothing rfl rfl,
  ⟨.nothing rfl rfl,
  ⟨.nothing rfl rfl,
  ⟨.nothing rfl rfl,
  ⟨.nothing rfl rfl,
  ⟨.nothing rfl rfl,
  ⟨.nothing rfl rfl,
  ⟨.nothing rfl rfl,
  ⟨.nothing rfl rfl,
  ⟨.nothing rfl rfl,
  ⟨.nothing rfl rfl,
  ⟨.nothing rfl rfl,
  ⟨.nothing rfl rfl,
  ⟨.nothing rfl rfl,
  ⟨.nothing rfl rfl,
  ⟨.nothing rfl rfl,
  ⟨.nothing rfl rfl,
  ⟨.nothing rfl rfl,
  ⟨.nothing rfl rfl,
  ⟨.nothing rfl rfl,
  ⟨.nothing rfl rfl,
  ⟨.nothing rfl rfl,
  ⟨.nothing rfl rfl,
  ⟨.nothing rfl rfl,
  ⟨.nothing rfl rfl,
  ⟨.nothing rfl rfl,
  ⟨.nothing rfl rfl,
  ⟨.nothing rfl rfl,
  ⟨.nothing rfl rfl,
  ⟨.nothing rfl rfl,
  ⟨.nothing rfl rfl,
  ⟨.nothing rfl rfl,
  ⟨.nothing rfl rfl,
  ⟨.nothing rfl rfl,
  ⟨.nothing rfl rfl,
  ⟨.nothing rfl rfl,
  ⟨.nothing rfl rfl,
  ⟨.nothing rfl rfl,
  ⟨.nothing rfl rfl,
  ⟨.nothing rfl rfl,
  ⟨.nothing rfl rfl,
  ⟨.nothing rfl rfl,
  ⟨.nothing rfl rfl,
  ⟨.nothing rfl rfl,
  ⟨.nothing rfl rfl,
  ⟨.nothing rfl rfl,
  ⟨.nothing rfl rfl,
  ⟨.nothing rfl rfl,
  ⟨.nothing rfl rfl,
  ⟨.nothing rfl rfl,
  ⟨.nothing rfl rfl,
  ⟨.nothing rfl rfl,
  ⟨.nothing rfl rfl,
  ⟨.nothing rfl rfl,
  ⟨.nothing rfl rfl,
  ⟨.nothing rfl rfl,
  ⟨.nothing rfl rfl,
  ⟨.nothing rfl rfl,
  ⟨.nothing rfl rfl,
  ⟨.nothing rfl rfl,
  ⟨.nothing rfl rfl,
  ⟨.nothing rfl rfl,
  ⟨.nothing rfl rfl,
  ⟨.nothing rfl rfl,
  ⟨.nothing rfl rfl,
  ⟨.nothing rfl rfl,
  ⟨.nothing rfl rfl,
  ⟨.nothing rfl rfl,
  ⟨.nothing rfl rfl,
  ⟨.nothing rfl rfl,
  ⟨.nothing rfl rfl,
  ⟨.nothing rfl rfl,
  ⟨.nothing rfl rfl,
  ⟨.nothing rfl rfl,
  ⟨.nothing rfl rfl,
  ⟨.nothing rfl rfl,
  ⟨.nothing rfl rfl,
  ⟨.nothing rfl rfl,
  ⟨.nothing rfl rfl,
  ⟨.nothing rfl rfl,
  ⟨.nothing rfl rfl,
  ⟨.nothing rfl rfl,
  ⟨.nothing rfl rfl,
  ⟨.nothing rfl rfl,
  ⟨.nothing rfl rfl,
  ⟨.nothing rfl rfl,
  ⟨.nothing rfl rfl,
  ⟨.nothing rfl rfl,
  ⟨.nothing rfl rfl,
  ⟨.nothing rfl rfl,
  ⟨.nothing rfl rfl,
  ⟨.nothing rfl rfl,
  ⟨(ins_ext ins123),
  ⟨.nothing rfl rfl,
  ⟨.nothing rfl rfl,
  ⟨.nothing rfl rfl,
  ⟨.nothing rfl rfl,
  ⟨.nothing rfl rfl,
  ⟨.nothing rfl rfl,
  ⟨.nothing rfl rfl,
  ⟨.nothing rfl rfl,
  ⟨.nothing rfl rfl,
  ⟨.nothing rfl rfl,
  ⟨.nothing rfl rfl,
  ⟨.nothing rfl rfl,
  ⟨.nothing rfl rfl,
  ⟨.nothing rfl rfl,
  ⟨.nothing rfl rfl,
  ⟨.nothing rfl rfl,
  ⟨.nothing rfl rfl,
  ⟨.nothing rfl rfl,
  ⟨.nothing rfl rfl,
  ⟨.nothing rfl rfl,
  ⟨.nothing rfl rfl,
  ⟨.nothing rfl rfl,
  ⟨.nothing rfl rfl,
  ⟨.nothing rfl rfl,
  ⟨.nothing rfl rfl,
  ⟨.nothing rfl rfl,
  ⟨.nothing rfl rfl,
  ⟨.nothing rfl rfl,
  ⟨.ofOp rfl rfl (opCompare_ok Try.func153 (by kernel_rfl) (by kernel_rfl) (by kernel_rfl) (by kernel_rfl)),
  ⟨.nothing rfl rfl,
  ⟨.nothing rfl rfl,
  ⟨.nothing rfl rfl,
  ⟨.nothing rfl rfl,
  ⟨.nothing rfl rfl,
  ⟨.nothing rfl rfl,
  ⟨(ins_ext ins162),
  ⟨.nothing rfl rfl,
  ⟨.nothing rfl rfl,
  ⟨.nothing rfl rfl,
  ⟨(ins_ext ins166),
  ⟨(ins_ext ins167),
  ⟨.nothing rfl rfl,
  ⟨.nothing rfl rfl,
  ⟨.nothing rfl rfl,
  ⟨.nothing rfl rfl,
  ⟨.nothing rfl rfl,
  ⟨.nothing rfl rfl,
  ⟨.nothing rfl rfl,
  ⟨.nothing rfl rfl,
  ⟨.nothing rfl rfl,
  ⟨.nothing rfl rfl,
  ⟨.nothing rfl rfl,
  ⟨.nothing rfl rfl,
  ⟨.nothing rfl rfl,
  ⟨.nothing rfl rfl,
  ⟨.nothing rfl rfl,
  ⟨.nothing rfl rfl,
  ⟨.nothing rfl rfl,
  ⟨.nothing rfl rfl,
  ⟨.nothing rfl rfl,
  ⟨.nothing rfl rfl,
  ⟨.nothing rfl rfl,
  ⟨.nothing rfl rfl,
  ⟨.nothing rfl rfl,
  ⟨.nothing rfl rfl,
  ⟨.nothing rfl rfl,
  ⟨.nothing rfl rfl,
  ⟨.nothing rfl rfl,
  ⟨.nothing rfl rfl,
  ⟨.nothing rfl rfl,
  ⟨.nothing rfl rfl,
  ⟨.nothing rfl rfl,
  ⟨.nothing rfl rfl,
  ⟨.nothing rfl rfl,
  ⟨.nothing rfl rfl,
  ⟨.nothing rfl rfl,
  ⟨.nothing rfl rfl,
  ⟨.nothing rfl rfl,
  ⟨.nothing rfl rfl,
  ⟨.nothing rfl rfl,
  ⟨.nothing rfl rfl,
  ⟨.ofOp rfl rfl (opIndexByte_ok Try.func220 (by kernel_rfl) (by kernel_rfl) (by kernel_rfl) (by kernel_rfl)),
  ⟨.nothing rfl rfl,
  ⟨.nothing rfl rfl,
  ⟨.nothing rfl rfl,
  ⟨.nothing rfl rfl,
  ⟨.nothing rfl rfl,
  ⟨.nothing rfl rfl,
  ⟨.nothing rfl rfl,
  ⟨.nothing rfl rfl,
  ⟨.nothing rfl rfl,
  ⟨.nothing rfl rfl,
  trivial⟩⟩⟩⟩⟩⟩⟩⟩⟩⟩⟩⟩⟩⟩⟩⟩⟩⟩⟩⟩⟩⟩⟩⟩⟩⟩⟩⟩⟩⟩⟩⟩⟩⟩⟩⟩⟩⟩⟩⟩⟩⟩⟩⟩⟩⟩⟩⟩⟩⟩⟩⟩⟩⟩⟩⟩⟩⟩⟩⟩⟩⟩⟩⟩⟩⟩⟩⟩⟩⟩⟩⟩⟩⟩⟩⟩⟩⟩⟩⟩⟩⟩⟩⟩⟩⟩⟩⟩⟩⟩⟩⟩⟩⟩⟩⟩⟩⟩⟩⟩⟩⟩⟩⟩⟩⟩⟩⟩⟩⟩⟩⟩⟩⟩⟩⟩⟩⟩⟩⟩⟩⟩⟩⟩⟩⟩⟩⟩⟩⟩⟩⟩⟩⟩⟩⟩⟩⟩⟩⟩⟩⟩⟩⟩⟩⟩⟩⟩⟩⟩⟩⟩⟩⟩⟩⟩⟩⟩⟩⟩⟩⟩⟩⟩⟩⟩⟩⟩⟩⟩⟩⟩⟩⟩⟩⟩⟩⟩⟩⟩⟩⟩⟩⟩⟩⟩⟩⟩⟩⟩⟩⟩⟩⟩⟩⟩⟩⟩⟩⟩⟩⟩⟩⟩⟩⟩⟩⟩⟩⟩)
end Go.Proofs.Ytdblhdpnllckhaa.AE
end
section
namespace Go.Proofs.Ytdblhdpnllckhaa.AE.factsOf
open Go Go.ChangeShapes Go.WideShapes Go.ChangeAt Go.RowKit
open Go.ChangeMaps (open_string shut_string)
set_option linter.unusedVariables false
def Pure : Prop := ∀ (x0 : den ((.prod (.list (.prod .str (.prod (.list .str) (.list (.prod .str (.prod (.int .i64) (.prod (.int .i64) .str))))))) (.list (.prod .str (.prod .str (.prod .str (.prod (.list .str) (.list (.prod .str (.prod (.int .i64) (.prod (.int .i64) .str)))))))))))), Gd ((.prod (.list (.prod .str (.prod (.list .str) (.list (.prod .str (.prod (.int .i64) (.prod (.int .i64) .str))))))) (.list (.prod .str (.prod .str (.prod .str (.prod (.list .str) (.list (.prod .str (.prod (.int .i64) (.prod (.int .i64) .str))))))))))) x0 → ∃ K, F.pleachlaw27_FactsOf K x0 = some true
set_option maxRecDepth 100000 in
theorem lifted (pure : Pure) (os : Os) (started : os.Started) (H : Type) (enc : TypeId × Value → H) :
    ReturnsInHanded {} Try.checked os 3 .any (Rows.factsOfSpec.pre6 enc Try.prog Try.f3 Rows.factsOfRow.domain false) (Rows.factsOfSpec.post enc Try.prog Try.f3 false true false false) := by
  refine returnsInHanded_of_change_sized (C := Try.checked) own started (by kernel_rfl) Try.func3
    (ChangeSpec.witness6 (enc := enc) (C := Try.checked) false ⟨#[], #[.agg #[.slice none 0 0, .slice none 0 0]], []⟩ 8 (by kernel_rfl) (by kernel_rfl) (by kernel_rfl) (by kernel_rfl)) ?_
  intro W base args ds gs before hval0 hW hcnd hsz0 _
  have hsz : (DataW.weightsEach Try.prog (Try.f3.params.toList ++ Rows.factsOfSpec.plain.varTypes Try.prog) (ds ++ gs)).all (· ≤ reachBytes) = true := hsz0
  have hval : ∀ (j : Nat) t v, Try.f3.params[j]? = some t → args[j]? = some v → Value.okWide Try.prog W .any base t v := hval0
  have hW' := hW
  obtain ⟨p, q, hA0, hV, rfl, hfz, hnd⟩ := hW
  have hA : DataW.TrodAll enc Try.prog W 0 (fun _ => true) true Try.f3.params.toList args.toList ds p := hA0
  rw [Try.params3] at hA hval hsz
  obtain ⟨v0, vs0, d0, ds0, p0, q0, hargs, rfl, rfl, h0, r0⟩ := trodAll_cons hA
  obtain ⟨rfl, rfl, rfl⟩ := trodAll_nil r0
  obtain rfl : args = #[v0] := by cases args; simp_all
  obtain ⟨rfl, rfl⟩ := trodVars_none hV
  have k0 := h0
  have lt0 : ∀ x ∈ p0, x.block < W.heap.size := by obtain ⟨m, hm⟩ := k0; exact DataW.trod_lt m _ _ _ hm
  obtain ⟨cs0, rfl, _⟩ := okWide_struct Try.underlying25 (hval 0 25 v0 rfl rfl)
  obtain ⟨fuel0, hf0⟩ := h0
  obtain ⟨x0, S0, G0⟩ := fitT_ok (O := OX NoX [] []) (fun b => own_none) 20 25 ((.prod (.list (.prod .str (.prod (.list .str) (.list (.prod .str (.prod (.int .i64) (.prod (.int .i64) .str))))))) (.list (.prod .str (.prod .str (.prod .str (.prod (.list .str) (.list (.prod .str (.prod (.int .i64) (.prod (.int .i64) .str))))))))))) (by kernel_rfl) fuel0 _ _ hf0 (fun m hm => by have hq := weights_each hsz (j := 0) (t := 25) rfl rfl m hm; exact of_decide_eq_true hq)
  obtain ⟨K, hk⟩ := pure x0 G0
  have ha : AV1sR (OX NoX [] []) W [] [.agg (inj ((.prod (.list (.prod .str (.prod (.list .str) (.list (.prod .str (.prod (.int .i64) (.prod (.int .i64) .str))))))) (.list (.prod .str (.prod .str (.prod .str (.prod (.list .str) (.list (.prod .str (.prod (.int .i64) (.prod (.int .i64) .str))))))))))) x0)] (#[.agg cs0] : Array Value).toList := .cons (arg_agg S0) ⟨rfl, by simp⟩
  refine (law_calls (good Try.prog sg extok mix num K) (f := 3) (t := (true : Bool)) (b := true) hk rfl (fun O w ρ vals σ v h hv => bool_of h hv) ha).mono fun e W' ⟨he, hd⟩ => ?_
  have bel : Below W.heap.size W W' := hd
  subst he
  exact ⟨_, rfl, _, _, _, [], _, [], hW', trodAll_mk1 (shut_bool Try.underlying4 _), (trodAll_cons_mk (Below.trod laidOut (by kernel_rfl) (of_decide_eq_true (by kernel_rfl)) k0 bel lt0) trodAll_mk0), rfl, bel.frame _, fun h => by cases h⟩
theorem over (pure : Pure) : Rows.factsOfRow.holds Try.pinned (OpenSpec.ofChange Rows.factsOfSpec) :=
  OpenClaim.holds_of_wide 3 Try.f3 rfl rfl rfl rfl rfl rfl rfl ⟨rfl, rfl, rfl, rfl, rfl⟩ rfl rfl rfl rfl rfl (by kernel_rfl) Try.func3 (by kernel_rfl)
    (of_decide_eq_true (by kernel_rfl)) (by unfold Func.isWrapper; first | (rw [if_pos (by decide +kernel)]; kernel_rfl) | (rw [if_neg (by decide +kernel)]; exact ⟨rfl, rfl⟩))
    (fun os started H enc _ => lifted pure os started H enc)
theorem proved (pure : Pure) : Rows.FactsOfSaid := over pure
end Go.Proofs.Ytdblhdpnllckhaa.AE.factsOf
end
