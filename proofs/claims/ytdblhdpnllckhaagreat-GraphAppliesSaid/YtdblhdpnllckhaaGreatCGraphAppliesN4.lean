/- The evaluator of the program's form, its soundness, the functions of the given program as it evaluates them, and laws on these. Conditions: as each theorem says. -/
import Derived.Test.YtdblhdpnllckhaaGreatCGraphAppliesN3
import Derived.Test.YtdblhdpnllckhaaGreatCGraphAppliesN2
section
set_option linter.unusedVariables false
set_option maxRecDepth 100000
namespace Go.Proofs.YtdblhdpnllckhaaGreat.AE
open Go
theorem V.pleachref26_FewOps.l11010.of a0 x0 x1 {r} (h : F.pleachref26_FewOps.l11010.B V.pleachref26_FewOps.l11010 a0 x0 x1 = some r) : V.pleachref26_FewOps.l11010 a0 x0 x1 = some r :=
  App.to (App.step 1 (fun v => F.pleachref26_FewOps.l11010.eq (v 0) (v 1) a0 x0 x1) (by unfold F.pleachref26_FewOps.l11010.B; repeat' first | exact App.val | exact App.no | exact App.lim | apply App.cond | apply App.guard | apply App.meet | apply App.ite | refine App.bind ?_ fun _ => ?_)) h
theorem V.pleachref26_FewOps.of a0 {r} (h : F.pleachref26_FewOps.B V.pleachref26_FewOps.l11010 a0 = some r) : V.pleachref26_FewOps a0 = some r :=
  App.to (App.step 0 (fun v => F.pleachref26_FewOps.eq (v 0) a0) (by unfold F.pleachref26_FewOps.B; repeat' first | exact App.val | exact App.no | exact App.lim | exact (App.enter 1 App.lim) | apply App.cond | apply App.guard | apply App.meet | apply App.ite | refine App.bind ?_ fun _ => ?_)) h
noncomputable def F.pleachref26_Right (K : Nat) (a0 : TOp) : Option (Bool) := evFn Tryz.prog sg K 65 [.agg [.val (.int .i64 a0.1), .val (.string a0.2.1), .val (.string a0.2.2.1), .val (.string a0.2.2.2.1), .val (.string a0.2.2.2.2.1), .val (.int .i64 a0.2.2.2.2.2.1), .val (.int .i64 a0.2.2.2.2.2.2.1), .val (.string a0.2.2.2.2.2.2.2)]] []
noncomputable def F.pleachref26_Right.B (c0 : (ByteArray) → Option (Bool)) (c1 : (TValue) → Option (Bool)) (a0 : TOp) : Option (Bool) :=
    ((c0 a0.2.1).bind fun t0 => (bif (!t0) then (some false) else (bif (decide (a0.1 < 1)) then (some false) else (bif (decide (a0.1 > 12)) then (some false) else (bif (a0.1 == 3) then ((c0 a0.2.2.1).bind fun t1 => (bif t1 then ((c0 a0.2.2.2.1).bind fun t2 => (some t2)) else (some false))) else (bif (decide (a0.1 ≥ 5)) then ((c0 a0.2.2.2.2.1).bind fun t3 => (bif (!t3) then (some false) else (bif (a0.1 != 9) then (bif (a0.1 != 11) then (some true) else ((c1 (a0.2.2.2.2.2.1, a0.2.2.2.2.2.2.1, a0.2.2.2.2.2.2.2)).bind fun t4 => (some t4))) else ((c1 (a0.2.2.2.2.2.1, a0.2.2.2.2.2.2.1, a0.2.2.2.2.2.2.2)).bind fun t5 => (some t5))))) else (bif (a0.1 != 9) then (bif (a0.1 != 11) then (some true) else ((c1 (a0.2.2.2.2.2.1, a0.2.2.2.2.2.2.1, a0.2.2.2.2.2.2.2)).bind fun t6 => (some t6))) else ((c1 (a0.2.2.2.2.2.1, a0.2.2.2.2.2.2.1, a0.2.2.2.2.2.2.2)).bind fun t7 => (some t7)))))))))
theorem F.pleachref26_Right.eq K a0 : F.pleachref26_Right (K + 1) a0 = F.pleachref26_Right.B (F.pleachref05_Is K) (F.pleachref06_Is K) a0 := by kernel_rfl
noncomputable def V.pleachref26_Right (a0 : TOp) := lim fun v => F.pleachref26_Right (v 0) a0
theorem V.pleachref26_Right.of a0 {r} (h : F.pleachref26_Right.B V.pleachref05_Is V.pleachref06_Is a0 = some r) : V.pleachref26_Right a0 = some r :=
  App.to (App.step 0 (fun v => F.pleachref26_Right.eq (v 0) a0) (by unfold F.pleachref26_Right.B; repeat' first | exact App.val | exact App.no | exact App.lim | apply App.cond | apply App.guard | apply App.meet | apply App.ite | refine App.bind ?_ fun _ => ?_)) h
noncomputable def F.pleachref26_addNode (K : Nat) (a0 : TGraph) (a1 : TNode) : Option (TGraph) := evFn Tryz.prog sg K 99 [.agg [.list sNode a0.1 false, .list sEdge a0.2 false], .agg [.val (.string a1.1), .list .str a1.2.1 false, .list sProp a1.2.2 false]] []
noncomputable def F.pleachref26_addNode.at (K : Nat) (p ns : List Nat) (s : St) : Option (TGraph) := atFn Tryz.prog sg K 99 0 p ns s
noncomputable def F.pleachref26_addNode.in (K : Nat) (H : List Nat → List Nat → St → Option (TGraph)) (p ns : List Nat) (s : St) : Option (TGraph) := inFn Tryz.prog sg K 99 0 [] H p ns s
theorem F.pleachref26_addNode.in_eq K p ns s : F.pleachref26_addNode.at K p ns s = F.pleachref26_addNode.in K (F.pleachref26_addNode.at K) p ns s := atFn_eq (P := Tryz.prog) (sg := sg) (K := K) (f := 99) (m := 0) [] p ns s
theorem F.pleachref26_addNode.in_main K a0 a1 : F.pleachref26_addNode (K + 1) a0 a1 = F.pleachref26_addNode.in K (F.pleachref26_addNode.at K) [] [] ⟨slots [.agg [.list sNode a0.1 false, .list sEdge a0.2 false], .agg [.val (.string a1.1), .list .str a1.2.1 false, .list sProp a1.2.2 false]] 0, []⟩ := evFn_eq (P := Tryz.prog) (sg := sg) (K := K) (f := 99) (args := [.agg [.list sNode a0.1 false, .list sEdge a0.2 false], .agg [.val (.string a1.1), .list .str a1.2.1 false, .list sProp a1.2.2 false]]) (σ := []) [] (by kernel_rfl)
def F.pleachref26_addNode.l111010.st (a0 : TGraph) (a1 : TNode) (x0 : Bool) (x1 : Int) (x2 : List TNode) : St := ⟨[(2, .one (.sc (.ref 0 0))), (3, .one (.sc (.ref 1 0))), (4, .one (.sc (.ref 2 0))), (5, .one (.sc (.own 3 none))), (6, vB x0), (7, vI x1)], [.cells 25 [.list sNode a0.1 false, .list sEdge a0.2 false], .cells 42 [.val (.string a1.1), .list .str a1.2.1 false, .list sProp a1.2.2 false], .cells 25 [.val (.slice none 0 0), .val (.slice none 0 0)], .elems sNode x2]⟩
noncomputable def F.pleachref26_addNode.l111010 (K n0 : Nat) (a0 : TGraph) (a1 : TNode) (x0 : Bool) (x1 : Int) (x2 : List TNode) := F.pleachref26_addNode.at K [1, 1, 1, 0, 1, 0] [n0] (F.pleachref26_addNode.l111010.st a0 a1 x0 x1 x2)
noncomputable def F.pleachref26_addNode.l111010.B (c0 : (TGraph) → (TNode) → (Bool) → (Int) → (List TNode) → Option (TGraph)) (a0 : TGraph) (a1 : TNode) (x0 : Bool) (x1 : Int) (x2 : List TNode) : Option (TGraph) :=
    (bif (decide (x1 < (a0.1.length : Int))) then (bif (!x0) then (guardK (decide (0 ≤ x1) && decide (x1 < (a0.1.length : Int))) (bif (!(strLt ((rd sNode a0.1 x1.toNat).1) a1.1 || strEq ((rd sNode a0.1 x1.toNat).1) a1.1)) then (guardK (decide (x2.length + ([(a1.1, a1.2.1, a1.2.2)]).length ≤ nmax)) (guardK (decide (0 ≤ x1) && decide (x1 < (a0.1.length : Int))) (guardK (decide ((x2 ++ [(a1.1, a1.2.1, a1.2.2)]).length + ([((rd sNode a0.1 x1.toNat).1, ((rd sNode a0.1 x1.toNat).2).1, ((rd sNode a0.1 x1.toNat).2).2)]).length ≤ nmax)) (c0 a0 a1 true (w64 (x1 + 1)) ((x2 ++ [(a1.1, a1.2.1, a1.2.2)]) ++ [((rd sNode a0.1 x1.toNat).1, ((rd sNode a0.1 x1.toNat).2).1, ((rd sNode a0.1 x1.toNat).2).2)]))))) else (guardK (decide (0 ≤ x1) && decide (x1 < (a0.1.length : Int))) (guardK (decide (x2.length + ([((rd sNode a0.1 x1.toNat).1, ((rd sNode a0.1 x1.toNat).2).1, ((rd sNode a0.1 x1.toNat).2).2)]).length ≤ nmax)) (c0 a0 a1 x0 (w64 (x1 + 1)) (x2 ++ [((rd sNode a0.1 x1.toNat).1, ((rd sNode a0.1 x1.toNat).2).1, ((rd sNode a0.1 x1.toNat).2).2)])))))) else (guardK (decide (0 ≤ x1) && decide (x1 < (a0.1.length : Int))) (guardK (decide (x2.length + ([((rd sNode a0.1 x1.toNat).1, ((rd sNode a0.1 x1.toNat).2).1, ((rd sNode a0.1 x1.toNat).2).2)]).length ≤ nmax)) (c0 a0 a1 x0 (w64 (x1 + 1)) (x2 ++ [((rd sNode a0.1 x1.toNat).1, ((rd sNode a0.1 x1.toNat).2).1, ((rd sNode a0.1 x1.toNat).2).2)]))))) else (bif (!x0) then (guardK (decide (x2.length + ([(a1.1, a1.2.1, a1.2.2)]).length ≤ nmax)) (some ((x2 ++ [(a1.1, a1.2.1, a1.2.2)]), a0.2))) else (some (x2, a0.2))))
theorem F.pleachref26_addNode.l111010.eq K n0 a0 a1 x0 x1 x2 : F.pleachref26_addNode.l111010 K (n0 + 1) a0 a1 x0 x1 x2 = F.pleachref26_addNode.l111010.B (F.pleachref26_addNode.l111010 K n0) a0 a1 x0 x1 x2 := (F.pleachref26_addNode.in_eq K [1, 1, 1, 0, 1, 0] [n0 + 1] (F.pleachref26_addNode.l111010.st a0 a1 x0 x1 x2)).trans ((show ∀ H, F.pleachref26_addNode.in K H [1, 1, 1, 0, 1, 0] [n0 + 1] (F.pleachref26_addNode.l111010.st a0 a1 x0 x1 x2) = F.pleachref26_addNode.l111010.B (fun a0 a1 x0 x1 x2 => H [1, 1, 1, 0, 1, 0] [n0] (F.pleachref26_addNode.l111010.st a0 a1 x0 x1 x2)) a0 a1 x0 x1 x2 from by intro H; kernel_rfl) (F.pleachref26_addNode.at K))
noncomputable def F.pleachref26_addNode.B (c0 : (TGraph) → (TNode) → (Bool) → (Int) → (List TNode) → Option (TGraph)) (a0 : TGraph) (a1 : TNode) : Option (TGraph) :=
    (c0 a0 a1 false 0 ([]))
theorem F.pleachref26_addNode.eq K a0 a1 : F.pleachref26_addNode (K + 1) a0 a1 = F.pleachref26_addNode.B (F.pleachref26_addNode.l111010 K K) a0 a1 := (F.pleachref26_addNode.in_main K a0 a1).trans ((show ∀ H, F.pleachref26_addNode.in K H [] [] ⟨slots [.agg [.list sNode a0.1 false, .list sEdge a0.2 false], .agg [.val (.string a1.1), .list .str a1.2.1 false, .list sProp a1.2.2 false]] 0, []⟩ = F.pleachref26_addNode.B (fun a0 a1 x0 x1 x2 => H [1, 1, 1, 0, 1, 0] [K] (F.pleachref26_addNode.l111010.st a0 a1 x0 x1 x2)) a0 a1 from by intro H; kernel_rfl) (F.pleachref26_addNode.at K))
noncomputable def V.pleachref26_addNode.l111010 (a0 : TGraph) (a1 : TNode) (x0 : Bool) (x1 : Int) (x2 : List TNode) := lim fun v => F.pleachref26_addNode.l111010 (v 0) (v 1) a0 a1 x0 x1 x2
noncomputable def V.pleachref26_addNode (a0 : TGraph) (a1 : TNode) := lim fun v => F.pleachref26_addNode (v 0) a0 a1
theorem V.pleachref26_addNode.l111010.of a0 a1 x0 x1 x2 {r} (h : F.pleachref26_addNode.l111010.B V.pleachref26_addNode.l111010 a0 a1 x0 x1 x2 = some r) : V.pleachref26_addNode.l111010 a0 a1 x0 x1 x2 = some r :=
  App.to (App.step 1 (fun v => F.pleachref26_addNode.l111010.eq (v 0) (v 1) a0 a1 x0 x1 x2) (by unfold F.pleachref26_addNode.l111010.B; repeat' first | exact App.val | exact App.no | exact App.lim | apply App.cond | apply App.guard | apply App.meet | apply App.ite | refine App.bind ?_ fun _ => ?_)) h
theorem V.pleachref26_addNode.of a0 a1 {r} (h : F.pleachref26_addNode.B V.pleachref26_addNode.l111010 a0 a1 = some r) : V.pleachref26_addNode a0 a1 = some r :=
  App.to (App.step 0 (fun v => F.pleachref26_addNode.eq (v 0) a0 a1) (by unfold F.pleachref26_addNode.B; repeat' first | exact App.val | exact App.no | exact App.lim | exact (App.enter 1 App.lim) | apply App.cond | apply App.guard | apply App.meet | apply App.ite | refine App.bind ?_ fun _ => ?_)) h
noncomputable def F.pleachref26_nodes (K : Nat) (a0 : TGraph) : Option ((List TNode)) := evFn Tryz.prog sg K 69 [.agg [.list sNode a0.1 false, .list sEdge a0.2 false]] []
noncomputable def F.pleachref26_nodes.B (a0 : TGraph) : Option ((List TNode)) :=
    (guardK (decide (0 + a0.1.length ≤ nmax)) (some ([] ++ a0.1)))
theorem F.pleachref26_nodes.eq K a0 : F.pleachref26_nodes (K + 1) a0 = F.pleachref26_nodes.B a0 := by kernel_rfl
noncomputable def V.pleachref26_nodes (a0 : TGraph) := lim fun v => F.pleachref26_nodes (v 0) a0
theorem V.pleachref26_nodes.of a0 {r} (h : F.pleachref26_nodes.B a0 = some r) : V.pleachref26_nodes a0 = some r :=
  App.to (App.step 0 (fun v => F.pleachref26_nodes.eq (v 0) a0) (by unfold F.pleachref26_nodes.B; repeat' first | exact App.val | exact App.no | exact App.lim | apply App.cond | apply App.guard | apply App.meet | apply App.ite | refine App.bind ?_ fun _ => ?_)) h
noncomputable def F.pleachref26_addEdge (K : Nat) (a0 : TGraph) (a1 : TEdge) : Option (TGraph) := evFn Tryz.prog sg K 100 [.agg [.list sNode a0.1 false, .list sEdge a0.2 false], .agg [.val (.string a1.1), .val (.string a1.2.1), .val (.string a1.2.2.1), .list .str a1.2.2.2.1 false, .list sProp a1.2.2.2.2 false]] []
noncomputable def F.pleachref26_addEdge.at (K : Nat) (p ns : List Nat) (s : St) : Option (TGraph) := atFn Tryz.prog sg K 100 0 p ns s
noncomputable def F.pleachref26_addEdge.in (K : Nat) (H : List Nat → List Nat → St → Option (TGraph)) (p ns : List Nat) (s : St) : Option (TGraph) := inFn Tryz.prog sg K 100 0 [] H p ns s
theorem F.pleachref26_addEdge.in_eq K p ns s : F.pleachref26_addEdge.at K p ns s = F.pleachref26_addEdge.in K (F.pleachref26_addEdge.at K) p ns s := atFn_eq (P := Tryz.prog) (sg := sg) (K := K) (f := 100) (m := 0) [] p ns s
theorem F.pleachref26_addEdge.in_main K a0 a1 : F.pleachref26_addEdge (K + 1) a0 a1 = F.pleachref26_addEdge.in K (F.pleachref26_addEdge.at K) [] [] ⟨slots [.agg [.list sNode a0.1 false, .list sEdge a0.2 false], .agg [.val (.string a1.1), .val (.string a1.2.1), .val (.string a1.2.2.1), .list .str a1.2.2.2.1 false, .list sProp a1.2.2.2.2 false]] 0, []⟩ := evFn_eq (P := Tryz.prog) (sg := sg) (K := K) (f := 100) (args := [.agg [.list sNode a0.1 false, .list sEdge a0.2 false], .agg [.val (.string a1.1), .val (.string a1.2.1), .val (.string a1.2.2.1), .list .str a1.2.2.2.1 false, .list sProp a1.2.2.2.2 false]]) (σ := []) [] (by kernel_rfl)
def F.pleachref26_addEdge.l111010.st (a0 : TGraph) (a1 : TEdge) (x0 : Bool) (x1 : Int) (x2 : List TEdge) : St := ⟨[(2, .one (.sc (.ref 0 0))), (3, .one (.sc (.ref 1 0))), (4, .one (.sc (.ref 2 0))), (5, .one (.sc (.own 3 none))), (6, vB x0), (7, vI x1)], [.cells 25 [.list sNode a0.1 false, .list sEdge a0.2 false], .cells 46 [.val (.string a1.1), .val (.string a1.2.1), .val (.string a1.2.2.1), .list .str a1.2.2.2.1 false, .list sProp a1.2.2.2.2 false], .cells 25 [.val (.slice none 0 0), .val (.slice none 0 0)], .elems sEdge x2]⟩
noncomputable def F.pleachref26_addEdge.l111010 (K n0 : Nat) (a0 : TGraph) (a1 : TEdge) (x0 : Bool) (x1 : Int) (x2 : List TEdge) := F.pleachref26_addEdge.at K [1, 1, 1, 0, 1, 0] [n0] (F.pleachref26_addEdge.l111010.st a0 a1 x0 x1 x2)
noncomputable def F.pleachref26_addEdge.l111010.B (c0 : (TGraph) → (TEdge) → (Bool) → (Int) → (List TEdge) → Option (TGraph)) (a0 : TGraph) (a1 : TEdge) (x0 : Bool) (x1 : Int) (x2 : List TEdge) : Option (TGraph) :=
    (bif (decide (x1 < (a0.2.length : Int))) then (bif (!x0) then (guardK (decide (0 ≤ x1) && decide (x1 < (a0.2.length : Int))) (bif (!(strLt ((rd sEdge a0.2 x1.toNat).1) a1.1 || strEq ((rd sEdge a0.2 x1.toNat).1) a1.1)) then (guardK (decide (x2.length + ([(a1.1, a1.2.1, a1.2.2.1, a1.2.2.2.1, a1.2.2.2.2)]).length ≤ nmax)) (guardK (decide (0 ≤ x1) && decide (x1 < (a0.2.length : Int))) (guardK (decide ((x2 ++ [(a1.1, a1.2.1, a1.2.2.1, a1.2.2.2.1, a1.2.2.2.2)]).length + ([((rd sEdge a0.2 x1.toNat).1, ((rd sEdge a0.2 x1.toNat).2).1, (((rd sEdge a0.2 x1.toNat).2).2).1, ((((rd sEdge a0.2 x1.toNat).2).2).2).1, ((((rd sEdge a0.2 x1.toNat).2).2).2).2)]).length ≤ nmax)) (c0 a0 a1 true (w64 (x1 + 1)) ((x2 ++ [(a1.1, a1.2.1, a1.2.2.1, a1.2.2.2.1, a1.2.2.2.2)]) ++ [((rd sEdge a0.2 x1.toNat).1, ((rd sEdge a0.2 x1.toNat).2).1, (((rd sEdge a0.2 x1.toNat).2).2).1, ((((rd sEdge a0.2 x1.toNat).2).2).2).1, ((((rd sEdge a0.2 x1.toNat).2).2).2).2)]))))) else (guardK (decide (0 ≤ x1) && decide (x1 < (a0.2.length : Int))) (guardK (decide (x2.length + ([((rd sEdge a0.2 x1.toNat).1, ((rd sEdge a0.2 x1.toNat).2).1, (((rd sEdge a0.2 x1.toNat).2).2).1, ((((rd sEdge a0.2 x1.toNat).2).2).2).1, ((((rd sEdge a0.2 x1.toNat).2).2).2).2)]).length ≤ nmax)) (c0 a0 a1 x0 (w64 (x1 + 1)) (x2 ++ [((rd sEdge a0.2 x1.toNat).1, ((rd sEdge a0.2 x1.toNat).2).1, (((rd sEdge a0.2 x1.toNat).2).2).1, ((((rd sEdge a0.2 x1.toNat).2).2).2).1, ((((rd sEdge a0.2 x1.toNat).2).2).2).2)])))))) else (guardK (decide (0 ≤ x1) && decide (x1 < (a0.2.length : Int))) (guardK (decide (x2.length + ([((rd sEdge a0.2 x1.toNat).1, ((rd sEdge a0.2 x1.toNat).2).1, (((rd sEdge a0.2 x1.toNat).2).2).1, ((((rd sEdge a0.2 x1.toNat).2).2).2).1, ((((rd sEdge a0.2 x1.toNat).2).2).2).2)]).length ≤ nmax)) (c0 a0 a1 x0 (w64 (x1 + 1)) (x2 ++ [((rd sEdge a0.2 x1.toNat).1, ((rd sEdge a0.2 x1.toNat).2).1, (((rd sEdge a0.2 x1.toNat).2).2).1, ((((rd sEdge a0.2 x1.toNat).2).2).2).1, ((((rd sEdge a0.2 x1.toNat).2).2).2).2)]))))) else (bif (!x0) then (guardK (decide (x2.length + ([(a1.1, a1.2.1, a1.2.2.1, a1.2.2.2.1, a1.2.2.2.2)]).length ≤ nmax)) (some (a0.1, (x2 ++ [(a1.1, a1.2.1, a1.2.2.1, a1.2.2.2.1, a1.2.2.2.2)])))) else (some (a0.1, x2))))
theorem F.pleachref26_addEdge.l111010.eq K n0 a0 a1 x0 x1 x2 : F.pleachref26_addEdge.l111010 K (n0 + 1) a0 a1 x0 x1 x2 = F.pleachref26_addEdge.l111010.B (F.pleachref26_addEdge.l111010 K n0) a0 a1 x0 x1 x2 := (F.pleachref26_addEdge.in_eq K [1, 1, 1, 0, 1, 0] [n0 + 1] (F.pleachref26_addEdge.l111010.st a0 a1 x0 x1 x2)).trans ((show ∀ H, F.pleachref26_addEdge.in K H [1, 1, 1, 0, 1, 0] [n0 + 1] (F.pleachref26_addEdge.l111010.st a0 a1 x0 x1 x2) = F.pleachref26_addEdge.l111010.B (fun a0 a1 x0 x1 x2 => H [1, 1, 1, 0, 1, 0] [n0] (F.pleachref26_addEdge.l111010.st a0 a1 x0 x1 x2)) a0 a1 x0 x1 x2 from by intro H; kernel_rfl) (F.pleachref26_addEdge.at K))
noncomputable def F.pleachref26_addEdge.B (c0 : (TGraph) → (TEdge) → (Bool) → (Int) → (List TEdge) → Option (TGraph)) (a0 : TGraph) (a1 : TEdge) : Option (TGraph) :=
    (c0 a0 a1 false 0 ([]))
theorem F.pleachref26_addEdge.eq K a0 a1 : F.pleachref26_addEdge (K + 1) a0 a1 = F.pleachref26_addEdge.B (F.pleachref26_addEdge.l111010 K K) a0 a1 := (F.pleachref26_addEdge.in_main K a0 a1).trans ((show ∀ H, F.pleachref26_addEdge.in K H [] [] ⟨slots [.agg [.list sNode a0.1 false, .list sEdge a0.2 false], .agg [.val (.string a1.1), .val (.string a1.2.1), .val (.string a1.2.2.1), .list .str a1.2.2.2.1 false, .list sProp a1.2.2.2.2 false]] 0, []⟩ = F.pleachref26_addEdge.B (fun a0 a1 x0 x1 x2 => H [1, 1, 1, 0, 1, 0] [K] (F.pleachref26_addEdge.l111010.st a0 a1 x0 x1 x2)) a0 a1 from by intro H; kernel_rfl) (F.pleachref26_addEdge.at K))
noncomputable def V.pleachref26_addEdge.l111010 (a0 : TGraph) (a1 : TEdge) (x0 : Bool) (x1 : Int) (x2 : List TEdge) := lim fun v => F.pleachref26_addEdge.l111010 (v 0) (v 1) a0 a1 x0 x1 x2
noncomputable def V.pleachref26_addEdge (a0 : TGraph) (a1 : TEdge) := lim fun v => F.pleachref26_addEdge (v 0) a0 a1
theorem V.pleachref26_addEdge.l111010.of a0 a1 x0 x1 x2 {r} (h : F.pleachref26_addEdge.l111010.B V.pleachref26_addEdge.l111010 a0 a1 x0 x1 x2 = some r) : V.pleachref26_addEdge.l111010 a0 a1 x0 x1 x2 = some r :=
  App.to (App.step 1 (fun v => F.pleachref26_addEdge.l111010.eq (v 0) (v 1) a0 a1 x0 x1 x2) (by unfold F.pleachref26_addEdge.l111010.B; repeat' first | exact App.val | exact App.no | exact App.lim | apply App.cond | apply App.guard | apply App.meet | apply App.ite | refine App.bind ?_ fun _ => ?_)) h
theorem V.pleachref26_addEdge.of a0 a1 {r} (h : F.pleachref26_addEdge.B V.pleachref26_addEdge.l111010 a0 a1 = some r) : V.pleachref26_addEdge a0 a1 = some r :=
  App.to (App.step 0 (fun v => F.pleachref26_addEdge.eq (v 0) a0 a1) (by unfold F.pleachref26_addEdge.B; repeat' first | exact App.val | exact App.no | exact App.lim | exact (App.enter 1 App.lim) | apply App.cond | apply App.guard | apply App.meet | apply App.ite | refine App.bind ?_ fun _ => ?_)) h
noncomputable def F.pleachref26_edges (K : Nat) (a0 : TGraph) : Option ((List TEdge)) := evFn Tryz.prog sg K 67 [.agg [.list sNode a0.1 false, .list sEdge a0.2 false]] []
noncomputable def F.pleachref26_edges.B (a0 : TGraph) : Option ((List TEdge)) :=
    (guardK (decide (0 + a0.2.length ≤ nmax)) (some ([] ++ a0.2)))
theorem F.pleachref26_edges.eq K a0 : F.pleachref26_edges (K + 1) a0 = F.pleachref26_edges.B a0 := by kernel_rfl
noncomputable def V.pleachref26_edges (a0 : TGraph) := lim fun v => F.pleachref26_edges (v 0) a0
theorem V.pleachref26_edges.of a0 {r} (h : F.pleachref26_edges.B a0 = some r) : V.pleachref26_edges a0 = some r :=
  App.to (App.step 0 (fun v => F.pleachref26_edges.eq (v 0) a0) (by unfold F.pleachref26_edges.B; repeat' first | exact App.val | exact App.no | exact App.lim | apply App.cond | apply App.guard | apply App.meet | apply App.ite | refine App.bind ?_ fun _ => ?_)) h
noncomputable def F.pleachref26_whole (K : Nat) (a0 : TGraph) (a1 : TOp) : Option (TGraph × Int) := evFn Tryz.prog sg K 66 [.agg [.list sNode a0.1 false, .list sEdge a0.2 false], .agg [.val (.int .i64 a1.1), .val (.string a1.2.1), .val (.string a1.2.2.1), .val (.string a1.2.2.2.1), .val (.string a1.2.2.2.2.1), .val (.int .i64 a1.2.2.2.2.2.1), .val (.int .i64 a1.2.2.2.2.2.2.1), .val (.string a1.2.2.2.2.2.2.2)]] []
noncomputable def F.pleachref26_whole.B (c0 : (TGraph) → (ByteArray) → Option (Int)) (c1 : (TGraph) → (ByteArray) → Option (Int)) (c2 : (TGraph) → (TNode) → Option (TGraph)) (c3 : (TGraph) → (ByteArray) → Option ((List TEdge))) (c4 : (TGraph) → (ByteArray) → Option ((List TEdge))) (c5 : (TGraph) → Option ((List TNode))) (c6 : (TGraph) → (TEdge) → Option (TGraph)) (c7 : (TGraph) → Option ((List TEdge))) (a0 : TGraph) (a1 : TOp) : Option (TGraph × Int) :=
    ((c0 (a0.1, a0.2) a1.2.1).bind fun t0 => ((c1 (a0.1, a0.2) a1.2.1).bind fun t1 => (bif (a1.1 == 1) then (bif (decide (t0 ≥ 0)) then (some ((a0.1, a0.2), 10)) else (bif (decide ((a0.1.length : Int) ≥ 500)) then (some ((a0.1, a0.2), 5)) else ((c2 (a0.1, a0.2) (a1.2.1, [], [])).bind fun t2 => (some ((t2.1, t2.2), 0))))) else (bif (a1.1 == 2) then (bif (decide (t0 < 0)) then (some ((a0.1, a0.2), 9)) else ((c3 (a0.1, a0.2) a1.2.1).bind fun t3 => ((c4 (a0.1, a0.2) a1.2.1).bind fun t4 => (bif (decide ((w64 ((t3.length : Int) + (t4.length : Int))) > 0)) then (some ((a0.1, a0.2), 11)) else ((c5 (a0.1, a0.2)).bind fun t5 => (guardK (decide (0 ≤ t0) && decide (t0 ≤ (t5.length : Int))) (guardK (decide (0 ≤ (w64 (t0 + 1))) && decide ((w64 (t0 + 1)) ≤ (t5.length : Int)) && decide ((t5.length : Int) ≤ (t5.length : Int))) (guardK (decide ((t0.toNat + ((t5.take ((t5.length : Int).toNat)).drop ((w64 (t0 + 1)).toNat)).length) ≤ t5.length)) (some (((((t5.take t0.toNat ++ ((t5.take ((t5.length : Int).toNat)).drop ((w64 (t0 + 1)).toNat)) ++ t5.drop (t0.toNat + ((t5.take ((t5.length : Int).toNat)).drop ((w64 (t0 + 1)).toNat)).length)).take (t0.toNat + ((t5.take ((t5.length : Int).toNat)).drop ((w64 (t0 + 1)).toNat)).length)).drop 0), a0.2), 0)))))))))) else (bif (a1.1 == 3) then (bif (decide (t1 ≥ 0)) then (some ((a0.1, a0.2), 10)) else ((c0 (a0.1, a0.2) a1.2.2.1).bind fun t6 => (bif (decide (t6 < 0)) then (some ((a0.1, a0.2), 9)) else ((c0 (a0.1, a0.2) a1.2.2.2.1).bind fun t7 => (bif (decide (t7 < 0)) then (some ((a0.1, a0.2), 9)) else (bif (decide ((a0.2.length : Int) ≥ 1000)) then (some ((a0.1, a0.2), 5)) else ((c6 (a0.1, a0.2) (a1.2.1, a1.2.2.1, a1.2.2.2.1, [], [])).bind fun t8 => (some ((t8.1, t8.2), 0))))))))) else (bif (decide (t1 < 0)) then (some ((a0.1, a0.2), 9)) else ((c7 (a0.1, a0.2)).bind fun t9 => (guardK (decide (0 ≤ t1) && decide (t1 ≤ (t9.length : Int))) (guardK (decide (0 ≤ (w64 (t1 + 1))) && decide ((w64 (t1 + 1)) ≤ (t9.length : Int)) && decide ((t9.length : Int) ≤ (t9.length : Int))) (guardK (decide ((t1.toNat + ((t9.take ((t9.length : Int).toNat)).drop ((w64 (t1 + 1)).toNat)).length) ≤ t9.length)) (some ((a0.1, (((t9.take t1.toNat ++ ((t9.take ((t9.length : Int).toNat)).drop ((w64 (t1 + 1)).toNat)) ++ t9.drop (t1.toNat + ((t9.take ((t9.length : Int).toNat)).drop ((w64 (t1 + 1)).toNat)).length)).take (t1.toNat + ((t9.take ((t9.length : Int).toNat)).drop ((w64 (t1 + 1)).toNat)).length)).drop 0)), 0))))))))))))
theorem F.pleachref26_whole.eq K a0 a1 : F.pleachref26_whole (K + 1) a0 a1 = F.pleachref26_whole.B (F.pleachref26_NodeAt K) (F.pleachref26_EdgeAt K) (F.pleachref26_addNode K) (F.pleachref26_Out K) (F.pleachref26_In K) (F.pleachref26_nodes K) (F.pleachref26_addEdge K) (F.pleachref26_edges K) a0 a1 := by kernel_rfl
noncomputable def V.pleachref26_whole (a0 : TGraph) (a1 : TOp) := lim fun v => F.pleachref26_whole (v 0) a0 a1
theorem V.pleachref26_whole.of a0 a1 {r} (h : F.pleachref26_whole.B V.pleachref26_NodeAt V.pleachref26_EdgeAt V.pleachref26_addNode V.pleachref26_Out V.pleachref26_In V.pleachref26_nodes V.pleachref26_addEdge V.pleachref26_edges a0 a1 = some r) : V.pleachref26_whole a0 a1 = some r :=
  App.to (App.step 0 (fun v => F.pleachref26_whole.eq (v 0) a0 a1) (by unfold F.pleachref26_whole.B; repeat' first | exact App.val | exact App.no | exact App.lim | apply App.cond | apply App.guard | apply App.meet | apply App.ite | refine App.bind ?_ fun _ => ?_)) h
noncomputable def F.pleachref05_Less (K : Nat) (a0 : List ByteArray) (a1 : ByteArray) : Option (Int) := evFn Tryz.prog sg K 162 [.sc (.list .str a0 false), .sc (.val (.string a1))] []
noncomputable def F.pleachref05_Less.at (K : Nat) (p ns : List Nat) (s : St) : Option (Int) := atFn Tryz.prog sg K 162 0 p ns s
noncomputable def F.pleachref05_Less.in (K : Nat) (H : List Nat → List Nat → St → Option (Int)) (p ns : List Nat) (s : St) : Option (Int) := inFn Tryz.prog sg K 162 0 [] H p ns s
theorem F.pleachref05_Less.in_eq K p ns s : F.pleachref05_Less.at K p ns s = F.pleachref05_Less.in K (F.pleachref05_Less.at K) p ns s := atFn_eq (P := Tryz.prog) (sg := sg) (K := K) (f := 162) (m := 0) [] p ns s
theorem F.pleachref05_Less.in_main K a0 a1 : F.pleachref05_Less (K + 1) a0 a1 = F.pleachref05_Less.in K (F.pleachref05_Less.at K) [] [] ⟨slots [.sc (.list .str a0 false), .sc (.val (.string a1))] 0, []⟩ := evFn_eq (P := Tryz.prog) (sg := sg) (K := K) (f := 162) (args := [.sc (.list .str a0 false), .sc (.val (.string a1))]) (σ := []) [] (by kernel_rfl)
def F.pleachref05_Less.l11010.st (a0 : List ByteArray) (a1 : ByteArray) (x0 : Int) (x1 : Int) : St := ⟨[(0, vL .str a0), (1, vS a1), (5, vI x0), (6, vI x1)], []⟩
noncomputable def F.pleachref05_Less.l11010 (K n0 : Nat) (a0 : List ByteArray) (a1 : ByteArray) (x0 : Int) (x1 : Int) := F.pleachref05_Less.at K [1, 1, 0, 1, 0] [n0] (F.pleachref05_Less.l11010.st a0 a1 x0 x1)
noncomputable def F.pleachref05_Less.l11010.B (c0 : (List ByteArray) → (ByteArray) → (Int) → (Int) → Option (Int)) (a0 : List ByteArray) (a1 : ByteArray) (x0 : Int) (x1 : Int) : Option (Int) :=
    (bif (decide (x1 < (a0.length : Int))) then (guardK (decide (0 ≤ x1) && decide (x1 < (a0.length : Int))) (bif (strLt (rd .str a0 x1.toNat) a1) then (c0 a0 a1 (w64 (x0 + 1)) (w64 (x1 + 1))) else (c0 a0 a1 x0 (w64 (x1 + 1))))) else (some x0))
theorem F.pleachref05_Less.l11010.eq K n0 a0 a1 x0 x1 : F.pleachref05_Less.l11010 K (n0 + 1) a0 a1 x0 x1 = F.pleachref05_Less.l11010.B (F.pleachref05_Less.l11010 K n0) a0 a1 x0 x1 := (F.pleachref05_Less.in_eq K [1, 1, 0, 1, 0] [n0 + 1] (F.pleachref05_Less.l11010.st a0 a1 x0 x1)).trans ((show ∀ H, F.pleachref05_Less.in K H [1, 1, 0, 1, 0] [n0 + 1] (F.pleachref05_Less.l11010.st a0 a1 x0 x1) = F.pleachref05_Less.l11010.B (fun a0 a1 x0 x1 => H [1, 1, 0, 1, 0] [n0] (F.pleachref05_Less.l11010.st a0 a1 x0 x1)) a0 a1 x0 x1 from by intro H; kernel_rfl) (F.pleachref05_Less.at K))
noncomputable def F.pleachref05_Less.B (c0 : (List ByteArray) → (ByteArray) → (Int) → (Int) → Option (Int)) (a0 : List ByteArray) (a1 : ByteArray) : Option (Int) :=
    (c0 a0 a1 0 0)
theorem F.pleachref05_Less.eq K a0 a1 : F.pleachref05_Less (K + 1) a0 a1 = F.pleachref05_Less.B (F.pleachref05_Less.l11010 K K) a0 a1 := (F.pleachref05_Less.in_main K a0 a1).trans ((show ∀ H, F.pleachref05_Less.in K H [] [] ⟨slots [.sc (.list .str a0 false), .sc (.val (.string a1))] 0, []⟩ = F.pleachref05_Less.B (fun a0 a1 x0 x1 => H [1, 1, 0, 1, 0] [K] (F.pleachref05_Less.l11010.st a0 a1 x0 x1)) a0 a1 from by intro H; kernel_rfl) (F.pleachref05_Less.at K))
noncomputable def V.pleachref05_Less.l11010 (a0 : List ByteArray) (a1 : ByteArray) (x0 : Int) (x1 : Int) := lim fun v => F.pleachref05_Less.l11010 (v 0) (v 1) a0 a1 x0 x1
noncomputable def V.pleachref05_Less (a0 : List ByteArray) (a1 : ByteArray) := lim fun v => F.pleachref05_Less (v 0) a0 a1
theorem V.pleachref05_Less.l11010.of a0 a1 x0 x1 {r} (h : F.pleachref05_Less.l11010.B V.pleachref05_Less.l11010 a0 a1 x0 x1 = some r) : V.pleachref05_Less.l11010 a0 a1 x0 x1 = some r :=
  App.to (App.step 1 (fun v => F.pleachref05_Less.l11010.eq (v 0) (v 1) a0 a1 x0 x1) (by unfold F.pleachref05_Less.l11010.B; repeat' first | exact App.val | exact App.no | exact App.lim | apply App.cond | apply App.guard | apply App.meet | apply App.ite | refine App.bind ?_ fun _ => ?_)) h
theorem V.pleachref05_Less.of a0 a1 {r} (h : F.pleachref05_Less.B V.pleachref05_Less.l11010 a0 a1 = some r) : V.pleachref05_Less a0 a1 = some r :=
  App.to (App.step 0 (fun v => F.pleachref05_Less.eq (v 0) a0 a1) (by unfold F.pleachref05_Less.B; repeat' first | exact App.val | exact App.no | exact App.lim | exact (App.enter 1 App.lim) | apply App.cond | apply App.guard | apply App.meet | apply App.ite | refine App.bind ?_ fun _ => ?_)) h
noncomputable def F.pleachref05_With (K : Nat) (a0 : List ByteArray) (a1 : ByteArray) : Option ((List ByteArray)) := evFn Tryz.prog sg K 136 [.sc (.list .str a0 false), .sc (.val (.string a1))] []
noncomputable def F.pleachref05_With.B (c0 : (List ByteArray) → (ByteArray) → Option (Bool)) (c1 : (List ByteArray) → (ByteArray) → Option (Int)) (a0 : List ByteArray) (a1 : ByteArray) : Option ((List ByteArray)) :=
    ((c0 a0 a1).bind fun t0 => (bif t0 then (some a0) else ((c1 a0 a1).bind fun t1 => (guardK (decide (0 ≤ t1) && decide (t1 ≤ (a0.length : Int))) (guardK (decide (0 ≤ t1) && decide (t1 ≤ (a0.length : Int)) && decide ((a0.length : Int) ≤ (a0.length : Int))) (meet (meet (guardK (decide (0 + ((a0.take t1.toNat).drop 0).length ≤ nmax)) (guardK (decide (([] ++ ((a0.take t1.toNat).drop 0)).length + ([a1]).length ≤ nmax)) (guardK (decide ((([] ++ ((a0.take t1.toNat).drop 0)) ++ [a1]).length + ((a0.take ((a0.length : Int).toNat)).drop t1.toNat).length ≤ nmax)) (some ((([] ++ ((a0.take t1.toNat).drop 0)) ++ [a1]) ++ ((a0.take ((a0.length : Int).toNat)).drop t1.toNat)))))) (guardK (decide (0 + ((a0.take t1.toNat).drop 0).length ≤ nmax)) (guardK (decide (([] ++ ((a0.take t1.toNat).drop 0)).length + ([a1]).length ≤ nmax)) (guardK (decide ((([] ++ ((a0.take t1.toNat).drop 0)) ++ [a1]).length + ((a0.take ((a0.length : Int).toNat)).drop t1.toNat).length ≤ nmax)) (some ((([] ++ ((a0.take t1.toNat).drop 0)) ++ [a1]) ++ ((a0.take ((a0.length : Int).toNat)).drop t1.toNat))))))) (guardK (decide (0 + ((a0.take t1.toNat).drop 0).length ≤ nmax)) (guardK (decide (([] ++ ((a0.take t1.toNat).drop 0)).length + ([a1]).length ≤ nmax)) (guardK (decide ((([] ++ ((a0.take t1.toNat).drop 0)) ++ [a1]).length + ((a0.take ((a0.length : Int).toNat)).drop t1.toNat).length ≤ nmax)) (some ((([] ++ ((a0.take t1.toNat).drop 0)) ++ [a1]) ++ ((a0.take ((a0.length : Int).toNat)).drop t1.toNat))))))))))))
theorem F.pleachref05_With.eq K a0 a1 : F.pleachref05_With (K + 1) a0 a1 = F.pleachref05_With.B (F.pleachref05_In K) (F.pleachref05_Less K) a0 a1 := by kernel_rfl
noncomputable def V.pleachref05_With (a0 : List ByteArray) (a1 : ByteArray) := lim fun v => F.pleachref05_With (v 0) a0 a1
theorem V.pleachref05_With.of a0 a1 {r} (h : F.pleachref05_With.B V.pleachref05_In V.pleachref05_Less a0 a1 = some r) : V.pleachref05_With a0 a1 = some r :=
  App.to (App.step 0 (fun v => F.pleachref05_With.eq (v 0) a0 a1) (by unfold F.pleachref05_With.B; repeat' first | exact App.val | exact App.no | exact App.lim | apply App.cond | apply App.guard | apply App.meet | apply App.ite | refine App.bind ?_ fun _ => ?_)) h
noncomputable def F.pleachref25_Label (K : Nat) (a0 : List ByteArray) (a1 : ByteArray) : Option ((List ByteArray) × Int) := evFn Tryz.prog sg K 101 [.sc (.list .str a0 false), .sc (.val (.string a1))] []
noncomputable def F.pleachref25_Label.B (c0 : (ByteArray) → Option (Bool)) (c1 : (List ByteArray) → (ByteArray) → Option (Bool)) (c2 : (List ByteArray) → (ByteArray) → Option ((List ByteArray))) (a0 : List ByteArray) (a1 : ByteArray) : Option ((List ByteArray) × Int) :=
    ((c0 a1).bind fun t0 => (bif (!t0) then (some ([], 2)) else ((c1 a0 a1).bind fun t1 => (bif t1 then (some ([], 10)) else (bif (decide ((a0.length : Int) ≥ 8)) then (some ([], 5)) else ((c2 a0 a1).bind fun t2 => (some (t2, 0))))))))
theorem F.pleachref25_Label.eq K a0 a1 : F.pleachref25_Label (K + 1) a0 a1 = F.pleachref25_Label.B (F.pleachref05_Is K) (F.pleachref05_In K) (F.pleachref05_With K) a0 a1 := by kernel_rfl
noncomputable def V.pleachref25_Label (a0 : List ByteArray) (a1 : ByteArray) := lim fun v => F.pleachref25_Label (v 0) a0 a1
theorem V.pleachref25_Label.of a0 a1 {r} (h : F.pleachref25_Label.B V.pleachref05_Is V.pleachref05_In V.pleachref05_With a0 a1 = some r) : V.pleachref25_Label a0 a1 = some r :=
  App.to (App.step 0 (fun v => F.pleachref25_Label.eq (v 0) a0 a1) (by unfold F.pleachref25_Label.B; repeat' first | exact App.val | exact App.no | exact App.lim | apply App.cond | apply App.guard | apply App.meet | apply App.ite | refine App.bind ?_ fun _ => ?_)) h
noncomputable def F.pleachref05_Only (K : Nat) (a0 : List ByteArray) (a1 : List ByteArray) : Option ((List ByteArray)) := evFn Tryz.prog sg K 137 [.sc (.list .str a0 false), .sc (.list .str a1 false)] []
noncomputable def F.pleachref05_Only.at (K : Nat) (p ns : List Nat) (s : St) : Option ((List ByteArray)) := atFn Tryz.prog sg K 137 0 p ns s
noncomputable def F.pleachref05_Only.in (K : Nat) (H : List Nat → List Nat → St → Option ((List ByteArray))) (p ns : List Nat) (s : St) : Option ((List ByteArray)) := inFn Tryz.prog sg K 137 0 [] H p ns s
theorem F.pleachref05_Only.in_eq K p ns s : F.pleachref05_Only.at K p ns s = F.pleachref05_Only.in K (F.pleachref05_Only.at K) p ns s := atFn_eq (P := Tryz.prog) (sg := sg) (K := K) (f := 137) (m := 0) [] p ns s
theorem F.pleachref05_Only.in_main K a0 a1 : F.pleachref05_Only (K + 1) a0 a1 = F.pleachref05_Only.in K (F.pleachref05_Only.at K) [] [] ⟨slots [.sc (.list .str a0 false), .sc (.list .str a1 false)] 0, []⟩ := evFn_eq (P := Tryz.prog) (sg := sg) (K := K) (f := 137) (args := [.sc (.list .str a0 false), .sc (.list .str a1 false)]) (σ := []) [] (by kernel_rfl)
def F.pleachref05_Only.l11010.st (a0 : List ByteArray) (a1 : List ByteArray) (x0 : Int) (x1 : List ByteArray) : St := ⟨[(0, vL .str a0), (1, vL .str a1), (5, .one (.sc (.own 0 none))), (6, vI x0)], [.elems .str x1]⟩
noncomputable def F.pleachref05_Only.l11010 (K n0 : Nat) (a0 : List ByteArray) (a1 : List ByteArray) (x0 : Int) (x1 : List ByteArray) := F.pleachref05_Only.at K [1, 1, 0, 1, 0] [n0] (F.pleachref05_Only.l11010.st a0 a1 x0 x1)
noncomputable def F.pleachref05_Only.l11010.B (c0 : (List ByteArray) → (ByteArray) → Option (Bool)) (c1 : (List ByteArray) → (List ByteArray) → (Int) → (List ByteArray) → Option ((List ByteArray))) (a0 : List ByteArray) (a1 : List ByteArray) (x0 : Int) (x1 : List ByteArray) : Option ((List ByteArray)) :=
    (bif (decide (x0 < (a0.length : Int))) then (guardK (decide (0 ≤ x0) && decide (x0 < (a0.length : Int))) ((c0 a1 (rd .str a0 x0.toNat)).bind fun t0 => (bif (!t0) then (guardK (decide (0 ≤ x0) && decide (x0 < (a0.length : Int))) (guardK (decide (x1.length + ([(rd .str a0 x0.toNat)]).length ≤ nmax)) (c1 a0 a1 (w64 (x0 + 1)) (x1 ++ [(rd .str a0 x0.toNat)])))) else (c1 a0 a1 (w64 (x0 + 1)) x1)))) else (some x1))
theorem F.pleachref05_Only.l11010.eq K n0 a0 a1 x0 x1 : F.pleachref05_Only.l11010 K (n0 + 1) a0 a1 x0 x1 = F.pleachref05_Only.l11010.B (F.pleachref05_In K) (F.pleachref05_Only.l11010 K n0) a0 a1 x0 x1 := (F.pleachref05_Only.in_eq K [1, 1, 0, 1, 0] [n0 + 1] (F.pleachref05_Only.l11010.st a0 a1 x0 x1)).trans ((show ∀ H, F.pleachref05_Only.in K H [1, 1, 0, 1, 0] [n0 + 1] (F.pleachref05_Only.l11010.st a0 a1 x0 x1) = F.pleachref05_Only.l11010.B (F.pleachref05_In K) (fun a0 a1 x0 x1 => H [1, 1, 0, 1, 0] [n0] (F.pleachref05_Only.l11010.st a0 a1 x0 x1)) a0 a1 x0 x1 from by intro H; kernel_rfl) (F.pleachref05_Only.at K))
noncomputable def F.pleachref05_Only.B (c0 : (List ByteArray) → (List ByteArray) → (Int) → (List ByteArray) → Option ((List ByteArray))) (a0 : List ByteArray) (a1 : List ByteArray) : Option ((List ByteArray)) :=
    (c0 a0 a1 0 ([]))
theorem F.pleachref05_Only.eq K a0 a1 : F.pleachref05_Only (K + 1) a0 a1 = F.pleachref05_Only.B (F.pleachref05_Only.l11010 K K) a0 a1 := (F.pleachref05_Only.in_main K a0 a1).trans ((show ∀ H, F.pleachref05_Only.in K H [] [] ⟨slots [.sc (.list .str a0 false), .sc (.list .str a1 false)] 0, []⟩ = F.pleachref05_Only.B (fun a0 a1 x0 x1 => H [1, 1, 0, 1, 0] [K] (F.pleachref05_Only.l11010.st a0 a1 x0 x1)) a0 a1 from by intro H; kernel_rfl) (F.pleachref05_Only.at K))
noncomputable def V.pleachref05_Only.l11010 (a0 : List ByteArray) (a1 : List ByteArray) (x0 : Int) (x1 : List ByteArray) := lim fun v => F.pleachref05_Only.l11010 (v 0) (v 1) a0 a1 x0 x1
noncomputable def V.pleachref05_Only (a0 : List ByteArray) (a1 : List ByteArray) := lim fun v => F.pleachref05_Only (v 0) a0 a1
theorem V.pleachref05_Only.l11010.of a0 a1 x0 x1 {r} (h : F.pleachref05_Only.l11010.B V.pleachref05_In V.pleachref05_Only.l11010 a0 a1 x0 x1 = some r) : V.pleachref05_Only.l11010 a0 a1 x0 x1 = some r :=
  App.to (App.step 1 (fun v => F.pleachref05_Only.l11010.eq (v 0) (v 1) a0 a1 x0 x1) (by unfold F.pleachref05_Only.l11010.B; repeat' first | exact App.val | exact App.no | exact App.lim | apply App.cond | apply App.guard | apply App.meet | apply App.ite | refine App.bind ?_ fun _ => ?_)) h
theorem V.pleachref05_Only.of a0 a1 {r} (h : F.pleachref05_Only.B V.pleachref05_Only.l11010 a0 a1 = some r) : V.pleachref05_Only a0 a1 = some r :=
  App.to (App.step 0 (fun v => F.pleachref05_Only.eq (v 0) a0 a1) (by unfold F.pleachref05_Only.B; repeat' first | exact App.val | exact App.no | exact App.lim | exact (App.enter 1 App.lim) | apply App.cond | apply App.guard | apply App.meet | apply App.ite | refine App.bind ?_ fun _ => ?_)) h
noncomputable def F.pleachref25_Unlabel (K : Nat) (a0 : List ByteArray) (a1 : ByteArray) : Option ((List ByteArray) × Int) := evFn Tryz.prog sg K 102 [.sc (.list .str a0 false), .sc (.val (.string a1))] []
noncomputable def F.pleachref25_Unlabel.B (c0 : (List ByteArray) → (ByteArray) → Option (Bool)) (c1 : (List ByteArray) → (List ByteArray) → Option ((List ByteArray))) (a0 : List ByteArray) (a1 : ByteArray) : Option ((List ByteArray) × Int) :=
    ((c0 a0 a1).bind fun t0 => (bif (!t0) then (some ([], 9)) else ((c1 a0 ([a1])).bind fun t1 => (some (t1, 0)))))
theorem F.pleachref25_Unlabel.eq K a0 a1 : F.pleachref25_Unlabel (K + 1) a0 a1 = F.pleachref25_Unlabel.B (F.pleachref05_In K) (F.pleachref05_Only K) a0 a1 := by kernel_rfl
noncomputable def V.pleachref25_Unlabel (a0 : List ByteArray) (a1 : ByteArray) := lim fun v => F.pleachref25_Unlabel (v 0) a0 a1
theorem V.pleachref25_Unlabel.of a0 a1 {r} (h : F.pleachref25_Unlabel.B V.pleachref05_In V.pleachref05_Only a0 a1 = some r) : V.pleachref25_Unlabel a0 a1 = some r :=
  App.to (App.step 0 (fun v => F.pleachref25_Unlabel.eq (v 0) a0 a1) (by unfold F.pleachref25_Unlabel.B; repeat' first | exact App.val | exact App.no | exact App.lim | apply App.cond | apply App.guard | apply App.meet | apply App.ite | refine App.bind ?_ fun _ => ?_)) h
noncomputable def F.pleachref25_at (K : Nat) (a0 : List TProp) (a1 : ByteArray) : Option (Int) := evFn Tryz.prog sg K 138 [.sc (.list sProp a0 false), .sc (.val (.string a1))] []
noncomputable def F.pleachref25_at.at (K : Nat) (p ns : List Nat) (s : St) : Option (Int) := atFn Tryz.prog sg K 138 0 p ns s
noncomputable def F.pleachref25_at.in (K : Nat) (H : List Nat → List Nat → St → Option (Int)) (p ns : List Nat) (s : St) : Option (Int) := inFn Tryz.prog sg K 138 0 [] H p ns s
theorem F.pleachref25_at.in_eq K p ns s : F.pleachref25_at.at K p ns s = F.pleachref25_at.in K (F.pleachref25_at.at K) p ns s := atFn_eq (P := Tryz.prog) (sg := sg) (K := K) (f := 138) (m := 0) [] p ns s
theorem F.pleachref25_at.in_main K a0 a1 : F.pleachref25_at (K + 1) a0 a1 = F.pleachref25_at.in K (F.pleachref25_at.at K) [] [] ⟨slots [.sc (.list sProp a0 false), .sc (.val (.string a1))] 0, []⟩ := evFn_eq (P := Tryz.prog) (sg := sg) (K := K) (f := 138) (args := [.sc (.list sProp a0 false), .sc (.val (.string a1))]) (σ := []) [] (by kernel_rfl)
def F.pleachref25_at.l1010.st (a0 : List TProp) (a1 : ByteArray) (x0 : Int) : St := ⟨[(0, vL sProp a0), (1, vS a1), (5, vI x0)], []⟩
noncomputable def F.pleachref25_at.l1010 (K n0 : Nat) (a0 : List TProp) (a1 : ByteArray) (x0 : Int) := F.pleachref25_at.at K [1, 0, 1, 0] [n0] (F.pleachref25_at.l1010.st a0 a1 x0)
noncomputable def F.pleachref25_at.l1010.B (c0 : (List TProp) → (ByteArray) → (Int) → Option (Int)) (a0 : List TProp) (a1 : ByteArray) (x0 : Int) : Option (Int) :=
    (bif (decide (x0 < (a0.length : Int))) then (guardK (decide (0 ≤ x0) && decide (x0 < (a0.length : Int))) (bif (strEq ((rd sProp a0 x0.toNat).1) a1) then (some x0) else (c0 a0 a1 (w64 (x0 + 1))))) else (some (-1)))
theorem F.pleachref25_at.l1010.eq K n0 a0 a1 x0 : F.pleachref25_at.l1010 K (n0 + 1) a0 a1 x0 = F.pleachref25_at.l1010.B (F.pleachref25_at.l1010 K n0) a0 a1 x0 := (F.pleachref25_at.in_eq K [1, 0, 1, 0] [n0 + 1] (F.pleachref25_at.l1010.st a0 a1 x0)).trans ((show ∀ H, F.pleachref25_at.in K H [1, 0, 1, 0] [n0 + 1] (F.pleachref25_at.l1010.st a0 a1 x0) = F.pleachref25_at.l1010.B (fun a0 a1 x0 => H [1, 0, 1, 0] [n0] (F.pleachref25_at.l1010.st a0 a1 x0)) a0 a1 x0 from by intro H; kernel_rfl) (F.pleachref25_at.at K))
noncomputable def F.pleachref25_at.B (c0 : (List TProp) → (ByteArray) → (Int) → Option (Int)) (a0 : List TProp) (a1 : ByteArray) : Option (Int) :=
    (c0 a0 a1 0)
theorem F.pleachref25_at.eq K a0 a1 : F.pleachref25_at (K + 1) a0 a1 = F.pleachref25_at.B (F.pleachref25_at.l1010 K K) a0 a1 := (F.pleachref25_at.in_main K a0 a1).trans ((show ∀ H, F.pleachref25_at.in K H [] [] ⟨slots [.sc (.list sProp a0 false), .sc (.val (.string a1))] 0, []⟩ = F.pleachref25_at.B (fun a0 a1 x0 => H [1, 0, 1, 0] [K] (F.pleachref25_at.l1010.st a0 a1 x0)) a0 a1 from by intro H; kernel_rfl) (F.pleachref25_at.at K))
noncomputable def V.pleachref25_at.l1010 (a0 : List TProp) (a1 : ByteArray) (x0 : Int) := lim fun v => F.pleachref25_at.l1010 (v 0) (v 1) a0 a1 x0
noncomputable def V.pleachref25_at (a0 : List TProp) (a1 : ByteArray) := lim fun v => F.pleachref25_at (v 0) a0 a1
theorem V.pleachref25_at.l1010.of a0 a1 x0 {r} (h : F.pleachref25_at.l1010.B V.pleachref25_at.l1010 a0 a1 x0 = some r) : V.pleachref25_at.l1010 a0 a1 x0 = some r :=
  App.to (App.step 1 (fun v => F.pleachref25_at.l1010.eq (v 0) (v 1) a0 a1 x0) (by unfold F.pleachref25_at.l1010.B; repeat' first | exact App.val | exact App.no | exact App.lim | apply App.cond | apply App.guard | apply App.meet | apply App.ite | refine App.bind ?_ fun _ => ?_)) h
theorem V.pleachref25_at.of a0 a1 {r} (h : F.pleachref25_at.B V.pleachref25_at.l1010 a0 a1 = some r) : V.pleachref25_at a0 a1 = some r :=
  App.to (App.step 0 (fun v => F.pleachref25_at.eq (v 0) a0 a1) (by unfold F.pleachref25_at.B; repeat' first | exact App.val | exact App.no | exact App.lim | exact (App.enter 1 App.lim) | apply App.cond | apply App.guard | apply App.meet | apply App.ite | refine App.bind ?_ fun _ => ?_)) h
noncomputable def F.pleachref25_Set (K : Nat) (a0 : List TProp) (a1 : ByteArray) (a2 : TValue) : Option ((List TProp) × Int) := evFn Tryz.prog sg K 103 [.sc (.list sProp a0 false), .sc (.val (.string a1)), .agg [.val (.int .i64 a2.1), .val (.int .i64 a2.2.1), .val (.string a2.2.2)]] []
noncomputable def F.pleachref25_Set.at (K : Nat) (p ns : List Nat) (s : St) : Option ((List TProp) × Int) := atFn Tryz.prog sg K 103 0 p ns s
noncomputable def F.pleachref25_Set.in (K : Nat) (H : List Nat → List Nat → St → Option ((List TProp) × Int)) (p ns : List Nat) (s : St) : Option ((List TProp) × Int) := inFn Tryz.prog sg K 103 0 [] H p ns s
theorem F.pleachref25_Set.in_eq K p ns s : F.pleachref25_Set.at K p ns s = F.pleachref25_Set.in K (F.pleachref25_Set.at K) p ns s := atFn_eq (P := Tryz.prog) (sg := sg) (K := K) (f := 103) (m := 0) [] p ns s
theorem F.pleachref25_Set.in_main K a0 a1 a2 : F.pleachref25_Set (K + 1) a0 a1 a2 = F.pleachref25_Set.in K (F.pleachref25_Set.at K) [] [] ⟨slots [.sc (.list sProp a0 false), .sc (.val (.string a1)), .agg [.val (.int .i64 a2.1), .val (.int .i64 a2.2.1), .val (.string a2.2.2)]] 0, []⟩ := evFn_eq (P := Tryz.prog) (sg := sg) (K := K) (f := 103) (args := [.sc (.list sProp a0 false), .sc (.val (.string a1)), .agg [.val (.int .i64 a2.1), .val (.int .i64 a2.2.1), .val (.string a2.2.2)]]) (σ := []) [] (by kernel_rfl)
def F.pleachref25_Set.l1111010.st (a0 : List TProp) (a1 : ByteArray) (a2 : TValue) (x0 : Int) (x1 : List TProp) : St := ⟨[(0, vL sProp a0), (1, vS a1), (5, .one (.sc (.ref 0 0))), (8, .one (.sc (.own 1 none))), (9, vI x0)], [.cells 65 [.val (.int .i64 a2.1), .val (.int .i64 a2.2.1), .val (.string a2.2.2)], .elems sProp x1]⟩
noncomputable def F.pleachref25_Set.l1111010 (K n0 : Nat) (a0 : List TProp) (a1 : ByteArray) (a2 : TValue) (x0 : Int) (x1 : List TProp) := F.pleachref25_Set.at K [1, 1, 1, 1, 0, 1, 0] [n0] (F.pleachref25_Set.l1111010.st a0 a1 a2 x0 x1)
def F.pleachref25_Set.l111111010.st (a0 : List TProp) (a1 : ByteArray) (a2 : TValue) (x0 : Int) (x1 : List TProp) : St := ⟨[(0, vL sProp a0), (1, vS a1), (8, .one (.sc (.own 0 none))), (10, vI x0)], [.elems sProp x1]⟩
noncomputable def F.pleachref25_Set.l111111010 (K n0 : Nat) (a0 : List TProp) (a1 : ByteArray) (a2 : TValue) (x0 : Int) (x1 : List TProp) := F.pleachref25_Set.at K [1, 1, 1, 1, 1, 1, 0, 1, 0] [n0] (F.pleachref25_Set.l111111010.st a0 a1 a2 x0 x1)
noncomputable def F.pleachref25_Set.l1111010.B (c0 : (List TProp) → (ByteArray) → (TValue) → (Int) → (List TProp) → Option ((List TProp) × Int)) (c1 : (List TProp) → (ByteArray) → (TValue) → (Int) → (List TProp) → Option ((List TProp) × Int)) (a0 : List TProp) (a1 : ByteArray) (a2 : TValue) (x0 : Int) (x1 : List TProp) : Option ((List TProp) × Int) :=
    (bif (decide (x0 < (a0.length : Int))) then (guardK (decide (0 ≤ x0) && decide (x0 < (a0.length : Int))) (bif (strLt ((rd sProp a0 x0.toNat).1) a1) then (guardK (decide (0 ≤ x0) && decide (x0 < (a0.length : Int))) (guardK (decide (x1.length + ([((rd sProp a0 x0.toNat).1, ((rd sProp a0 x0.toNat).2).1, (((rd sProp a0 x0.toNat).2).2).1, (((rd sProp a0 x0.toNat).2).2).2)]).length ≤ nmax)) (c0 a0 a1 a2 (w64 (x0 + 1)) (x1 ++ [((rd sProp a0 x0.toNat).1, ((rd sProp a0 x0.toNat).2).1, (((rd sProp a0 x0.toNat).2).2).1, (((rd sProp a0 x0.toNat).2).2).2)])))) else (c0 a0 a1 a2 (w64 (x0 + 1)) x1))) else (guardK (decide (x1.length + ([(a1, a2.1, a2.2.1, a2.2.2)]).length ≤ nmax)) (c1 a0 a1 a2 0 (x1 ++ [(a1, a2.1, a2.2.1, a2.2.2)]))))
theorem F.pleachref25_Set.l1111010.eq K n0 a0 a1 a2 x0 x1 : F.pleachref25_Set.l1111010 K (n0 + 1) a0 a1 a2 x0 x1 = F.pleachref25_Set.l1111010.B (F.pleachref25_Set.l1111010 K n0) (F.pleachref25_Set.l111111010 K K) a0 a1 a2 x0 x1 := (F.pleachref25_Set.in_eq K [1, 1, 1, 1, 0, 1, 0] [n0 + 1] (F.pleachref25_Set.l1111010.st a0 a1 a2 x0 x1)).trans ((show ∀ H, F.pleachref25_Set.in K H [1, 1, 1, 1, 0, 1, 0] [n0 + 1] (F.pleachref25_Set.l1111010.st a0 a1 a2 x0 x1) = F.pleachref25_Set.l1111010.B (fun a0 a1 a2 x0 x1 => H [1, 1, 1, 1, 0, 1, 0] [n0] (F.pleachref25_Set.l1111010.st a0 a1 a2 x0 x1)) (fun a0 a1 a2 x0 x1 => H [1, 1, 1, 1, 1, 1, 0, 1, 0] [K] (F.pleachref25_Set.l111111010.st a0 a1 a2 x0 x1)) a0 a1 a2 x0 x1 from by intro H; kernel_rfl) (F.pleachref25_Set.at K))
noncomputable def F.pleachref25_Set.l111111010.B (c0 : (List TProp) → (ByteArray) → (TValue) → (Int) → (List TProp) → Option ((List TProp) × Int)) (a0 : List TProp) (a1 : ByteArray) (a2 : TValue) (x0 : Int) (x1 : List TProp) : Option ((List TProp) × Int) :=
    (bif (decide (x0 < (a0.length : Int))) then (guardK (decide (0 ≤ x0) && decide (x0 < (a0.length : Int))) (bif (!(strLt ((rd sProp a0 x0.toNat).1) a1 || strEq ((rd sProp a0 x0.toNat).1) a1)) then (guardK (decide (0 ≤ x0) && decide (x0 < (a0.length : Int))) (guardK (decide (x1.length + ([((rd sProp a0 x0.toNat).1, ((rd sProp a0 x0.toNat).2).1, (((rd sProp a0 x0.toNat).2).2).1, (((rd sProp a0 x0.toNat).2).2).2)]).length ≤ nmax)) (c0 a0 a1 a2 (w64 (x0 + 1)) (x1 ++ [((rd sProp a0 x0.toNat).1, ((rd sProp a0 x0.toNat).2).1, (((rd sProp a0 x0.toNat).2).2).1, (((rd sProp a0 x0.toNat).2).2).2)])))) else (c0 a0 a1 a2 (w64 (x0 + 1)) x1))) else (some (x1, 0)))
theorem F.pleachref25_Set.l111111010.eq K n0 a0 a1 a2 x0 x1 : F.pleachref25_Set.l111111010 K (n0 + 1) a0 a1 a2 x0 x1 = F.pleachref25_Set.l111111010.B (F.pleachref25_Set.l111111010 K n0) a0 a1 a2 x0 x1 := (F.pleachref25_Set.in_eq K [1, 1, 1, 1, 1, 1, 0, 1, 0] [n0 + 1] (F.pleachref25_Set.l111111010.st a0 a1 a2 x0 x1)).trans ((show ∀ H, F.pleachref25_Set.in K H [1, 1, 1, 1, 1, 1, 0, 1, 0] [n0 + 1] (F.pleachref25_Set.l111111010.st a0 a1 a2 x0 x1) = F.pleachref25_Set.l111111010.B (fun a0 a1 a2 x0 x1 => H [1, 1, 1, 1, 1, 1, 0, 1, 0] [n0] (F.pleachref25_Set.l111111010.st a0 a1 a2 x0 x1)) a0 a1 a2 x0 x1 from by intro H; kernel_rfl) (F.pleachref25_Set.at K))
noncomputable def F.pleachref25_Set.B (c0 : (ByteArray) → Option (Bool)) (c1 : (TValue) → Option (Bool)) (c2 : (List TProp) → (ByteArray) → Option (Int)) (c3 : (List TProp) → (ByteArray) → (TValue) → (Int) → (List TProp) → Option ((List TProp) × Int)) (a0 : List TProp) (a1 : ByteArray) (a2 : TValue) : Option ((List TProp) × Int) :=
    ((c0 a1).bind fun t0 => (bif (!t0) then (some ([], 2)) else ((c1 (a2.1, a2.2.1, a2.2.2)).bind fun t1 => (bif (!t1) then (some ([], 2)) else ((c2 a0 a1).bind fun t2 => (bif (decide (t2 < 0)) then (bif (decide ((a0.length : Int) ≥ 8)) then (some ([], 5)) else (c3 a0 a1 a2 0 ([]))) else (c3 a0 a1 a2 0 ([]))))))))
theorem F.pleachref25_Set.eq K a0 a1 a2 : F.pleachref25_Set (K + 1) a0 a1 a2 = F.pleachref25_Set.B (F.pleachref05_Is K) (F.pleachref06_Is K) (F.pleachref25_at K) (F.pleachref25_Set.l1111010 K K) a0 a1 a2 := (F.pleachref25_Set.in_main K a0 a1 a2).trans ((show ∀ H, F.pleachref25_Set.in K H [] [] ⟨slots [.sc (.list sProp a0 false), .sc (.val (.string a1)), .agg [.val (.int .i64 a2.1), .val (.int .i64 a2.2.1), .val (.string a2.2.2)]] 0, []⟩ = F.pleachref25_Set.B (F.pleachref05_Is K) (F.pleachref06_Is K) (F.pleachref25_at K) (fun a0 a1 a2 x0 x1 => H [1, 1, 1, 1, 0, 1, 0] [K] (F.pleachref25_Set.l1111010.st a0 a1 a2 x0 x1)) a0 a1 a2 from by intro H; kernel_rfl) (F.pleachref25_Set.at K))
noncomputable def V.pleachref25_Set.l1111010 (a0 : List TProp) (a1 : ByteArray) (a2 : TValue) (x0 : Int) (x1 : List TProp) := lim fun v => F.pleachref25_Set.l1111010 (v 0) (v 1) a0 a1 a2 x0 x1
noncomputable def V.pleachref25_Set.l111111010 (a0 : List TProp) (a1 : ByteArray) (a2 : TValue) (x0 : Int) (x1 : List TProp) := lim fun v => F.pleachref25_Set.l111111010 (v 0) (v 1) a0 a1 a2 x0 x1
noncomputable def V.pleachref25_Set (a0 : List TProp) (a1 : ByteArray) (a2 : TValue) := lim fun v => F.pleachref25_Set (v 0) a0 a1 a2
theorem V.pleachref25_Set.l1111010.of a0 a1 a2 x0 x1 {r} (h : F.pleachref25_Set.l1111010.B V.pleachref25_Set.l1111010 V.pleachref25_Set.l111111010 a0 a1 a2 x0 x1 = some r) : V.pleachref25_Set.l1111010 a0 a1 a2 x0 x1 = some r :=
  App.to (App.step 1 (fun v => F.pleachref25_Set.l1111010.eq (v 0) (v 1) a0 a1 a2 x0 x1) (by unfold F.pleachref25_Set.l1111010.B; repeat' first | exact App.val | exact App.no | exact App.lim | exact (App.enter 1 App.lim) | apply App.cond | apply App.guard | apply App.meet | apply App.ite | refine App.bind ?_ fun _ => ?_)) h
theorem V.pleachref25_Set.l111111010.of a0 a1 a2 x0 x1 {r} (h : F.pleachref25_Set.l111111010.B V.pleachref25_Set.l111111010 a0 a1 a2 x0 x1 = some r) : V.pleachref25_Set.l111111010 a0 a1 a2 x0 x1 = some r :=
  App.to (App.step 1 (fun v => F.pleachref25_Set.l111111010.eq (v 0) (v 1) a0 a1 a2 x0 x1) (by unfold F.pleachref25_Set.l111111010.B; repeat' first | exact App.val | exact App.no | exact App.lim | apply App.cond | apply App.guard | apply App.meet | apply App.ite | refine App.bind ?_ fun _ => ?_)) h
theorem V.pleachref25_Set.of a0 a1 a2 {r} (h : F.pleachref25_Set.B V.pleachref05_Is V.pleachref06_Is V.pleachref25_at V.pleachref25_Set.l1111010 a0 a1 a2 = some r) : V.pleachref25_Set a0 a1 a2 = some r :=
  App.to (App.step 0 (fun v => F.pleachref25_Set.eq (v 0) a0 a1 a2) (by unfold F.pleachref25_Set.B; repeat' first | exact App.val | exact App.no | exact App.lim | exact (App.enter 1 App.lim) | apply App.cond | apply App.guard | apply App.meet | apply App.ite | refine App.bind ?_ fun _ => ?_)) h
noncomputable def F.pleachref25_Unset (K : Nat) (a0 : List TProp) (a1 : ByteArray) : Option ((List TProp) × Int) := evFn Tryz.prog sg K 104 [.sc (.list sProp a0 false), .sc (.val (.string a1))] []
noncomputable def F.pleachref25_Unset.B (c0 : (List TProp) → (ByteArray) → Option (Int)) (a0 : List TProp) (a1 : ByteArray) : Option ((List TProp) × Int) :=
    ((c0 a0 a1).bind fun t0 => (bif (decide (t0 < 0)) then (some ([], 9)) else (guardK (decide (0 ≤ t0) && decide (t0 ≤ (a0.length : Int))) (guardK (decide (0 ≤ (w64 (t0 + 1))) && decide ((w64 (t0 + 1)) ≤ (a0.length : Int)) && decide ((a0.length : Int) ≤ (a0.length : Int))) (guardK (decide (0 + ((a0.take t0.toNat).drop 0).length ≤ nmax)) (guardK (decide (([] ++ ((a0.take t0.toNat).drop 0)).length + ((a0.take ((a0.length : Int).toNat)).drop ((w64 (t0 + 1)).toNat)).length ≤ nmax)) (some ((([] ++ ((a0.take t0.toNat).drop 0)) ++ ((a0.take ((a0.length : Int).toNat)).drop ((w64 (t0 + 1)).toNat))), 0))))))))
theorem F.pleachref25_Unset.eq K a0 a1 : F.pleachref25_Unset (K + 1) a0 a1 = F.pleachref25_Unset.B (F.pleachref25_at K) a0 a1 := by kernel_rfl
noncomputable def V.pleachref25_Unset (a0 : List TProp) (a1 : ByteArray) := lim fun v => F.pleachref25_Unset (v 0) a0 a1
theorem V.pleachref25_Unset.of a0 a1 {r} (h : F.pleachref25_Unset.B V.pleachref25_at a0 a1 = some r) : V.pleachref25_Unset a0 a1 = some r :=
  App.to (App.step 0 (fun v => F.pleachref25_Unset.eq (v 0) a0 a1) (by unfold F.pleachref25_Unset.B; repeat' first | exact App.val | exact App.no | exact App.lim | apply App.cond | apply App.guard | apply App.meet | apply App.ite | refine App.bind ?_ fun _ => ?_)) h
noncomputable def F.pleachref26_Turn (K : Nat) (a0 : List ByteArray) (a1 : List TProp) (a2 : TOp) : Option ((List ByteArray) × (List TProp) × Int) := evFn Tryz.prog sg K 68 [.sc (.list .str a0 false), .sc (.list sProp a1 false), .agg [.val (.int .i64 a2.1), .val (.string a2.2.1), .val (.string a2.2.2.1), .val (.string a2.2.2.2.1), .val (.string a2.2.2.2.2.1), .val (.int .i64 a2.2.2.2.2.2.1), .val (.int .i64 a2.2.2.2.2.2.2.1), .val (.string a2.2.2.2.2.2.2.2)]] []
noncomputable def F.pleachref26_Turn.B (c0 : (List ByteArray) → (ByteArray) → Option ((List ByteArray) × Int)) (c1 : (List ByteArray) → (ByteArray) → Option ((List ByteArray) × Int)) (c2 : (List TProp) → (ByteArray) → (TValue) → Option ((List TProp) × Int)) (c3 : (List TProp) → (ByteArray) → Option ((List TProp) × Int)) (a0 : List ByteArray) (a1 : List TProp) (a2 : TOp) : Option ((List ByteArray) × (List TProp) × Int) :=
    (bif (a2.1 == 5) then ((c0 a0 a2.2.2.2.2.1).bind fun t0 => (bif (t0.2 != 0) then (some ([], [], t0.2)) else (some (t0.1, a1, 0)))) else (bif (a2.1 == 7) then ((c0 a0 a2.2.2.2.2.1).bind fun t1 => (bif (t1.2 != 0) then (some ([], [], t1.2)) else (some (t1.1, a1, 0)))) else (bif (a2.1 == 6) then ((c1 a0 a2.2.2.2.2.1).bind fun t2 => (bif (t2.2 != 0) then (some ([], [], t2.2)) else (some (t2.1, a1, 0)))) else (bif (a2.1 == 8) then ((c1 a0 a2.2.2.2.2.1).bind fun t3 => (bif (t3.2 != 0) then (some ([], [], t3.2)) else (some (t3.1, a1, 0)))) else (bif (a2.1 == 9) then ((c2 a1 a2.2.2.2.2.1 (a2.2.2.2.2.2.1, a2.2.2.2.2.2.2.1, a2.2.2.2.2.2.2.2)).bind fun t4 => (bif (t4.2 != 0) then (some ([], [], t4.2)) else (some (a0, t4.1, 0)))) else (bif (a2.1 == 11) then ((c2 a1 a2.2.2.2.2.1 (a2.2.2.2.2.2.1, a2.2.2.2.2.2.2.1, a2.2.2.2.2.2.2.2)).bind fun t5 => (bif (t5.2 != 0) then (some ([], [], t5.2)) else (some (a0, t5.1, 0)))) else (bif (a2.1 == 10) then ((c3 a1 a2.2.2.2.2.1).bind fun t6 => (bif (t6.2 != 0) then (some ([], [], t6.2)) else (some (a0, t6.1, 0)))) else (bif (a2.1 == 12) then ((c3 a1 a2.2.2.2.2.1).bind fun t7 => (bif (t7.2 != 0) then (some ([], [], t7.2)) else (some (a0, t7.1, 0)))) else (some ([], [], 2))))))))))
theorem F.pleachref26_Turn.eq K a0 a1 a2 : F.pleachref26_Turn (K + 1) a0 a1 a2 = F.pleachref26_Turn.B (F.pleachref25_Label K) (F.pleachref25_Unlabel K) (F.pleachref25_Set K) (F.pleachref25_Unset K) a0 a1 a2 := by kernel_rfl
noncomputable def V.pleachref26_Turn (a0 : List ByteArray) (a1 : List TProp) (a2 : TOp) := lim fun v => F.pleachref26_Turn (v 0) a0 a1 a2
theorem V.pleachref26_Turn.of a0 a1 a2 {r} (h : F.pleachref26_Turn.B V.pleachref25_Label V.pleachref25_Unlabel V.pleachref25_Set V.pleachref25_Unset a0 a1 a2 = some r) : V.pleachref26_Turn a0 a1 a2 = some r :=
  App.to (App.step 0 (fun v => F.pleachref26_Turn.eq (v 0) a0 a1 a2) (by unfold F.pleachref26_Turn.B; repeat' first | exact App.val | exact App.no | exact App.lim | apply App.cond | apply App.guard | apply App.meet | apply App.ite | refine App.bind ?_ fun _ => ?_)) h
noncomputable def F.pleachref26_One (K : Nat) (a0 : TGraph) (a1 : TOp) : Option (TGraph × Int) := evFn Tryz.prog sg K 39 [.agg [.list sNode a0.1 false, .list sEdge a0.2 false], .agg [.val (.int .i64 a1.1), .val (.string a1.2.1), .val (.string a1.2.2.1), .val (.string a1.2.2.2.1), .val (.string a1.2.2.2.2.1), .val (.int .i64 a1.2.2.2.2.2.1), .val (.int .i64 a1.2.2.2.2.2.2.1), .val (.string a1.2.2.2.2.2.2.2)]] []
noncomputable def F.pleachref26_One.at (K : Nat) (p ns : List Nat) (s : St) : Option (TGraph × Int) := atFn Tryz.prog sg K 39 0 p ns s
noncomputable def F.pleachref26_One.in (K : Nat) (H : List Nat → List Nat → St → Option (TGraph × Int)) (p ns : List Nat) (s : St) : Option (TGraph × Int) := inFn Tryz.prog sg K 39 0 [[1, 1, 1, 0, 1], [1, 1, 1, 0, 1, 0, 1, 1], [1, 1, 1, 0, 1, 0, 1, 1, 1, 1], [1, 1, 1, 0, 1, 0, 1, 1, 1, 1, 1]] H p ns s
theorem F.pleachref26_One.in_eq K p ns s : F.pleachref26_One.at K p ns s = F.pleachref26_One.in K (F.pleachref26_One.at K) p ns s := atFn_eq (P := Tryz.prog) (sg := sg) (K := K) (f := 39) (m := 0) [[1, 1, 1, 0, 1], [1, 1, 1, 0, 1, 0, 1, 1], [1, 1, 1, 0, 1, 0, 1, 1, 1, 1], [1, 1, 1, 0, 1, 0, 1, 1, 1, 1, 1]] p ns s
theorem F.pleachref26_One.in_main K a0 a1 : F.pleachref26_One (K + 1) a0 a1 = F.pleachref26_One.in K (F.pleachref26_One.at K) [] [] ⟨slots [.agg [.list sNode a0.1 false, .list sEdge a0.2 false], .agg [.val (.int .i64 a1.1), .val (.string a1.2.1), .val (.string a1.2.2.1), .val (.string a1.2.2.2.1), .val (.string a1.2.2.2.2.1), .val (.int .i64 a1.2.2.2.2.2.1), .val (.int .i64 a1.2.2.2.2.2.2.1), .val (.string a1.2.2.2.2.2.2.2)]] 0, []⟩ := evFn_eq (P := Tryz.prog) (sg := sg) (K := K) (f := 39) (args := [.agg [.list sNode a0.1 false, .list sEdge a0.2 false], .agg [.val (.int .i64 a1.1), .val (.string a1.2.1), .val (.string a1.2.2.1), .val (.string a1.2.2.2.1), .val (.string a1.2.2.2.2.1), .val (.int .i64 a1.2.2.2.2.2.1), .val (.int .i64 a1.2.2.2.2.2.2.1), .val (.string a1.2.2.2.2.2.2.2)]]) (σ := []) [[1, 1, 1, 0, 1], [1, 1, 1, 0, 1, 0, 1, 1], [1, 1, 1, 0, 1, 0, 1, 1, 1, 1], [1, 1, 1, 0, 1, 0, 1, 1, 1, 1, 1]] (by kernel_rfl)
def F.pleachref26_One.j11101.st (a0 : TGraph) (a1 : TOp) (x0 : Bool) : St := ⟨[(2, .one (.sc (.ref 0 0))), (3, .one (.sc (.ref 1 0))), (4, .one (.sc (.ref 2 0))), (40, vB x0)], [.cells 25 [.list sNode a0.1 false, .list sEdge a0.2 false], .cells 67 [.val (.int .i64 a1.1), .val (.string a1.2.1), .val (.string a1.2.2.1), .val (.string a1.2.2.2.1), .val (.string a1.2.2.2.2.1), .val (.int .i64 a1.2.2.2.2.2.1), .val (.int .i64 a1.2.2.2.2.2.2.1), .val (.string a1.2.2.2.2.2.2.2)], .cells 25 [.val (.slice none 0 0), .val (.slice none 0 0)]]⟩
noncomputable def F.pleachref26_One.j11101 (K : Nat) (a0 : TGraph) (a1 : TOp) (x0 : Bool) := F.pleachref26_One.at K [1, 1, 1, 0, 1] [] (F.pleachref26_One.j11101.st a0 a1 x0)
def F.pleachref26_One.j11101011.st (a0 : TGraph) (a1 : TOp) (x0 : Int) : St := ⟨[(2, .one (.sc (.ref 0 0))), (3, .one (.sc (.ref 1 0))), (4, .one (.sc (.ref 2 0))), (6, vI x0)], [.cells 25 [.list sNode a0.1 false, .list sEdge a0.2 false], .cells 67 [.val (.int .i64 a1.1), .val (.string a1.2.1), .val (.string a1.2.2.1), .val (.string a1.2.2.2.1), .val (.string a1.2.2.2.2.1), .val (.int .i64 a1.2.2.2.2.2.1), .val (.int .i64 a1.2.2.2.2.2.2.1), .val (.string a1.2.2.2.2.2.2.2)], .cells 25 [.val (.slice none 0 0), .val (.slice none 0 0)]]⟩
noncomputable def F.pleachref26_One.j11101011 (K : Nat) (a0 : TGraph) (a1 : TOp) (x0 : Int) := F.pleachref26_One.at K [1, 1, 1, 0, 1, 0, 1, 1] [] (F.pleachref26_One.j11101011.st a0 a1 x0)
def F.pleachref26_One.j1110101111.st (a0 : TGraph) (a1 : TOp) (x0 : Int) (x1 : List ByteArray) (x2 : List TProp) (x3 : Int) (x4 : List TEdge) : St := ⟨[(2, .one (.sc (.ref 0 0))), (4, .one (.sc (.ref 1 0))), (6, vI x0), (7, .one (.sc (.own 2 none))), (8, vL .str x1), (9, vL sProp x2), (10, vI x3)], [.cells 25 [.list sNode a0.1 false, .list sEdge a0.2 false], .cells 25 [.val (.slice none 0 0), .val (.slice none 0 0)], .elems sEdge x4]⟩
noncomputable def F.pleachref26_One.j1110101111 (K : Nat) (a0 : TGraph) (a1 : TOp) (x0 : Int) (x1 : List ByteArray) (x2 : List TProp) (x3 : Int) (x4 : List TEdge) := F.pleachref26_One.at K [1, 1, 1, 0, 1, 0, 1, 1, 1, 1] [] (F.pleachref26_One.j1110101111.st a0 a1 x0 x1 x2 x3 x4)
def F.pleachref26_One.j11101011111.st (a0 : TGraph) (a1 : TOp) (x0 : Int) (x1 : List ByteArray) (x2 : List TProp) (x3 : List TEdge) : St := ⟨[(2, .one (.sc (.ref 0 0))), (4, .one (.sc (.ref 1 0))), (6, vI x0), (7, .one (.sc (.own 2 none))), (8, vL .str x1), (9, vL sProp x2)], [.cells 25 [.list sNode a0.1 false, .list sEdge a0.2 false], .cells 25 [.val (.slice none 0 0), .val (.slice none 0 0)], .elems sEdge x3]⟩
noncomputable def F.pleachref26_One.j11101011111 (K : Nat) (a0 : TGraph) (a1 : TOp) (x0 : Int) (x1 : List ByteArray) (x2 : List TProp) (x3 : List TEdge) := F.pleachref26_One.at K [1, 1, 1, 0, 1, 0, 1, 1, 1, 1, 1] [] (F.pleachref26_One.j11101011111.st a0 a1 x0 x1 x2 x3)
noncomputable def F.pleachref26_One.j11101.B (c0 : (TGraph) → (ByteArray) → Option (Int)) (c1 : (TGraph) → (TOp) → (Int) → Option (TGraph × Int)) (c2 : (TGraph) → (ByteArray) → Option (Int)) (c3 : (TGraph) → Option ((List TNode))) (c4 : (List ByteArray) → (List TProp) → (TOp) → Option ((List ByteArray) × (List TProp) × Int)) (a0 : TGraph) (a1 : TOp) (x0 : Bool) : Option (TGraph × Int) :=
    (bif x0 then ((c0 (a0.1, a0.2) a1.2.1).bind fun t2 => (bif (decide (t2 < 0)) then (some ((a0.1, a0.2), 9)) else (c1 a0 a1 t2))) else ((c2 (a0.1, a0.2) a1.2.1).bind fun t3 => (bif (decide (t3 < 0)) then (some ((a0.1, a0.2), 9)) else ((c3 (a0.1, a0.2)).bind fun t4 => (guardK (decide (0 ≤ t3) && decide (t3 < (t4.length : Int))) (guardK (decide (0 ≤ t3) && decide (t3 < (t4.length : Int))) ((c4 (((rd sNode t4 t3.toNat).2).1) (((rd sNode t4 t3.toNat).2).2) (a1.1, a1.2.1, a1.2.2.1, a1.2.2.2.1, a1.2.2.2.2.1, a1.2.2.2.2.2.1, a1.2.2.2.2.2.2.1, a1.2.2.2.2.2.2.2)).bind fun t5 => (bif (t5.2.2 != 0) then (some ((a0.1, a0.2), t5.2.2)) else (guardK (decide (0 ≤ t3) && decide (t3 < (t4.length : Int))) (guardK (decide (0 ≤ t3) && decide (t3 < ((t4.set t3.toNat ((rd sNode t4 t3.toNat).1, t5.1, ((rd sNode t4 t3.toNat).2).2)).length : Int))) (some ((((t4.set t3.toNat ((rd sNode t4 t3.toNat).1, t5.1, ((rd sNode t4 t3.toNat).2).2)).set t3.toNat ((rd sNode (t4.set t3.toNat ((rd sNode t4 t3.toNat).1, t5.1, ((rd sNode t4 t3.toNat).2).2)) t3.toNat).1, ((rd sNode (t4.set t3.toNat ((rd sNode t4 t3.toNat).1, t5.1, ((rd sNode t4 t3.toNat).2).2)) t3.toNat).2).1, t5.2.1)), a0.2), 0))))))))))))
theorem F.pleachref26_One.j11101.eq K a0 a1 x0 : F.pleachref26_One.j11101 K a0 a1 x0 = F.pleachref26_One.j11101.B (F.pleachref26_EdgeAt K) (F.pleachref26_One.j11101011 K) (F.pleachref26_NodeAt K) (F.pleachref26_nodes K) (F.pleachref26_Turn K) a0 a1 x0 := (F.pleachref26_One.in_eq K [1, 1, 1, 0, 1] [] (F.pleachref26_One.j11101.st a0 a1 x0)).trans ((show ∀ H, F.pleachref26_One.in K H [1, 1, 1, 0, 1] [] (F.pleachref26_One.j11101.st a0 a1 x0) = F.pleachref26_One.j11101.B (F.pleachref26_EdgeAt K) (fun a0 a1 x0 => H [1, 1, 1, 0, 1, 0, 1, 1] [] (F.pleachref26_One.j11101011.st a0 a1 x0)) (F.pleachref26_NodeAt K) (F.pleachref26_nodes K) (F.pleachref26_Turn K) a0 a1 x0 from by intro H; kernel_rfl) (F.pleachref26_One.at K))
noncomputable def F.pleachref26_One.j11101011.B (c0 : (TGraph) → Option ((List TEdge))) (c1 : (List ByteArray) → (List TProp) → (TOp) → Option ((List ByteArray) × (List TProp) × Int)) (c2 : (TGraph) → (TOp) → (Int) → (List ByteArray) → (List TProp) → (Int) → (List TEdge) → Option (TGraph × Int)) (a0 : TGraph) (a1 : TOp) (x0 : Int) : Option (TGraph × Int) :=
    ((c0 (a0.1, a0.2)).bind fun t6 => (guardK (decide (0 ≤ x0) && decide (x0 < (t6.length : Int))) (guardK (decide (0 ≤ x0) && decide (x0 < (t6.length : Int))) ((c1 (((((rd sEdge t6 x0.toNat).2).2).2).1) (((((rd sEdge t6 x0.toNat).2).2).2).2) (a1.1, a1.2.1, a1.2.2.1, a1.2.2.2.1, a1.2.2.2.2.1, a1.2.2.2.2.2.1, a1.2.2.2.2.2.2.1, a1.2.2.2.2.2.2.2)).bind fun t7 => (c2 a0 a1 x0 t7.1 t7.2.1 t7.2.2 t6)))))
theorem F.pleachref26_One.j11101011.eq K a0 a1 x0 : F.pleachref26_One.j11101011 K a0 a1 x0 = F.pleachref26_One.j11101011.B (F.pleachref26_edges K) (F.pleachref26_Turn K) (F.pleachref26_One.j1110101111 K) a0 a1 x0 := (F.pleachref26_One.in_eq K [1, 1, 1, 0, 1, 0, 1, 1] [] (F.pleachref26_One.j11101011.st a0 a1 x0)).trans ((show ∀ H, F.pleachref26_One.in K H [1, 1, 1, 0, 1, 0, 1, 1] [] (F.pleachref26_One.j11101011.st a0 a1 x0) = F.pleachref26_One.j11101011.B (F.pleachref26_edges K) (F.pleachref26_Turn K) (fun a0 a1 x0 x1 x2 x3 x4 => H [1, 1, 1, 0, 1, 0, 1, 1, 1, 1] [] (F.pleachref26_One.j1110101111.st a0 a1 x0 x1 x2 x3 x4)) a0 a1 x0 from by intro H; kernel_rfl) (F.pleachref26_One.at K))
noncomputable def F.pleachref26_One.j1110101111.B (c0 : (TGraph) → (TOp) → (Int) → (List ByteArray) → (List TProp) → (List TEdge) → Option (TGraph × Int)) (a0 : TGraph) (a1 : TOp) (x0 : Int) (x1 : List ByteArray) (x2 : List TProp) (x3 : Int) (x4 : List TEdge) : Option (TGraph × Int) :=
    (bif (x3 != 0) then (some ((a0.1, a0.2), x3)) else (c0 a0 a1 x0 x1 x2 x4))
theorem F.pleachref26_One.j1110101111.eq K a0 a1 x0 x1 x2 x3 x4 : F.pleachref26_One.j1110101111 K a0 a1 x0 x1 x2 x3 x4 = F.pleachref26_One.j1110101111.B (F.pleachref26_One.j11101011111 K) a0 a1 x0 x1 x2 x3 x4 := (F.pleachref26_One.in_eq K [1, 1, 1, 0, 1, 0, 1, 1, 1, 1] [] (F.pleachref26_One.j1110101111.st a0 a1 x0 x1 x2 x3 x4)).trans ((show ∀ H, F.pleachref26_One.in K H [1, 1, 1, 0, 1, 0, 1, 1, 1, 1] [] (F.pleachref26_One.j1110101111.st a0 a1 x0 x1 x2 x3 x4) = F.pleachref26_One.j1110101111.B (fun a0 a1 x0 x1 x2 x3 => H [1, 1, 1, 0, 1, 0, 1, 1, 1, 1, 1] [] (F.pleachref26_One.j11101011111.st a0 a1 x0 x1 x2 x3)) a0 a1 x0 x1 x2 x3 x4 from by intro H; kernel_rfl) (F.pleachref26_One.at K))
noncomputable def F.pleachref26_One.j11101011111.B (a0 : TGraph) (a1 : TOp) (x0 : Int) (x1 : List ByteArray) (x2 : List TProp) (x3 : List TEdge) : Option (TGraph × Int) :=
    (guardK (decide (0 ≤ x0) && decide (x0 < (x3.length : Int))) (guardK (decide (0 ≤ x0) && decide (x0 < ((x3.set x0.toNat ((rd sEdge x3 x0.toNat).1, ((rd sEdge x3 x0.toNat).2).1, (((rd sEdge x3 x0.toNat).2).2).1, x1, ((((rd sEdge x3 x0.toNat).2).2).2).2)).length : Int))) (some ((a0.1, ((x3.set x0.toNat ((rd sEdge x3 x0.toNat).1, ((rd sEdge x3 x0.toNat).2).1, (((rd sEdge x3 x0.toNat).2).2).1, x1, ((((rd sEdge x3 x0.toNat).2).2).2).2)).set x0.toNat ((rd sEdge (x3.set x0.toNat ((rd sEdge x3 x0.toNat).1, ((rd sEdge x3 x0.toNat).2).1, (((rd sEdge x3 x0.toNat).2).2).1, x1, ((((rd sEdge x3 x0.toNat).2).2).2).2)) x0.toNat).1, ((rd sEdge (x3.set x0.toNat ((rd sEdge x3 x0.toNat).1, ((rd sEdge x3 x0.toNat).2).1, (((rd sEdge x3 x0.toNat).2).2).1, x1, ((((rd sEdge x3 x0.toNat).2).2).2).2)) x0.toNat).2).1, (((rd sEdge (x3.set x0.toNat ((rd sEdge x3 x0.toNat).1, ((rd sEdge x3 x0.toNat).2).1, (((rd sEdge x3 x0.toNat).2).2).1, x1, ((((rd sEdge x3 x0.toNat).2).2).2).2)) x0.toNat).2).2).1, ((((rd sEdge (x3.set x0.toNat ((rd sEdge x3 x0.toNat).1, ((rd sEdge x3 x0.toNat).2).1, (((rd sEdge x3 x0.toNat).2).2).1, x1, ((((rd sEdge x3 x0.toNat).2).2).2).2)) x0.toNat).2).2).2).1, x2))), 0))))
theorem F.pleachref26_One.j11101011111.eq K a0 a1 x0 x1 x2 x3 : F.pleachref26_One.j11101011111 K a0 a1 x0 x1 x2 x3 = F.pleachref26_One.j11101011111.B a0 a1 x0 x1 x2 x3 := (F.pleachref26_One.in_eq K [1, 1, 1, 0, 1, 0, 1, 1, 1, 1, 1] [] (F.pleachref26_One.j11101011111.st a0 a1 x0 x1 x2 x3)).trans ((show ∀ H, F.pleachref26_One.in K H [1, 1, 1, 0, 1, 0, 1, 1, 1, 1, 1] [] (F.pleachref26_One.j11101011111.st a0 a1 x0 x1 x2 x3) = F.pleachref26_One.j11101011111.B a0 a1 x0 x1 x2 x3 from by intro H; kernel_rfl) (F.pleachref26_One.at K))
noncomputable def F.pleachref26_One.B (c0 : (TOp) → Option (Bool)) (c1 : (TGraph) → (TOp) → Option (TGraph × Int)) (c2 : (TGraph) → (TOp) → (Bool) → Option (TGraph × Int)) (a0 : TGraph) (a1 : TOp) : Option (TGraph × Int) :=
    ((c0 (a1.1, a1.2.1, a1.2.2.1, a1.2.2.2.1, a1.2.2.2.2.1, a1.2.2.2.2.2.1, a1.2.2.2.2.2.2.1, a1.2.2.2.2.2.2.2)).bind fun t0 => (bif (!t0) then (some ((a0.1, a0.2), 2)) else (bif (decide (a1.1 ≤ 4)) then ((c1 (a0.1, a0.2) (a1.1, a1.2.1, a1.2.2.1, a1.2.2.2.1, a1.2.2.2.2.1, a1.2.2.2.2.2.1, a1.2.2.2.2.2.2.1, a1.2.2.2.2.2.2.2)).bind fun t1 => (some ((t1.1.1, t1.1.2), t1.2))) else (bif (a1.1 == 7) then (c2 a0 a1 true) else (bif (a1.1 == 8) then (c2 a0 a1 true) else (c2 a0 a1 (decide (a1.1 ≥ 11))))))))
theorem F.pleachref26_One.eq K a0 a1 : F.pleachref26_One (K + 1) a0 a1 = F.pleachref26_One.B (F.pleachref26_Right K) (F.pleachref26_whole K) (F.pleachref26_One.j11101 K) a0 a1 := (F.pleachref26_One.in_main K a0 a1).trans ((show ∀ H, F.pleachref26_One.in K H [] [] ⟨slots [.agg [.list sNode a0.1 false, .list sEdge a0.2 false], .agg [.val (.int .i64 a1.1), .val (.string a1.2.1), .val (.string a1.2.2.1), .val (.string a1.2.2.2.1), .val (.string a1.2.2.2.2.1), .val (.int .i64 a1.2.2.2.2.2.1), .val (.int .i64 a1.2.2.2.2.2.2.1), .val (.string a1.2.2.2.2.2.2.2)]] 0, []⟩ = F.pleachref26_One.B (F.pleachref26_Right K) (F.pleachref26_whole K) (fun a0 a1 x0 => H [1, 1, 1, 0, 1] [] (F.pleachref26_One.j11101.st a0 a1 x0)) a0 a1 from by intro H; kernel_rfl) (F.pleachref26_One.at K))
noncomputable def V.pleachref26_One.j11101 (a0 : TGraph) (a1 : TOp) (x0 : Bool) := lim fun v => F.pleachref26_One.j11101 (v 0) a0 a1 x0
noncomputable def V.pleachref26_One.j11101011 (a0 : TGraph) (a1 : TOp) (x0 : Int) := lim fun v => F.pleachref26_One.j11101011 (v 0) a0 a1 x0
noncomputable def V.pleachref26_One.j1110101111 (a0 : TGraph) (a1 : TOp) (x0 : Int) (x1 : List ByteArray) (x2 : List TProp) (x3 : Int) (x4 : List TEdge) := lim fun v => F.pleachref26_One.j1110101111 (v 0) a0 a1 x0 x1 x2 x3 x4
noncomputable def V.pleachref26_One.j11101011111 (a0 : TGraph) (a1 : TOp) (x0 : Int) (x1 : List ByteArray) (x2 : List TProp) (x3 : List TEdge) := lim fun v => F.pleachref26_One.j11101011111 (v 0) a0 a1 x0 x1 x2 x3
noncomputable def V.pleachref26_One (a0 : TGraph) (a1 : TOp) := lim fun v => F.pleachref26_One (v 0) a0 a1
theorem V.pleachref26_One.j11101.of a0 a1 x0 {r} (h : F.pleachref26_One.j11101.B V.pleachref26_EdgeAt V.pleachref26_One.j11101011 V.pleachref26_NodeAt V.pleachref26_nodes V.pleachref26_Turn a0 a1 x0 = some r) : V.pleachref26_One.j11101 a0 a1 x0 = some r :=
  App.to (App.same (fun v => F.pleachref26_One.j11101.eq (v 0) a0 a1 x0) (by unfold F.pleachref26_One.j11101.B; repeat' first | exact App.val | exact App.no | exact App.lim | apply App.cond | apply App.guard | apply App.meet | apply App.ite | refine App.bind ?_ fun _ => ?_)) h
theorem V.pleachref26_One.j11101011.of a0 a1 x0 {r} (h : F.pleachref26_One.j11101011.B V.pleachref26_edges V.pleachref26_Turn V.pleachref26_One.j1110101111 a0 a1 x0 = some r) : V.pleachref26_One.j11101011 a0 a1 x0 = some r :=
  App.to (App.same (fun v => F.pleachref26_One.j11101011.eq (v 0) a0 a1 x0) (by unfold F.pleachref26_One.j11101011.B; repeat' first | exact App.val | exact App.no | exact App.lim | apply App.cond | apply App.guard | apply App.meet | apply App.ite | refine App.bind ?_ fun _ => ?_)) h
theorem V.pleachref26_One.j1110101111.of a0 a1 x0 x1 x2 x3 x4 {r} (h : F.pleachref26_One.j1110101111.B V.pleachref26_One.j11101011111 a0 a1 x0 x1 x2 x3 x4 = some r) : V.pleachref26_One.j1110101111 a0 a1 x0 x1 x2 x3 x4 = some r :=
  App.to (App.same (fun v => F.pleachref26_One.j1110101111.eq (v 0) a0 a1 x0 x1 x2 x3 x4) (by unfold F.pleachref26_One.j1110101111.B; repeat' first | exact App.val | exact App.no | exact App.lim | apply App.cond | apply App.guard | apply App.meet | apply App.ite | refine App.bind ?_ fun _ => ?_)) h
theorem V.pleachref26_One.j11101011111.of a0 a1 x0 x1 x2 x3 {r} (h : F.pleachref26_One.j11101011111.B a0 a1 x0 x1 x2 x3 = some r) : V.pleachref26_One.j11101011111 a0 a1 x0 x1 x2 x3 = some r :=
  App.to (App.same (fun v => F.pleachref26_One.j11101011111.eq (v 0) a0 a1 x0 x1 x2 x3) (by unfold F.pleachref26_One.j11101011111.B; repeat' first | exact App.val | exact App.no | exact App.lim | apply App.cond | apply App.guard | apply App.meet | apply App.ite | refine App.bind ?_ fun _ => ?_)) h
theorem V.pleachref26_One.of a0 a1 {r} (h : F.pleachref26_One.B V.pleachref26_Right V.pleachref26_whole V.pleachref26_One.j11101 a0 a1 = some r) : V.pleachref26_One a0 a1 = some r :=
  App.to (App.step 0 (fun v => F.pleachref26_One.eq (v 0) a0 a1) (by unfold F.pleachref26_One.B; repeat' first | exact App.val | exact App.no | exact App.lim | apply App.cond | apply App.guard | apply App.meet | apply App.ite | refine App.bind ?_ fun _ => ?_)) h
noncomputable def F.pleachref26_Apply (K : Nat) (a0 : TGraph) (a1 : List TOp) : Option (TGraph × Int × Int) := evFn Tryz.prog sg K 11 [.agg [.list sNode a0.1 false, .list sEdge a0.2 false], .sc (.list sOp a1 false)] []
noncomputable def F.pleachref26_Apply.at (K : Nat) (p ns : List Nat) (s : St) : Option (TGraph × Int × Int) := atFn Tryz.prog sg K 11 0 p ns s
noncomputable def F.pleachref26_Apply.in (K : Nat) (H : List Nat → List Nat → St → Option (TGraph × Int × Int)) (p ns : List Nat) (s : St) : Option (TGraph × Int × Int) := inFn Tryz.prog sg K 11 0 [] H p ns s
theorem F.pleachref26_Apply.in_eq K p ns s : F.pleachref26_Apply.at K p ns s = F.pleachref26_Apply.in K (F.pleachref26_Apply.at K) p ns s := atFn_eq (P := Tryz.prog) (sg := sg) (K := K) (f := 11) (m := 0) [] p ns s
theorem F.pleachref26_Apply.in_main K a0 a1 : F.pleachref26_Apply (K + 1) a0 a1 = F.pleachref26_Apply.in K (F.pleachref26_Apply.at K) [] [] ⟨slots [.agg [.list sNode a0.1 false, .list sEdge a0.2 false], .sc (.list sOp a1 false)] 0, []⟩ := evFn_eq (P := Tryz.prog) (sg := sg) (K := K) (f := 11) (args := [.agg [.list sNode a0.1 false, .list sEdge a0.2 false], .sc (.list sOp a1 false)]) (σ := []) [] (by kernel_rfl)
def F.pleachref26_Apply.l111010.st (a0 : TGraph) (a1 : List TOp) (x0 : Int) (x1 : List TNode) (x2 : List TEdge) : St := ⟨[(1, vL sOp a1), (2, .one (.sc (.ref 0 0))), (4, .one (.sc (.ref 1 0))), (8, vI x0)], [.cells 25 [.list sNode x1 false, .list sEdge x2 false], .cells 25 [.val (.slice none 0 0), .val (.slice none 0 0)]]⟩
noncomputable def F.pleachref26_Apply.l111010 (K n0 : Nat) (a0 : TGraph) (a1 : List TOp) (x0 : Int) (x1 : List TNode) (x2 : List TEdge) := F.pleachref26_Apply.at K [1, 1, 1, 0, 1, 0] [n0] (F.pleachref26_Apply.l111010.st a0 a1 x0 x1 x2)
noncomputable def F.pleachref26_Apply.l111010.B (c0 : (TGraph) → (TOp) → Option (TGraph × Int)) (c1 : (TGraph) → (List TOp) → (Int) → (List TNode) → (List TEdge) → Option (TGraph × Int × Int)) (a0 : TGraph) (a1 : List TOp) (x0 : Int) (x1 : List TNode) (x2 : List TEdge) : Option (TGraph × Int × Int) :=
    (bif (decide (x0 < (a1.length : Int))) then (guardK (decide (0 ≤ x0) && decide (x0 < (a1.length : Int))) (meet ((c0 (x1, x2) ((rd sOp a1 x0.toNat).1, ((rd sOp a1 x0.toNat).2).1, (((rd sOp a1 x0.toNat).2).2).1, ((((rd sOp a1 x0.toNat).2).2).2).1, (((((rd sOp a1 x0.toNat).2).2).2).2).1, ((((((rd sOp a1 x0.toNat).2).2).2).2).2).1, (((((((rd sOp a1 x0.toNat).2).2).2).2).2).2).1, (((((((rd sOp a1 x0.toNat).2).2).2).2).2).2).2)).bind fun t1 => (bif (t1.2 != 0) then (some (([], []), x0, t1.2)) else (c1 a0 a1 (w64 (x0 + 1)) t1.1.1 t1.1.2))) ((c0 (x1, x2) ((rd sOp a1 x0.toNat).1, ((rd sOp a1 x0.toNat).2).1, (((rd sOp a1 x0.toNat).2).2).1, ((((rd sOp a1 x0.toNat).2).2).2).1, (((((rd sOp a1 x0.toNat).2).2).2).2).1, ((((((rd sOp a1 x0.toNat).2).2).2).2).2).1, (((((((rd sOp a1 x0.toNat).2).2).2).2).2).2).1, (((((((rd sOp a1 x0.toNat).2).2).2).2).2).2).2)).bind fun t2 => (bif (t2.2 != 0) then (some (([], []), x0, t2.2)) else (c1 a0 a1 (w64 (x0 + 1)) t2.1.1 t2.1.2))))) else (some ((x1, x2), 0, 0)))
theorem F.pleachref26_Apply.l111010.eq K n0 a0 a1 x0 x1 x2 : F.pleachref26_Apply.l111010 K (n0 + 1) a0 a1 x0 x1 x2 = F.pleachref26_Apply.l111010.B (F.pleachref26_One K) (F.pleachref26_Apply.l111010 K n0) a0 a1 x0 x1 x2 := (F.pleachref26_Apply.in_eq K [1, 1, 1, 0, 1, 0] [n0 + 1] (F.pleachref26_Apply.l111010.st a0 a1 x0 x1 x2)).trans ((show ∀ H, F.pleachref26_Apply.in K H [1, 1, 1, 0, 1, 0] [n0 + 1] (F.pleachref26_Apply.l111010.st a0 a1 x0 x1 x2) = F.pleachref26_Apply.l111010.B (F.pleachref26_One K) (fun a0 a1 x0 x1 x2 => H [1, 1, 1, 0, 1, 0] [n0] (F.pleachref26_Apply.l111010.st a0 a1 x0 x1 x2)) a0 a1 x0 x1 x2 from by intro H; kernel_rfl) (F.pleachref26_Apply.at K))
noncomputable def F.pleachref26_Apply.B (c0 : (TGraph) → Option (Int)) (c1 : (TGraph) → (List TOp) → (Int) → (List TNode) → (List TEdge) → Option (TGraph × Int × Int)) (a0 : TGraph) (a1 : List TOp) : Option (TGraph × Int × Int) :=
    ((c0 (a0.1, a0.2)).bind fun t0 => (bif (t0 != 0) then (some (([], []), 0, t0)) else (c1 a0 a1 0 a0.1 a0.2)))
theorem F.pleachref26_Apply.eq K a0 a1 : F.pleachref26_Apply (K + 1) a0 a1 = F.pleachref26_Apply.B (F.pleachref26_Wrong K) (F.pleachref26_Apply.l111010 K K) a0 a1 := (F.pleachref26_Apply.in_main K a0 a1).trans ((show ∀ H, F.pleachref26_Apply.in K H [] [] ⟨slots [.agg [.list sNode a0.1 false, .list sEdge a0.2 false], .sc (.list sOp a1 false)] 0, []⟩ = F.pleachref26_Apply.B (F.pleachref26_Wrong K) (fun a0 a1 x0 x1 x2 => H [1, 1, 1, 0, 1, 0] [K] (F.pleachref26_Apply.l111010.st a0 a1 x0 x1 x2)) a0 a1 from by intro H; kernel_rfl) (F.pleachref26_Apply.at K))
noncomputable def V.pleachref26_Apply.l111010 (a0 : TGraph) (a1 : List TOp) (x0 : Int) (x1 : List TNode) (x2 : List TEdge) := lim fun v => F.pleachref26_Apply.l111010 (v 0) (v 1) a0 a1 x0 x1 x2
noncomputable def V.pleachref26_Apply (a0 : TGraph) (a1 : List TOp) := lim fun v => F.pleachref26_Apply (v 0) a0 a1
theorem V.pleachref26_Apply.l111010.of a0 a1 x0 x1 x2 {r} (h : F.pleachref26_Apply.l111010.B V.pleachref26_One V.pleachref26_Apply.l111010 a0 a1 x0 x1 x2 = some r) : V.pleachref26_Apply.l111010 a0 a1 x0 x1 x2 = some r :=
  App.to (App.step 1 (fun v => F.pleachref26_Apply.l111010.eq (v 0) (v 1) a0 a1 x0 x1 x2) (by unfold F.pleachref26_Apply.l111010.B; repeat' first | exact App.val | exact App.no | exact App.lim | apply App.cond | apply App.guard | apply App.meet | apply App.ite | refine App.bind ?_ fun _ => ?_)) h
theorem V.pleachref26_Apply.of a0 a1 {r} (h : F.pleachref26_Apply.B V.pleachref26_Wrong V.pleachref26_Apply.l111010 a0 a1 = some r) : V.pleachref26_Apply a0 a1 = some r :=
  App.to (App.step 0 (fun v => F.pleachref26_Apply.eq (v 0) a0 a1) (by unfold F.pleachref26_Apply.B; repeat' first | exact App.val | exact App.no | exact App.lim | exact (App.enter 1 App.lim) | apply App.cond | apply App.guard | apply App.meet | apply App.ite | refine App.bind ?_ fun _ => ?_)) h
noncomputable def F.pleachlaw26_GraphApplies (K : Nat) (a0 : TGraph) (a1 : List TOp) : Option (Bool) := evFn Tryz.prog sg K 3 [.agg [.list sNode a0.1 false, .list sEdge a0.2 false], .sc (.list sOp a1 false)] []
noncomputable def F.pleachlaw26_GraphApplies.B (c0 : (TGraph) → Option (Bool)) (c1 : Option (Bool)) (c2 : (List TOp) → Option (Bool)) (c3 : (TGraph) → Option (TGraph)) (c4 : (TGraph) → (List TOp) → Option (TGraph × Int × Int)) (c5 : (TGraph) → (List TOp) → Option (TGraph × Int × Int)) (c6 : (TGraph) → (TGraph) → Option (Bool)) (a0 : TGraph) (a1 : List TOp) : Option (Bool) :=
    ((c0 (a0.1, a0.2)).bind fun t0 => (bif (!t0) then ((c1).bind fun t1 => (some t1)) else ((c2 a1).bind fun t2 => (bif (!t2) then ((c1).bind fun t3 => (some t3)) else ((c3 (a0.1, a0.2)).bind fun t4 => ((c4 (a0.1, a0.2) a1).bind fun t5 => ((c5 (a0.1, a0.2) a1).bind fun t6 => ((c6 (t5.1.1, t5.1.2) (t6.1.1, t6.1.2)).bind fun t7 => (bif t7 then (bif (t5.2.1 == t6.2.1) then (bif (t5.2.2 == t6.2.2) then ((c6 (a0.1, a0.2) (t4.1, t4.2)).bind fun t8 => (bif t8 then ((c1).bind fun t9 => (some t9)) else (some false))) else (some false)) else (some false)) else (some false))))))))))
theorem F.pleachlaw26_GraphApplies.eq K a0 a1 : F.pleachlaw26_GraphApplies (K + 1) a0 a1 = F.pleachlaw26_GraphApplies.B (F.pleachref26_Few K) (F.pleachlaw26_awake K) (F.pleachref26_FewOps K) (F.graph_Copy K) (F.graph_Apply K) (F.pleachref26_Apply K) (F.pleachref26_Same K) a0 a1 := by kernel_rfl
noncomputable def V.pleachlaw26_GraphApplies (a0 : TGraph) (a1 : List TOp) := lim fun v => F.pleachlaw26_GraphApplies (v 0) a0 a1
theorem V.pleachlaw26_GraphApplies.of a0 a1 {r} (h : F.pleachlaw26_GraphApplies.B V.pleachref26_Few V.pleachlaw26_awake V.pleachref26_FewOps V.graph_Copy V.graph_Apply V.pleachref26_Apply V.pleachref26_Same a0 a1 = some r) : V.pleachlaw26_GraphApplies a0 a1 = some r :=
  App.to (App.step 0 (fun v => F.pleachlaw26_GraphApplies.eq (v 0) a0 a1) (by unfold F.pleachlaw26_GraphApplies.B; repeat' first | exact App.val | exact App.no | exact App.lim | apply App.cond | apply App.guard | apply App.meet | apply App.ite | refine App.bind ?_ fun _ => ?_)) h

end Go.Proofs.YtdblhdpnllckhaaGreat.AE
end
section
set_option linter.unusedVariables false
set_option linter.unusedSimpArgs false
namespace Go.Proofs.YtdblhdpnllckhaaGreat.AE
open Go

theorem w64_id {x : Int} (h0 : -9223372036854775808 ≤ x) (h1 : x ≤ 9223372036854775807) : w64 x = x := by
  show IntKind.i64.wrap x = x
  simp [IntKind.wrap, IntKind.bits, IntKind.signed]
  omega
theorem u64_id {x : Int} (h0 : 0 ≤ x) (h1 : x ≤ 18446744073709551615) : IntKind.wrap .u64 x = x := by
  have : IntKind.u64.wrap x = x % 18446744073709551616 := by simp [IntKind.wrap, IntKind.bits, IntKind.signed]
  rw [this]; omega
theorem w64_up {i n : Nat} (h : i < n) (hn : n ≤ 140737488351232) : w64 ((i : Int) + 1) = ((i + 1 : Nat) : Int) := by rw [w64_id (by omega) (by omega)]; omega
theorem w64_dn {i n : Nat} (h : i < n) (hn : n ≤ 140737488351232) (h0 : 0 < i) : w64 ((i : Int) - 1) = ((i - 1 : Nat) : Int) := by rw [w64_id (by omega) (by omega)]; omega

theorem guard_of {α : Type} {g : Bool} {a : Option α} (h : g = true) : guardK g a = a := by rw [h]; rfl
theorem guard_dec {α : Type} {p : Prop} [Decidable p] {a : Option α} (h : p) : guardK (decide p) a = a := guard_of (decide_eq_true h)
/-- Inside a row. -/
theorem guard_in {α : Type} {i n : Nat} {a : Option α} (h : i < n) : guardK (decide (0 ≤ (i : Int)) && decide ((i : Int) < (n : Int))) a = a := guard_of (by simp [h])
theorem if_in {α : Type} {i n : Nat} {a b : α} (h : i < n) : (bif decide ((i : Int) < (n : Int)) then a else b) = a := by simp [h]
theorem if_out {α : Type} {i n : Nat} {a b : α} (h : n ≤ i) : (bif decide ((i : Int) < (n : Int)) then a else b) = b := by simp [Nat.not_lt.2 h]
theorem if_yes {α : Type} {p : Prop} [Decidable p] {a b : α} (h : p) : (bif decide p then a else b) = a := by simp [h]
theorem if_no {α : Type} {p : Prop} [Decidable p] {a b : α} (h : ¬ p) : (bif decide p then a else b) = b := by simp [h]
theorem nat_cast (i : Nat) : ((i : Nat) : Int).toNat = i := rfl
theorem meet_self {α : Type} (a : Option α) : meet a a = a := by unfold meet; simp
theorem data_len (s : ByteArray) : s.data.toList.length = s.size := by rw [Array.length_toList]; rfl
theorem toList_size (s : ByteArray) : s.toList.length = s.size := by rw [ByteArray.toList_eq]; exact data_len s
theorem toList_nil {s : ByteArray} : s.toList = [] ↔ s.size = 0 := by
  rw [← toList_size, List.length_eq_zero_iff]
theorem bytes_ext {s t : ByteArray} (h : s.toList = t.toList) : s = t := by
  rw [ByteArray.toList_eq, ByteArray.toList_eq] at h
  have : s.data = t.data := by rwa [← Array.toList_inj]
  cases s; cases t; simp_all
theorem strEq_iff {s t : ByteArray} : strEq s t = true ↔ s = t := by
  unfold strEq
  rw [beq_iff_eq]
  exact ⟨bytes_ext, fun h => by rw [h]⟩
theorem strEq_self (s : ByteArray) : strEq s s = true := strEq_iff.2 rfl
theorem strEq_no {s t : ByteArray} (h : s ≠ t) : strEq s t = false := by
  cases hb : strEq s t with
  | false => rfl
  | true => exact absurd (strEq_iff.1 hb) h
theorem strEq_dec (s t : ByteArray) : strEq s t = decide (s = t) := by
  by_cases h : s = t
  · rw [h, strEq_self]; simp
  · rw [strEq_no h]; simp [h]
theorem strEq_comm (s t : ByteArray) : strEq s t = strEq t s := by
  by_cases h : s = t
  · rw [h]
  · rw [strEq_no h, strEq_no (fun e => h e.symm)]
/-! ### The order of texts -/

theorem less_leq : ∀ x y : List UInt8, (Op.bytesLess x y || x == y) = !(Op.bytesLess y x)
  | [], [] => by simp [Op.bytesLess]
  | [], b :: y => by simp [Op.bytesLess]
  | a :: x, [] => by simp [Op.bytesLess]
  | a :: x, b :: y => by
    have ih := less_leq x y
    by_cases h1 : a < b
    · have h2 : ¬ b < a := by simp only [UInt8.lt_iff_toNat_lt] at *; omega
      have h3 : ¬ b = a := by rintro rfl; simp at h1
      simp [Op.bytesLess, h1, h2, h3]
    · by_cases h2 : b < a
      · have h3 : ¬ b = a := by rintro rfl; simp at h2
        have h4 : ¬ a = b := fun h => h3 h.symm
        simp [Op.bytesLess, h1, h2, h4]
      · have h3 : a = b := by
          apply UInt8.toNat_inj.1
          simp only [UInt8.lt_iff_toNat_lt] at *
          omega
        subst h3
        simp [Op.bytesLess, h1] at ih ⊢
        exact ih
theorem less_irr : ∀ x : List UInt8, Op.bytesLess x x = false
  | [] => rfl
  | a :: x => by
    have : ¬ a < a := by simp
    simp [Op.bytesLess, less_irr x, this]
theorem less_trans : ∀ x y z : List UInt8, Op.bytesLess x y = true → Op.bytesLess y z = true → Op.bytesLess x z = true
  | _, [], _, h, _ => by simp [Op.bytesLess] at h
  | _, _ :: _, [], _, h => by simp [Op.bytesLess] at h
  | [], b :: y, c :: z, _, _ => rfl
  | a :: x, b :: y, c :: z, h1, h2 => by
    simp only [Op.bytesLess, Bool.or_eq_true, Bool.and_eq_true, decide_eq_true_eq, beq_iff_eq] at h1 h2 ⊢
    rcases h1 with h1 | ⟨rfl, h1⟩
    · rcases h2 with h2 | ⟨rfl, h2⟩
      · left; simp only [UInt8.lt_iff_toNat_lt] at *; omega
      · exact .inl h1
    · rcases h2 with h2 | ⟨rfl, h2⟩
      · exact .inl h2
      · exact .inr ⟨rfl, less_trans x y z h1 h2⟩
/-- Of two texts one is less, or they are the same. -/
theorem lt_or (a b : ByteArray) : (strLt a b || strEq a b) = !strLt b a := less_leq a.toList b.toList
theorem lt_irr (a : ByteArray) : strLt a a = false := less_irr a.toList
theorem lt_trans {a b c : ByteArray} (h : strLt a b = true) (g : strLt b c = true) : strLt a c = true := less_trans _ _ _ h g
theorem lt_asymm {a b : ByteArray} (h : strLt a b = true) : strLt b a = false := by
  cases hb : strLt b a with
  | false => rfl
  | true => have := lt_trans h hb; rw [lt_irr] at this; cases this
theorem lt_ne {a b : ByteArray} (h : strLt a b = true) : a ≠ b := fun e => by rw [e, lt_irr] at h; cases h
theorem lt_total {a b : ByteArray} (h : strLt a b = false) (hn : a ≠ b) : strLt b a = true := by
  have := lt_or a b
  rw [h, strEq_no hn] at this
  cases hb : strLt b a with
  | true => rfl
  | false => rw [hb] at this; simp at this
theorem size_zero {s : ByteArray} (h : s.size = 0) : s = (⟨#[]⟩ : ByteArray) := by
  apply bytes_ext
  rw [toList_nil.2 h]
  exact (toList_nil.2 rfl).symm
theorem strEq_nil (s : ByteArray) : strEq s (⟨#[]⟩ : ByteArray) = (s.size == 0) := by
  rw [Bool.eq_iff_iff, strEq_iff]
  simp only [beq_iff_eq]
  exact ⟨fun h => by rw [h]; rfl, size_zero⟩
theorem rd_get {e : Sh} {l : List (den e)} {i : Nat} (h : i < l.length) : rd e l i = l[i] := by
  simp [rd, List.getD_eq_getElem?_getD, List.getElem?_eq_getElem h]
theorem rd_mem {e : Sh} {l : List (den e)} {i : Nat} (h : i < l.length) : rd e l i ∈ l := by rw [rd_get h]; exact List.getElem_mem h
theorem drop_rd {e : Sh} {l : List (den e)} {i : Nat} (h : i < l.length) : l.drop i = rd e l i :: l.drop (i + 1) := by rw [rd_get h]; exact List.drop_eq_getElem_cons h
theorem take_rd {e : Sh} {l : List (den e)} {i : Nat} (h : i < l.length) : l.take (i + 1) = l.take i ++ [rd e l i] := by
  rw [rd_get h, List.take_add_one, List.getElem?_eq_getElem h]; rfl

/-- A loop that ends at the first place at which the step tells something; else what is told at the end. -/
def scanG {α : Type} (step : Nat → Option α) (fin : α) : Nat → Nat → α
  | 0, _ => fin
  | d + 1, i => match step i with
    | some r => r
    | none => scanG step fin d (i + 1)
abbrev scanI (step : Nat → Option Int) : Nat → Nat → Int := scanG step 0
theorem scanG_succ {α : Type} (step : Nat → Option α) (fin : α) (d i : Nat) : scanG step fin (d + 1) i = (step i).getD (scanG step fin d (i + 1)) := by
  show (match step i with | some r => r | none => scanG step fin d (i + 1)) = _
  cases step i <;> rfl
theorem scanI_succ (step : Nat → Option Int) (d i : Nat) : scanI step (d + 1) i = (step i).getD (scanI step d (i + 1)) := scanG_succ step 0 d i
end Go.Proofs.YtdblhdpnllckhaaGreat.AE
end
section
set_option linter.unusedVariables false
set_option linter.unusedSimpArgs false
namespace Go.Proofs.YtdblhdpnllckhaaGreat.AE
open Go

def okc (c : Int) : Bool := (decide (97 ≤ c) && decide (c ≤ 122)) || (decide (48 ≤ c) && decide (c ≤ 57)) || c == 45
theorem name_fits_ok (c : Int) : V.name_fits c = some (okc c) := by
  refine V.name_fits.of _ ?_
  unfold F.name_fits.B okc
  by_cases a1 : c ≥ 97 <;> by_cases a2 : c ≤ 122 <;> by_cases a3 : c ≥ 48 <;> by_cases a4 : c ≤ 57 <;> simp [Bool.cond_eq_ite, a1, a2, a3, a4] <;> omega
/-- From place i on, d bytes, all fit. -/
def okFrom (s : ByteArray) : Nat → Nat → Bool
  | 0, _ => true
  | d + 1, i => okc (byteAt s i) && okFrom s d (i + 1)
def nameB (s : ByteArray) : Bool := decide (1 ≤ s.size) && decide (s.size ≤ 12) && okFrom s s.size 0

theorem name_Check_l (s : ByteArray) (hs : s.size ≤ 140737488351232) : ∀ d i : Nat, i + d = s.size → V.name_Check.l11010 s (i : Int) = some (if okFrom s d i then 0 else 2)
  | 0, i, h => by
    refine V.name_Check.l11010.of _ _ ?_
    unfold F.name_Check.l11010.B
    rw [if_out (by omega)]
    simp [okFrom]
  | d + 1, i, h => by
    refine V.name_Check.l11010.of _ _ ?_
    unfold F.name_Check.l11010.B
    rw [if_in (by omega), guard_in (by omega), name_fits_ok, Option.bind_some, w64_up (show i < s.size by omega) hs, name_Check_l s hs d (i + 1) (by omega)]
    cases hc : okc (byteAt s (i : Int)) <;> simp [okFrom, hc]
theorem name_Check_ok (s : ByteArray) (hs : s.size ≤ 140737488351232) : V.name_Check s = some (if nameB s then 0 else 2) := by
  refine V.name_Check.of _ ?_
  unfold F.name_Check.B
  rw [strEq_nil]
  have := name_Check_l s hs s.size 0 (by omega)
  rw [show (0 : Int) = ((0 : Nat) : Int) from rfl, this]
  by_cases h0 : s.size = 0
  · simp [Bool.cond_eq_ite, h0, nameB]
  · by_cases h2 : s.size ≤ 12
    · have h1 : 1 ≤ s.size := by omega
      have h3 : ¬ (s.size : Int) > 12 := by omega
      simp [Bool.cond_eq_ite, h0, h1, h2, h3, nameB]
    · have h3 : (s.size : Int) > 12 := by omega
      simp [Bool.cond_eq_ite, h0, h2, h3, nameB]

theorem refIs_l (s : ByteArray) (hs : s.size ≤ 140737488351232) : ∀ d i : Nat, i + d = s.size → V.pleachref05_Is.l1010 s (i : Int) = some (okFrom s d i && (decide (1 ≤ s.size) && decide (s.size ≤ 12)))
  | 0, i, h => by
    refine V.pleachref05_Is.l1010.of _ _ ?_
    unfold F.pleachref05_Is.l1010.B
    rw [if_out (by omega)]
    by_cases h1 : 1 ≤ s.size
    · have h2 : (s.size : Int) ≥ 1 := by omega
      simp [okFrom, h1, h2]
      omega
    · have h2 : ¬ (s.size : Int) ≥ 1 := by omega
      simp [okFrom, h1, h2]
  | d + 1, i, h => by
    refine V.pleachref05_Is.l1010.of _ _ ?_
    unfold F.pleachref05_Is.l1010.B
    rw [if_in (by omega)]
    simp only [guard_in (show i < s.size by omega), w64_up (show i < s.size by omega) hs, refIs_l s hs d (i + 1) (by omega), okFrom, okc]
    generalize byteAt s (i : Int) = c
    generalize okFrom s d (i + 1) = b
    by_cases a1 : c ≥ 97 <;> by_cases a2 : c ≤ 122 <;> by_cases a3 : c ≥ 48 <;> by_cases a4 : c ≤ 57 <;> by_cases a5 : c = 45 <;> simp [Bool.cond_eq_ite, a1, a2, a3, a4, a5] <;> omega
theorem refIs_ok (s : ByteArray) (hs : s.size ≤ 140737488351232) : V.pleachref05_Is s = some (nameB s) := by
  refine V.pleachref05_Is.of _ ?_
  unfold F.pleachref05_Is.B
  rw [show (0 : Int) = ((0 : Nat) : Int) from rfl, refIs_l s hs s.size 0 (by omega), nameB, Bool.and_comm]

def valueB (v : TValue) : Bool := (v.1 == 1 && (v.2.1 == 0 || v.2.1 == 1) && v.2.2.size == 0) || (v.1 == 2 && v.2.2.size == 0) || (v.1 == 3 && v.2.1 == 0 && decide (v.2.2.size ≤ 64))
theorem value_Check_ok (v : TValue) : V.value_Check v = some (if valueB v then 0 else 2) := by
  refine V.value_Check.of _ ?_
  obtain ⟨a, b, s⟩ := v
  unfold F.value_Check.B valueB
  simp only [strEq_nil]
  by_cases a1 : a = 1
  · subst a1
    by_cases b0 : b = 0 <;> by_cases b1 : b = 1 <;> by_cases s0 : s.size = 0 <;> simp [Bool.cond_eq_ite, b0, b1, s0]
  · by_cases a2 : a = 2
    · subst a2
      by_cases s0 : s.size = 0 <;> simp [Bool.cond_eq_ite, s0]
    · by_cases a3 : a = 3
      · subst a3
        by_cases b0 : b = 0 <;> by_cases s0 : s.size ≤ 64 <;> simp [Bool.cond_eq_ite, b0, s0] <;> omega
      · simp [Bool.cond_eq_ite, a1, a2, a3]
theorem refVIs_ok (v : TValue) : V.pleachref06_Is v = some (valueB v) := by
  refine V.pleachref06_Is.of _ ?_
  obtain ⟨a, b, s⟩ := v
  unfold F.pleachref06_Is.B valueB
  simp only [strEq_nil]
  by_cases a1 : a = 1
  · subst a1
    by_cases s0 : s.size = 0 <;> by_cases b0 : b ≥ 0 <;> by_cases b1 : b ≤ 1 <;> simp [Bool.cond_eq_ite, b0, b1, s0] <;> omega
  · by_cases a2 : a = 2
    · subst a2
      by_cases s0 : s.size = 0 <;> simp [Bool.cond_eq_ite, s0]
    · by_cases a3 : a = 3
      · subst a3
        by_cases b0 : b = 0 <;> by_cases s0 : s.size ≤ 64 <;> simp [Bool.cond_eq_ite, b0, s0] <;> omega
      · simp [Bool.cond_eq_ite, a1, a2, a3]

/-! ### Rows that rise -/

def okProps (l : List TProp) : Prop := l.length ≤ 140737488351232 ∧ ∀ p ∈ l, p.1.size ≤ 140737488351232 ∧ p.2.2.2.size ≤ 140737488351232 ∧ -9223372036854775808 ≤ p.2.2.1 ∧ p.2.2.1 ≤ 9223372036854775807
def okTexts (l : List ByteArray) : Prop := l.length ≤ 140737488351232 ∧ ∀ s ∈ l, s.size ≤ 140737488351232
def propStep (l : List TProp) (i : Nat) : Option Int :=
  if (nameB (rd sProp l i).1 && valueB (rd sProp l i).2) = false then some 2
  else if 0 < i ∧ strLt (rd sProp l (i - 1)).1 (rd sProp l i).1 = false then some 4 else none
def textStep (l : List ByteArray) (i : Nat) : Option Int :=
  if nameB (rd .str l i) = false then some 2
  else if 0 < i ∧ strLt (rd .str l (i - 1)) (rd .str l i) = false then some 4 else none
def propsN (l : List TProp) : Int := if l.length > 8 then 5 else scanI (propStep l) l.length 0
def rowN (l : List ByteArray) : Int := scanI (textStep l) l.length 0
def restN (labels : List ByteArray) (props : List TProp) : Int := if labels.length > 8 then 5 else if rowN labels = 0 then propsN props else rowN labels

theorem CheckProps_l (l : List TProp) (hl : okProps l) : ∀ d i : Nat, i + d = l.length → V.elem_CheckProps.l11010 l (i : Int) = some (scanI (propStep l) d i)
  | 0, i, h => by
    refine V.elem_CheckProps.l11010.of _ _ ?_
    unfold F.elem_CheckProps.l11010.B
    rw [if_out (by omega)]
    rfl
  | d + 1, i, h => by
    refine V.elem_CheckProps.l11010.of _ _ ?_
    unfold F.elem_CheckProps.l11010.B
    have hi : i < l.length := by omega
    rw [if_in hi, guard_in hi]
    simp only [nat_cast, name_Check_ok _ (hl.2 _ (rd_mem (e := sProp) hi)).1, Option.bind_some, value_Check_ok, w64_up hi hl.1, CheckProps_l l hl d (i + 1) (by omega)]
    rw [scanI_succ]
    unfold propStep
    cases hn : nameB (rd sProp l i).1 with
    | false => simp
    | true =>
      cases hv : valueB (rd sProp l i).2 with
      | false => simp [hv]
      | true =>
        by_cases h0 : 0 < i
        · rw [w64_dn hi hl.1 h0, guard_in (show i - 1 < l.length by omega), nat_cast]
          cases hless : strLt (rd sProp l (i - 1)).1 (rd sProp l i).1 <;> simp [hless, hv, h0]
        · have h0 : i = 0 := by omega
          subst h0
          simp [hv]
theorem CheckProps_ok (l : List TProp) (hl : okProps l) : V.elem_CheckProps l = some (propsN l) := by
  refine V.elem_CheckProps.of _ ?_
  unfold F.elem_CheckProps.B propsN
  have := CheckProps_l l hl l.length 0 (by omega)
  rw [show (0 : Int) = ((0 : Nat) : Int) from rfl, this]
  by_cases h : l.length > 8
  · rw [if_yes (by omega), if_pos h]
  · rw [if_no (by omega), if_neg h]
theorem refProps_l (l : List TProp) (hl : okProps l) : ∀ d i : Nat, i + d = l.length → V.pleachref25_Props.l11010 l (i : Int) = some (scanI (propStep l) d i)
  | 0, i, h => by
    refine V.pleachref25_Props.l11010.of _ _ ?_
    unfold F.pleachref25_Props.l11010.B
    rw [if_out (by omega)]
    rfl
  | d + 1, i, h => by
    refine V.pleachref25_Props.l11010.of _ _ ?_
    unfold F.pleachref25_Props.l11010.B
    have hi : i < l.length := by omega
    rw [if_in hi, guard_in hi]
    simp only [nat_cast, refIs_ok _ (hl.2 _ (rd_mem (e := sProp) hi)).1, Option.bind_some, refVIs_ok, w64_up hi hl.1, refProps_l l hl d (i + 1) (by omega), guard_in hi, lt_or]
    rw [scanI_succ]
    unfold propStep
    cases hn : nameB (rd sProp l i).1 with
    | false => simp
    | true =>
      cases hv : valueB (rd sProp l i).2 with
      | false => simp [hv]
      | true =>
        by_cases h0 : 0 < i
        · rw [w64_dn hi hl.1 h0, guard_in (show i - 1 < l.length by omega), nat_cast]
          cases hless : strLt (rd sProp l (i - 1)).1 (rd sProp l i).1 <;> simp [hless, hv, h0]
        · have h0 : i = 0 := by omega
          subst h0
          simp [hv]
theorem refProps_ok (l : List TProp) (hl : okProps l) : V.pleachref25_Props l = some (propsN l) := by
  refine V.pleachref25_Props.of _ ?_
  unfold F.pleachref25_Props.B propsN
  have := refProps_l l hl l.length 0 (by omega)
  rw [show (0 : Int) = ((0 : Nat) : Int) from rfl, this]
  by_cases h : l.length > 8
  · rw [if_yes (by omega), if_pos h]
  · rw [if_no (by omega), if_neg h]

theorem Row_l (l : List ByteArray) (hl : okTexts l) : ∀ d i : Nat, i + d = l.length → V.name_Row.l1010 l (i : Int) = some (scanI (textStep l) d i)
  | 0, i, h => by
    refine V.name_Row.l1010.of _ _ ?_
    unfold F.name_Row.l1010.B
    rw [if_out (by omega)]
    rfl
  | d + 1, i, h => by
    refine V.name_Row.l1010.of _ _ ?_
    unfold F.name_Row.l1010.B
    have hi : i < l.length := by omega
    rw [if_in hi, guard_in hi]
    simp only [nat_cast, name_Check_ok _ (hl.2 _ (rd_mem (e := .str) hi)), Option.bind_some, w64_up hi hl.1, Row_l l hl d (i + 1) (by omega)]
    rw [scanI_succ]
    unfold textStep
    cases hn : nameB (rd .str l i) with
    | false => simp
    | true =>
      by_cases h0 : 0 < i
      · rw [w64_dn hi hl.1 h0, guard_in (show i - 1 < l.length by omega), nat_cast]
        cases hless : strLt (rd .str l (i - 1)) (rd .str l i) <;> simp [hless, h0]
      · have h0 : i = 0 := by omega
        subst h0
        simp
theorem Row_ok (l : List ByteArray) (hl : okTexts l) : V.name_Row l = some (rowN l) := by
  refine V.name_Row.of _ ?_
  unfold F.name_Row.B rowN
  exact Row_l l hl l.length 0 (by omega)
theorem refRow_l (l : List ByteArray) (hl : okTexts l) : ∀ d i : Nat, i + d = l.length → V.pleachref05_Row.l1010 l (i : Int) = some (scanI (textStep l) d i)
  | 0, i, h => by
    refine V.pleachref05_Row.l1010.of _ _ ?_
    unfold F.pleachref05_Row.l1010.B
    rw [if_out (by omega)]
    rfl
  | d + 1, i, h => by
    refine V.pleachref05_Row.l1010.of _ _ ?_
    unfold F.pleachref05_Row.l1010.B
    have hi : i < l.length := by omega
    rw [if_in hi, guard_in hi]
    simp only [nat_cast, refIs_ok _ (hl.2 _ (rd_mem (e := .str) hi)), Option.bind_some, w64_up hi hl.1, refRow_l l hl d (i + 1) (by omega), guard_in hi, lt_or]
    rw [scanI_succ]
    unfold textStep
    cases hn : nameB (rd .str l i) with
    | false => simp
    | true =>
      by_cases h0 : 0 < i
      · rw [w64_dn hi hl.1 h0, guard_in (show i - 1 < l.length by omega), nat_cast]
        cases hless : strLt (rd .str l (i - 1)) (rd .str l i) <;> simp [hless, h0]
      · have h0 : i = 0 := by omega
        subst h0
        simp
theorem refRow_ok (l : List ByteArray) (hl : okTexts l) : V.pleachref05_Row l = some (rowN l) := by
  refine V.pleachref05_Row.of _ ?_
  unfold F.pleachref05_Row.B rowN
  exact refRow_l l hl l.length 0 (by omega)
theorem rest_ok (a : List ByteArray) (l : List TProp) (ha : okTexts a) (hl : okProps l) : V.elem_rest a l = some (restN a l) := by
  refine V.elem_rest.of _ _ ?_
  unfold F.elem_rest.B restN
  rw [Row_ok a ha, CheckProps_ok l hl]
  by_cases h : a.length > 8
  · rw [if_yes (by omega), if_pos h]
  · rw [if_no (by omega), if_neg h]
    by_cases h0 : rowN a = 0 <;> simp [Bool.cond_eq_ite, h0]
theorem refRest_ok (a : List ByteArray) (l : List TProp) (ha : okTexts a) (hl : okProps l) : V.pleachref25_rest a l = some (restN a l) := by
  refine V.pleachref25_rest.of _ _ ?_
  unfold F.pleachref25_rest.B restN
  rw [refRow_ok a ha, refProps_ok l hl]
  by_cases h : a.length > 8
  · rw [if_yes (by omega), if_pos h]
  · rw [if_no (by omega), if_neg h]
    by_cases h0 : rowN a = 0 <;> simp [Bool.cond_eq_ite, h0]
end Go.Proofs.YtdblhdpnllckhaaGreat.AE
end
section
set_option linter.unusedVariables false
set_option linter.unusedSimpArgs false
namespace Go.Proofs.YtdblhdpnllckhaaGreat.AE
open Go

theorem scanI_zero {step : Nat → Option Int} (hs : ∀ i r, step i = some r → r ≠ 0) : ∀ d i, scanI step d i = 0 → ∀ j, i ≤ j → j < i + d → step j = none
  | 0, i, _, j, h1, h2 => by omega
  | d + 1, i, h, j, h1, h2 => by
    rw [scanI_succ] at h
    cases hq : step i with
    | some r => rw [hq] at h; exact absurd h (hs i r hq)
    | none =>
      rw [hq] at h
      by_cases hij : j = i
      · rw [hij]; exact hq
      · exact scanI_zero hs d (i + 1) h j (by omega) (by omega)
theorem scanI_none {step : Nat → Option Int} : ∀ d i, (∀ j, i ≤ j → j < i + d → step j = none) → scanI step d i = 0
  | 0, i, _ => rfl
  | d + 1, i, h => by
    rw [scanI_succ, h i (by omega) (by omega)]
    exact scanI_none d (i + 1) (fun j h1 h2 => h j (by omega) (by omega))
theorem propStep_ne (l : List TProp) (i : Nat) (r : Int) (h : propStep l i = some r) : r ≠ 0 := by
  unfold propStep at h
  split at h
  · injection h with h; omega
  · split at h
    · injection h with h; omega
    · cases h
theorem textStep_ne (l : List ByteArray) (i : Nat) (r : Int) (h : textStep l i = some r) : r ≠ 0 := by
  unfold textStep at h
  split at h
  · injection h with h; omega
  · split at h
    · injection h with h; omega
    · cases h
theorem nameB_size {s : ByteArray} (h : nameB s = true) : 1 ≤ s.size ∧ s.size ≤ 12 := by
  unfold nameB at h
  simp at h
  exact ⟨h.1.1, h.1.2⟩
theorem textStep_none {l : List ByteArray} {i : Nat} (h : textStep l i = none) : nameB (rd .str l i) = true ∧ (0 < i → strLt (rd .str l (i - 1)) (rd .str l i) = true) := by
  unfold textStep at h
  split at h
  · cases h
  · rename_i h1
    split at h
    · cases h
    · rename_i h2
      refine ⟨by simpa using h1, fun h0 => ?_⟩
      cases hq : strLt (rd .str l (i - 1)) (rd .str l i) with
      | true => rfl
      | false => exact absurd ⟨h0, hq⟩ h2
theorem propStep_none {l : List TProp} {i : Nat} (h : propStep l i = none) : nameB (rd sProp l i).1 = true ∧ valueB (rd sProp l i).2 = true ∧ (0 < i → strLt (rd sProp l (i - 1)).1 (rd sProp l i).1 = true) := by
  unfold propStep at h
  split at h
  · cases h
  · rename_i h1
    split at h
    · cases h
    · rename_i h2
      have h3 : nameB (rd sProp l i).1 = true ∧ valueB (rd sProp l i).2 = true := by simpa using h1
      refine ⟨h3.1, h3.2, fun h0 => ?_⟩
      cases hq : strLt (rd sProp l (i - 1)).1 (rd sProp l i).1 with
      | true => rfl
      | false => exact absurd ⟨h0, hq⟩ h2
/-- What a row of names, of properties that may be is. -/
theorem rowN_zero {l : List ByteArray} (h : rowN l = 0) {i : Nat} (hi : i < l.length) : nameB (rd .str l i) = true ∧ (0 < i → strLt (rd .str l (i - 1)) (rd .str l i) = true) :=
  textStep_none (scanI_zero (textStep_ne l) l.length 0 h i (by omega) (by omega))
theorem propsN_len {l : List TProp} (h : propsN l = 0) : l.length ≤ 8 := by
  unfold propsN at h
  split at h
  · omega
  · omega
theorem propsN_zero {l : List TProp} (h : propsN l = 0) {i : Nat} (hi : i < l.length) : nameB (rd sProp l i).1 = true ∧ valueB (rd sProp l i).2 = true ∧ (0 < i → strLt (rd sProp l (i - 1)).1 (rd sProp l i).1 = true) := by
  have h8 := propsN_len h
  unfold propsN at h
  rw [if_neg (by omega)] at h
  exact propStep_none (scanI_zero (propStep_ne l) l.length 0 h i (by omega) (by omega))
theorem restN_zero {a : List ByteArray} {l : List TProp} (h : restN a l = 0) : a.length ≤ 8 ∧ rowN a = 0 ∧ propsN l = 0 := by
  unfold restN at h
  split at h
  · omega
  · split at h
    · rename_i h1 h2
      exact ⟨by omega, h2, h⟩
    · rename_i h1 h2
      exact absurd h h2

/-- Labels and properties are as few and short as they may be. -/
structure Short (a : List ByteArray) (l : List TProp) : Prop where
  na : a.length ≤ 8
  nl : l.length ≤ 8
  ta : ∀ i, i < a.length → (rd .str a i).size ≤ 12
  tl : ∀ i, i < l.length → (rd sProp l i).1.size ≤ 12
theorem Short.of {a : List ByteArray} {l : List TProp} (h : restN a l = 0) : Short a l := by
  obtain ⟨h1, h2, h3⟩ := restN_zero h
  exact ⟨h1, propsN_len h3, fun i hi => (nameB_size (rowN_zero h2 hi).1).2, fun i hi => (nameB_size (propsN_zero h3 hi).1).2⟩
structure okNode (n : TNode) : Prop where
  id : n.1.size ≤ 140737488351232
  la : okTexts n.2.1
  pr : okProps n.2.2
structure okEdge (x : TEdge) : Prop where
  id : x.1.size ≤ 140737488351232
  fr : x.2.1.size ≤ 140737488351232
  to : x.2.2.1.size ≤ 140737488351232
  la : okTexts x.2.2.2.1
  pr : okProps x.2.2.2.2
def nodeN (n : TNode) : Int := if nameB n.1 then restN n.2.1 n.2.2 else 2
def edgeN (x : TEdge) : Int := if nameB x.1 && nameB x.2.1 && nameB x.2.2.1 then restN x.2.2.2.1 x.2.2.2.2 else 2
theorem CheckNode_ok (n : TNode) (h : okNode n) : V.elem_CheckNode n = some (nodeN n) := by
  refine V.elem_CheckNode.of _ ?_
  unfold F.elem_CheckNode.B nodeN
  rw [name_Check_ok _ h.id, Option.bind_some, rest_ok _ _ h.la h.pr]
  cases nameB n.1 <;> simp
theorem refNode_ok (n : TNode) (h : okNode n) : V.pleachref25_Node n = some (nodeN n) := by
  refine V.pleachref25_Node.of _ ?_
  unfold F.pleachref25_Node.B nodeN
  rw [refIs_ok _ h.id, Option.bind_some, refRest_ok _ _ h.la h.pr]
  cases nameB n.1 <;> simp
theorem CheckEdge_ok (x : TEdge) (h : okEdge x) : V.elem_CheckEdge x = some (edgeN x) := by
  have e3 : V.elem_CheckEdge.l1010 x 3 = some (restN x.2.2.2.1 x.2.2.2.2) := by
    refine V.elem_CheckEdge.l1010.of _ _ ?_
    unfold F.elem_CheckEdge.l1010.B
    rw [rest_ok _ _ h.la h.pr]
    simp
  have e2 : V.elem_CheckEdge.l1010 x 2 = some (if nameB x.2.2.1 then restN x.2.2.2.1 x.2.2.2.2 else 2) := by
    refine V.elem_CheckEdge.l1010.of _ _ ?_
    unfold F.elem_CheckEdge.l1010.B
    rw [w64_id (by omega) (by omega), show (2 : Int) + 1 = 3 from rfl, e3, name_Check_ok _ h.to]
    cases nameB x.2.2.1 <;> simp
  have e1 : V.elem_CheckEdge.l1010 x 1 = some (if nameB x.2.1 && nameB x.2.2.1 then restN x.2.2.2.1 x.2.2.2.2 else 2) := by
    refine V.elem_CheckEdge.l1010.of _ _ ?_
    unfold F.elem_CheckEdge.l1010.B
    rw [w64_id (by omega) (by omega), show (1 : Int) + 1 = 2 from rfl, e2, name_Check_ok _ h.fr]
    cases nameB x.2.1 <;> simp
  have e0 : V.elem_CheckEdge.l1010 x 0 = some (edgeN x) := by
    refine V.elem_CheckEdge.l1010.of _ _ ?_
    unfold F.elem_CheckEdge.l1010.B edgeN
    rw [w64_id (by omega) (by omega), show (0 : Int) + 1 = 1 from rfl, e1, name_Check_ok _ h.id]
    cases nameB x.1 <;> simp
  refine V.elem_CheckEdge.of _ ?_
  unfold F.elem_CheckEdge.B
  exact e0
theorem refEdge_ok (x : TEdge) (h : okEdge x) : V.pleachref25_Edge x = some (edgeN x) := by
  refine V.pleachref25_Edge.of _ ?_
  unfold F.pleachref25_Edge.B edgeN
  rw [refIs_ok _ h.id, Option.bind_some, refIs_ok _ h.fr, refIs_ok _ h.to, refRest_ok _ _ h.la h.pr]
  cases nameB x.1 <;> cases nameB x.2.1 <;> cases nameB x.2.2.1 <;> simp

end Go.Proofs.YtdblhdpnllckhaaGreat.AE
end
section
set_option linter.unusedVariables false
set_option linter.unusedSimpArgs false
namespace Go.Proofs.YtdblhdpnllckhaaGreat.AE
open Go

instance decValue : DecidableEq TValue := instDecidableEqProd
instance decProp : DecidableEq TProp := instDecidableEqProd
instance decNode : DecidableEq TNode := instDecidableEqProd
instance decEdge1 : DecidableEq (ByteArray × TNode) := instDecidableEqProd
instance decEdge : DecidableEq TEdge := instDecidableEqProd
instance decGraph : DecidableEq TGraph := instDecidableEqProd
/-- Two rows from a place on. -/
theorem drop_eq {α : Type} [DecidableEq α] {a b : List α} {i : Nat} (ha : i < a.length) (hb : i < b.length) : decide (a.drop i = b.drop i) = (decide (a[i] = b[i]) && decide (a.drop (i + 1) = b.drop (i + 1))) := by
  rw [List.drop_eq_getElem_cons ha, List.drop_eq_getElem_cons hb]
  rw [Bool.eq_iff_iff]
  simp only [decide_eq_true_eq, Bool.and_eq_true, List.cons.injEq]
theorem prop_eq (p q : TProp) : ((strEq p.1 q.1) && ((((p.2).1 == (q.2).1) && ((((p.2).2).1 == ((q.2).2).1) && ((strEq ((p.2).2).2 ((q.2).2).2) && true))) && true)) = decide (p = q) := by
  obtain ⟨a, b, c, d⟩ := p
  obtain ⟨a', b', c', d'⟩ := q
  simp only [strEq_dec, Prod.mk.injEq, Bool.and_true]
  rw [Bool.eq_iff_iff]
  simp
theorem SameTexts_l (a b : List ByteArray) (hl : a.length = b.length) (ha : a.length ≤ 140737488351232) : ∀ d i : Nat, i + d = a.length → V.pleachref25_SameTexts.l11010 a b (i : Int) = some (decide (a.drop i = b.drop i))
  | 0, i, h => by
    refine V.pleachref25_SameTexts.l11010.of _ _ _ ?_
    unfold F.pleachref25_SameTexts.l11010.B
    rw [if_out (by omega), List.drop_eq_nil_of_le (by omega), List.drop_eq_nil_of_le (by omega)]
    simp
  | d + 1, i, h => by
    refine V.pleachref25_SameTexts.l11010.of _ _ _ ?_
    unfold F.pleachref25_SameTexts.l11010.B
    have h1 : i < a.length := by omega
    have h2 : i < b.length := by omega
    rw [if_in h1, guard_in h1, guard_in h2, nat_cast, w64_up h1 ha, SameTexts_l a b hl ha d (i + 1) (by omega), rd_get (e := .str) h1, rd_get (e := .str) h2, strEq_dec, drop_eq h1 h2]
    by_cases hq : a[i] = b[i] <;> simp [hq]
theorem SameTexts_ok (a b : List ByteArray) (ha : a.length ≤ 140737488351232) : V.pleachref25_SameTexts a b = some (decide (a = b)) := by
  refine V.pleachref25_SameTexts.of _ _ ?_
  unfold F.pleachref25_SameTexts.B
  by_cases hl : a.length = b.length
  · have := SameTexts_l a b hl ha a.length 0 (by omega)
    rw [show (0 : Int) = ((0 : Nat) : Int) from rfl, this, hl]
    simp
  · rw [show ((a.length : Int) != (b.length : Int)) = true by simp; omega, cond_true]
    simp only [Option.some.injEq]
    symm
    simp only [decide_eq_false_iff_not]
    intro h; rw [h] at hl; exact hl rfl
theorem SameProps_l (a b : List TProp) (hl : a.length = b.length) (ha : a.length ≤ 140737488351232) : ∀ d i : Nat, i + d = a.length → V.pleachref25_SameProps.l11010 a b (i : Int) = some (decide (a.drop i = b.drop i))
  | 0, i, h => by
    refine V.pleachref25_SameProps.l11010.of _ _ _ ?_
    unfold F.pleachref25_SameProps.l11010.B
    rw [if_out (by omega), List.drop_eq_nil_of_le (by omega), List.drop_eq_nil_of_le (by omega)]
    simp
  | d + 1, i, h => by
    refine V.pleachref25_SameProps.l11010.of _ _ _ ?_
    unfold F.pleachref25_SameProps.l11010.B
    have h1 : i < a.length := by omega
    have h2 : i < b.length := by omega
    rw [if_in h1, guard_in h1, guard_in h2, nat_cast, w64_up h1 ha, SameProps_l a b hl ha d (i + 1) (by omega), prop_eq, rd_get (e := sProp) h1, rd_get (e := sProp) h2, drop_eq h1 h2]
    by_cases hq : a[i] = b[i] <;> simp [hq]
theorem SameProps_ok (a b : List TProp) (ha : a.length ≤ 140737488351232) : V.pleachref25_SameProps a b = some (decide (a = b)) := by
  refine V.pleachref25_SameProps.of _ _ ?_
  unfold F.pleachref25_SameProps.B
  by_cases hl : a.length = b.length
  · have := SameProps_l a b hl ha a.length 0 (by omega)
    rw [show (0 : Int) = ((0 : Nat) : Int) from rfl, this, hl]
    simp
  · rw [show ((a.length : Int) != (b.length : Int)) = true by simp; omega, cond_true]
    simp only [Option.some.injEq]
    symm
    simp only [decide_eq_false_iff_not]
    intro h; rw [h] at hl; exact hl rfl
theorem SameNode_ok (a b : TNode) (h1 : a.2.1.length ≤ 140737488351232) (h2 : a.2.2.length ≤ 140737488351232) : V.pleachref25_SameNode a b = some (decide (a = b)) := by
  refine V.pleachref25_SameNode.of _ _ ?_
  unfold F.pleachref25_SameNode.B
  obtain ⟨i, x, y⟩ := a
  obtain ⟨i', x', y'⟩ := b
  rw [SameTexts_ok _ _ h1, SameProps_ok _ _ h2, strEq_dec]
  simp only [Prod.mk.injEq, Option.bind_some]
  by_cases e1 : i = i' <;> by_cases e2 : x = x' <;> by_cases e3 : y = y' <;> simp [e1, e2, e3]
theorem SameEdge_ok (a b : TEdge) (h1 : a.2.2.2.1.length ≤ 140737488351232) (h2 : a.2.2.2.2.length ≤ 140737488351232) : V.pleachref25_SameEdge a b = some (decide (a = b)) := by
  refine V.pleachref25_SameEdge.of _ _ ?_
  unfold F.pleachref25_SameEdge.B
  obtain ⟨i, f, t, x, y⟩ := a
  obtain ⟨i', f', t', x', y'⟩ := b
  rw [SameTexts_ok _ _ h1, SameProps_ok _ _ h2, strEq_dec, strEq_dec, strEq_dec]
  simp only [Prod.mk.injEq, Option.bind_some]
  by_cases e1 : i = i' <;> by_cases e4 : f = f' <;> by_cases e5 : t = t' <;> by_cases e2 : x = x' <;> by_cases e3 : y = y' <;> simp [e1, e2, e3, e4, e5]
/-- As many parts as fit. -/
structure Fits (g : TGraph) : Prop where
  ns : g.1.length ≤ 140737488351232
  es : g.2.length ≤ 140737488351232
  n : ∀ n ∈ g.1, n.2.1.length ≤ 140737488351232 ∧ n.2.2.length ≤ 140737488351232
  e : ∀ x ∈ g.2, x.2.2.2.1.length ≤ 140737488351232 ∧ x.2.2.2.2.length ≤ 140737488351232
theorem Same_l1 (a b : TGraph) (hf : Fits a) (hl : a.2.length = b.2.length) : ∀ d i : Nat, i + d = a.2.length → V.pleachref26_Same.l111010 a b (i : Int) = some (decide (a.2.drop i = b.2.drop i))
  | 0, i, h => by
    refine V.pleachref26_Same.l111010.of _ _ _ ?_
    unfold F.pleachref26_Same.l111010.B
    rw [if_out (by omega), List.drop_eq_nil_of_le (by omega), List.drop_eq_nil_of_le (by omega)]
    simp
  | d + 1, i, h => by
    refine V.pleachref26_Same.l111010.of _ _ _ ?_
    unfold F.pleachref26_Same.l111010.B
    have h1 : i < a.2.length := by omega
    have h2 : i < b.2.length := by omega
    have he := hf.e _ (rd_mem (e := sEdge) h1)
    rw [if_in h1, guard_in h1, guard_in h2, nat_cast, w64_up h1 hf.es, Same_l1 a b hf hl d (i + 1) (by omega), SameEdge_ok _ _ he.1 he.2, Option.bind_some]
    rw [rd_get (e := sEdge) h1, rd_get (e := sEdge) h2, drop_eq h1 h2]
    by_cases hq : a.2[i] = b.2[i] <;> simp [hq]
theorem Same_l0 (a b : TGraph) (hf : Fits a) (hl : a.1.length = b.1.length) (hl2 : a.2.length = b.2.length) : ∀ d i : Nat, i + d = a.1.length → V.pleachref26_Same.l11010 a b (i : Int) = some (decide (a.1.drop i = b.1.drop i) && decide (a.2 = b.2))
  | 0, i, h => by
    refine V.pleachref26_Same.l11010.of _ _ _ ?_
    unfold F.pleachref26_Same.l11010.B
    have := Same_l1 a b hf hl2 a.2.length 0 (by omega)
    rw [if_out (by omega), List.drop_eq_nil_of_le (by omega), List.drop_eq_nil_of_le (by omega), show (0 : Int) = ((0 : Nat) : Int) from rfl, this]
    simp
  | d + 1, i, h => by
    refine V.pleachref26_Same.l11010.of _ _ _ ?_
    unfold F.pleachref26_Same.l11010.B
    have h1 : i < a.1.length := by omega
    have h2 : i < b.1.length := by omega
    have he := hf.n _ (rd_mem (e := sNode) h1)
    rw [if_in h1, guard_in h1, guard_in h2, nat_cast, w64_up h1 hf.ns, Same_l0 a b hf hl hl2 d (i + 1) (by omega), SameNode_ok _ _ he.1 he.2, Option.bind_some]
    rw [rd_get (e := sNode) h1, rd_get (e := sNode) h2, drop_eq h1 h2]
    by_cases hq : a.1[i] = b.1[i] <;> simp [hq]
theorem Same_ok (a b : TGraph) (hf : Fits a) : V.pleachref26_Same a b = some (decide (a = b)) := by
  refine V.pleachref26_Same.of _ _ ?_
  unfold F.pleachref26_Same.B
  by_cases h1 : a.1.length = b.1.length
  · by_cases h2 : a.2.length = b.2.length
    · have := Same_l0 a b hf h1 h2 a.1.length 0 (by omega)
      rw [show (0 : Int) = ((0 : Nat) : Int) from rfl, this, h1, h2]
      obtain ⟨x, y⟩ := a
      obtain ⟨x', y'⟩ := b
      simp
    · rw [show ((a.2.length : Int) != (b.2.length : Int)) = true by simp; omega, h1]
      simp
      intro h; rw [h] at h2; exact h2 rfl
  · rw [show ((a.1.length : Int) != (b.1.length : Int)) = true by simp; omega, cond_true]
    simp
    intro h; rw [h] at h1; exact h1 rfl
end Go.Proofs.YtdblhdpnllckhaaGreat.AE
end
section
set_option linter.unusedVariables false
set_option linter.unusedSimpArgs false
set_option maxRecDepth 20000
namespace Go.Proofs.YtdblhdpnllckhaaGreat.AE
open Go

theorem half_nat {lo hi n : Nat} (h : lo < hi) (hn : hi ≤ n) (hb : n ≤ 70368744177616) : w64 (Int.fdiv (IntKind.wrap .u64 (w64 ((lo : Int) + (hi : Int)))) (2 ^ 1)) = (((lo + hi) / 2 : Nat) : Int) := by
  rw [w64_id (x := (lo : Int) + hi) (by omega) (by omega), u64_id (by omega) (by omega), Int.fdiv_eq_ediv_of_nonneg _ (by omega), w64_id (by omega) (by omega)]
  omega

/-- Texts that rise. -/
def Up (ks : List ByteArray) : Prop := ks.Pairwise fun a b => strLt a b = true
/-- How many of them stand ahead of one. -/
def lb (ks : List ByteArray) (x : ByteArray) : Nat := ks.findIdx fun k => !strLt k x

theorem Up.lt {ks : List ByteArray} (hu : Up ks) {i j : Nat} (h : i < j) (hj : j < ks.length) : strLt (ks[i]'(by omega)) ks[j] = true := List.pairwise_iff_getElem.1 hu i j (by omega) hj h
theorem lb_le (ks : List ByteArray) (x : ByteArray) : lb ks x ≤ ks.length := List.findIdx_le_length
theorem lb_lt {ks : List ByteArray} (hu : Up ks) (x : ByteArray) {i : Nat} (hi : i < ks.length) : strLt ks[i] x = true ↔ i < lb ks x := by
  constructor
  · intro h
    refine Nat.lt_of_not_le fun hle => ?_
    have h1 : lb ks x < ks.length := by omega
    have h2 : (!strLt ks[lb ks x] x) = true := List.findIdx_getElem (w := h1)
    rcases Nat.eq_or_lt_of_le hle with e | e
    · have : strLt ks[lb ks x] x = true := by simp only [e]; exact h
      rw [this] at h2; cases h2
    · have := lt_trans (hu.lt e hi) h
      rw [this] at h2; cases h2
  · intro h
    have := List.not_of_lt_findIdx h
    simpa using this
/-- One of rising texts is met where as many as stand ahead of it have gone by. -/
theorem met_iff {ks : List ByteArray} (hu : Up ks) (x : ByteArray) : x ∈ ks ↔ ∃ h : lb ks x < ks.length, ks[lb ks x] = x := by
  constructor
  · intro h
    obtain ⟨i, hi, e⟩ := List.getElem_of_mem h
    have h1 : ¬ i < lb ks x := fun g => by
      have := (lb_lt hu x hi).2 g
      rw [e, lt_irr] at this; cases this
    have h2 : ¬ lb ks x < i := fun g => by
      have := hu.lt g hi
      rw [e] at this
      have := (lb_lt hu x (by omega)).1 this
      omega
    have h3 : lb ks x = i := by omega
    exact ⟨by omega, by simp only [h3]; exact e⟩
  · rintro ⟨h, e⟩
    exact e ▸ List.getElem_mem h

def has (ks : List ByteArray) (x : ByteArray) : Bool := ks.any fun k => strEq k x
theorem has_iff {ks : List ByteArray} {x : ByteArray} : has ks x = true ↔ x ∈ ks := by
  unfold has
  rw [List.any_eq_true]
  exact ⟨fun ⟨k, h, e⟩ => strEq_iff.1 e ▸ h, fun h => ⟨x, h, strEq_self x⟩⟩

theorem search_gen {ks : List ByteArray} {x : ByteArray} (hu : Up ks) (S : Int → Int → Option (Int × Bool))
    (h1 : ∀ (lo hi : Nat) r, (h : lo < hi) → (hh : hi ≤ ks.length) → (if strLt (ks[(lo + hi) / 2]'(by omega)) x = true then S (((lo + hi) / 2 + 1 : Nat) : Int) (hi : Int) else S (lo : Int) (((lo + hi) / 2 : Nat) : Int)) = some r → S (lo : Int) (hi : Int) = some r)
    (h2 : ∀ lo : Nat, lo ≤ ks.length → S (lo : Int) (lo : Int) = some ((lo : Int), decide (ks[lo]? = some x))) :
    S 0 (ks.length : Int) = some ((lb ks x : Int), has ks x) := by
  have main : ∀ d lo hi : Nat, hi - lo ≤ d → lo ≤ lb ks x → lb ks x ≤ hi → hi ≤ ks.length → S (lo : Int) (hi : Int) = some ((lb ks x : Int), has ks x) := by
    intro d
    induction d with
    | zero =>
      intro lo hi h a b c
      have e1 : lo = lb ks x := by omega
      have e2 : hi = lb ks x := by omega
      subst e1; rw [e2]
      rw [h2 _ (lb_le ks x)]
      congr 2
      rw [Bool.eq_iff_iff, decide_eq_true_iff, has_iff, met_iff hu x, List.getElem?_eq_some_iff]
    | succ d ih =>
      intro lo hi h a b c
      rcases Nat.lt_or_ge lo hi with hl | hl
      · refine h1 lo hi _ hl c ?_
        split
        · rename_i g
          exact ih _ _ (by omega) ((lb_lt hu x (by omega)).1 g) b c
        · rename_i g
          exact ih _ _ (by omega) a (by have := mt (lb_lt hu x (by omega)).2 g; omega) (by omega)
      · exact ih lo hi (by omega) a b c
  exact main ks.length 0 ks.length (by omega) (by omega) (lb_le ks x) (Nat.le_refl _)

theorem cmpCompareS_ok (a b : ByteArray) : V.cmp_Compare_string a b = some (cmpS a b) := by
  have nan : ∀ x : ByteArray, V.cmp_isNaN_string x = some false := fun x => V.cmp_isNaN_string.of x (by unfold F.cmp_isNaN_string.B; rw [strEq_self]; rfl)
  refine V.cmp_Compare_string.of a b ?_
  unfold F.cmp_Compare_string.B cmpS
  rw [nan, nan, Option.bind_some, Option.bind_some, lt_or]
  cases strLt a b <;> cases strLt b a <;> rfl
theorem cmpS_neg (a b : ByteArray) : decide (cmpS a b < 0) = strLt a b := by
  unfold cmpS
  cases strLt a b <;> cases strLt b a <;> rfl
theorem cmpS_zero (a b : ByteArray) : (cmpS a b == 0) = decide (a = b) := by
  by_cases h : a = b
  · subst h; simp [cmpS, lt_irr]
  · unfold cmpS
    cases h1 : strLt a b with
    | true => simp [h]
    | false => simp [lt_total h1 h, h]

abbrev ids (l : List TNode) : List ByteArray := l.map fun n => n.1
abbrev eids (l : List TEdge) : List ByteArray := l.map fun x => x.1
theorem ids_get {l : List TNode} {i : Nat} (h : i < l.length) : (rd sNode l i).1 = (ids l)[i]'(by simpa using h) := by rw [rd_get (e := sNode) h, List.getElem_map]
theorem eids_get {l : List TEdge} {i : Nat} (h : i < l.length) : (rd sEdge l i).1 = (eids l)[i]'(by simpa using h) := by rw [rd_get (e := sEdge) h, List.getElem_map]

end Go.Proofs.YtdblhdpnllckhaaGreat.AE
end
section
set_option linter.unusedVariables false
set_option linter.unusedSimpArgs false
set_option maxRecDepth 20000
namespace Go.Proofs.YtdblhdpnllckhaaGreat.AE
open Go

theorem node1_ok (n : TNode) (x : ByteArray) : V.graph_node_1 n x = some (cmpS n.1 x) := by
  refine V.graph_node_1.of _ _ ?_
  unfold F.graph_node_1.B
  rw [cmpCompareS_ok, Option.bind_some]
theorem edge1_ok (n : TEdge) (x : ByteArray) : V.graph_edge_1 n x = some (cmpS n.1 x) := by
  refine V.graph_edge_1.of _ _ ?_
  unfold F.graph_edge_1.B
  rw [cmpCompareS_ok, Option.bind_some]

theorem searchN_ok (l : List TNode) (x : ByteArray) (hu : Up (ids l)) (hb : l.length ≤ 70368744177616) : V.slices_BinarySearchFunc_apiNodeapiNodestring_by_graph_node_1 l x = some ((lb (ids l) x : Int), has (ids l) x) := by
  refine V.slices_BinarySearchFunc_apiNodeapiNodestring_by_graph_node_1.of _ _ ?_
  unfold F.slices_BinarySearchFunc_apiNodeapiNodestring_by_graph_node_1.B
  have hl : (ids l).length = l.length := by simp
  rw [show (l.length : Int) = ((ids l).length : Int) by simp]
  refine search_gen hu (V.slices_BinarySearchFunc_apiNodeapiNodestring_by_graph_node_1.l11100 l x) (fun lo hi r h hh hr => ?_) (fun lo hlo => ?_)
  · refine V.slices_BinarySearchFunc_apiNodeapiNodestring_by_graph_node_1.l11100.of _ _ _ _ ?_
    unfold F.slices_BinarySearchFunc_apiNodeapiNodestring_by_graph_node_1.l11100.B
    rw [if_in h, half_nat h (by omega) hb, guard_in (by omega), nat_cast, node1_ok, Option.bind_some, cmpS_neg, w64_up (n := l.length) (by omega) (by omega)]
    show (bif strLt (rd sNode l ((lo + hi) / 2)).1 x then _ else _) = _
    rw [ids_get (by omega), ← hr]
    cases strLt ((ids l)[(lo + hi) / 2]'(by omega)) x <;> rfl
  · refine V.slices_BinarySearchFunc_apiNodeapiNodestring_by_graph_node_1.l11100.of _ _ _ _ ?_
    unfold F.slices_BinarySearchFunc_apiNodeapiNodestring_by_graph_node_1.l11100.B
    rw [if_no (by omega)]
    rcases Nat.lt_or_ge lo l.length with h | h
    · rw [if_in h, guard_in h, nat_cast, node1_ok, Option.bind_some, cmpS_zero]
      show some ((lo : Int), decide ((rd sNode l lo).1 = x)) = _
      rw [ids_get h, List.getElem?_eq_getElem (by omega)]
      simp
    · rw [if_out h, List.getElem?_eq_none (by omega)]; simp
theorem searchE_ok (l : List TEdge) (x : ByteArray) (hu : Up (eids l)) (hb : l.length ≤ 70368744177616) : V.slices_BinarySearchFunc_apiEdgeapiEdgestring_by_graph_edge_1 l x = some ((lb (eids l) x : Int), has (eids l) x) := by
  refine V.slices_BinarySearchFunc_apiEdgeapiEdgestring_by_graph_edge_1.of _ _ ?_
  unfold F.slices_BinarySearchFunc_apiEdgeapiEdgestring_by_graph_edge_1.B
  have hl : (eids l).length = l.length := by simp
  rw [show (l.length : Int) = ((eids l).length : Int) by simp]
  refine search_gen hu (V.slices_BinarySearchFunc_apiEdgeapiEdgestring_by_graph_edge_1.l11100 l x) (fun lo hi r h hh hr => ?_) (fun lo hlo => ?_)
  · refine V.slices_BinarySearchFunc_apiEdgeapiEdgestring_by_graph_edge_1.l11100.of _ _ _ _ ?_
    unfold F.slices_BinarySearchFunc_apiEdgeapiEdgestring_by_graph_edge_1.l11100.B
    rw [if_in h, half_nat h (by omega) hb, guard_in (by omega), nat_cast, edge1_ok, Option.bind_some, cmpS_neg, w64_up (n := l.length) (by omega) (by omega)]
    show (bif strLt (rd sEdge l ((lo + hi) / 2)).1 x then _ else _) = _
    rw [eids_get (by omega), ← hr]
    cases strLt ((eids l)[(lo + hi) / 2]'(by omega)) x <;> rfl
  · refine V.slices_BinarySearchFunc_apiEdgeapiEdgestring_by_graph_edge_1.l11100.of _ _ _ _ ?_
    unfold F.slices_BinarySearchFunc_apiEdgeapiEdgestring_by_graph_edge_1.l11100.B
    rw [if_no (by omega)]
    rcases Nat.lt_or_ge lo l.length with h | h
    · rw [if_in h, guard_in h, nat_cast, edge1_ok, Option.bind_some, cmpS_zero]
      show some ((lo : Int), decide ((rd sEdge l lo).1 = x)) = _
      rw [eids_get h, List.getElem?_eq_getElem (by omega)]
      simp
    · rw [if_out h, List.getElem?_eq_none (by omega)]; simp
theorem node_ok (g : TGraph) (x : ByteArray) (hu : Up (ids g.1)) (hb : g.1.length ≤ 70368744177616) : V.graph_node g x = some ((lb (ids g.1) x : Int), has (ids g.1) x) := by
  refine V.graph_node.of _ _ ?_
  unfold F.graph_node.B
  rw [searchN_ok _ _ hu hb, Option.bind_some]
theorem edge_ok (g : TGraph) (x : ByteArray) (hu : Up (eids g.2)) (hb : g.2.length ≤ 70368744177616) : V.graph_edge g x = some ((lb (eids g.2) x : Int), has (eids g.2) x) := by
  refine V.graph_edge.of _ _ ?_
  unfold F.graph_edge.B
  rw [searchE_ok _ _ hu hb, Option.bind_some]

/-- Where an Id is first met, as a number. -/
def atI (ks : List ByteArray) (x : ByteArray) : Int := if has ks x then (ks.findIdx (fun k => strEq k x) : Int) else -1
theorem atI_neg (ks : List ByteArray) (x : ByteArray) : decide (atI ks x < 0) = !has ks x := by
  unfold atI; split <;> rename_i h <;> simp [h]
theorem atI_up {ks : List ByteArray} (hu : Up ks) (x : ByteArray) : atI ks x = if has ks x then (lb ks x : Int) else -1 := by
  unfold atI
  split
  · rename_i h
    obtain ⟨h1, h2⟩ := (met_iff hu x).1 (has_iff.1 h)
    congr 1
    have h3 : ks.findIdx (fun k => strEq k x) = lb ks x := by
      rw [List.findIdx_eq h1]
      refine ⟨by rw [h2, strEq_self], fun j hj => strEq_no fun e => ?_⟩
      have := (lb_lt hu x (by omega)).2 hj
      rw [e, lt_irr] at this; cases this
    omega
  · rfl
theorem atI_step {ks : List ByteArray} {x : ByteArray} {i : Nat} (hi : i < ks.length) (h : ∀ j (hj : j < ks.length), j < i → ks[j] ≠ x) : atI ks x = if strEq ks[i] x then (i : Int) else atI ks x := by
  split
  · rename_i e
    have e := strEq_iff.1 e
    have hm : x ∈ ks := e ▸ List.getElem_mem hi
    unfold atI
    rw [if_pos (has_iff.2 hm)]
    have : ks.findIdx (fun k => strEq k x) = i := by
      rw [List.findIdx_eq hi]
      exact ⟨by rw [e, strEq_self], fun j hj => strEq_no (h j (by omega) hj)⟩
    omega
  · rfl
theorem atI_none {ks : List ByteArray} {x : ByteArray} (h : ∀ j (hj : j < ks.length), ks[j] ≠ x) : atI ks x = -1 := by
  unfold atI
  rw [if_neg fun hm => by
    obtain ⟨i, hi, e⟩ := List.getElem_of_mem (has_iff.1 hm)
    exact h i hi e]
theorem NodeAt_l (g : TGraph) (x : ByteArray) (hs : g.1.length ≤ 140737488351232) : ∀ d i : Nat, i + d = g.1.length → (∀ j (hj : j < (ids g.1).length), j < i → (ids g.1)[j] ≠ x) → V.pleachref26_NodeAt.l1010 g x (i : Int) = some (atI (ids g.1) x)
  | 0, i, h, hn => by
    refine V.pleachref26_NodeAt.l1010.of _ _ _ ?_
    unfold F.pleachref26_NodeAt.l1010.B
    rw [if_out (by omega), atI_none fun j hj => hn j hj (by simp at hj; omega)]
  | d + 1, i, h, hn => by
    have hi : i < g.1.length := by omega
    refine V.pleachref26_NodeAt.l1010.of _ _ _ ?_
    unfold F.pleachref26_NodeAt.l1010.B
    rw [if_in hi, guard_in hi, nat_cast, w64_up hi hs, ids_get hi, atI_step (ks := ids g.1) (i := i) (by simpa using hi) hn]
    cases hc : strEq ((ids g.1)[i]'(by simpa using hi)) x with
    | true => rfl
    | false =>
      refine NodeAt_l g x hs d (i + 1) (by omega) fun j hj g1 e => ?_
      rcases Nat.lt_or_ge j i with g2 | g2
      · exact hn j hj g2 e
      · have : j = i := by omega
        subst this
        rw [e, strEq_self] at hc; cases hc
theorem NodeAt_ok (g : TGraph) (x : ByteArray) (hs : g.1.length ≤ 140737488351232) : V.pleachref26_NodeAt g x = some (atI (ids g.1) x) := by
  refine V.pleachref26_NodeAt.of _ _ ?_
  unfold F.pleachref26_NodeAt.B
  exact NodeAt_l g x hs g.1.length 0 (by omega) fun j hj h => by omega

end Go.Proofs.YtdblhdpnllckhaaGreat.AE
end
section
set_option linter.unusedVariables false
set_option linter.unusedSimpArgs false
set_option maxRecDepth 20000
namespace Go.Proofs.YtdblhdpnllckhaaGreat.AE
open Go

/-- A graph of sizes that fit. -/
structure okGraph (g : TGraph) : Prop where
  ns : g.1.length ≤ 70368744177616
  es : g.2.length ≤ 70368744177616
  n : ∀ n ∈ g.1, okNode n
  e : ∀ x ∈ g.2, okEdge x

def nodeStep (l : List TNode) (i : Nat) : Option Int :=
  if nodeN (rd sNode l i) ≠ 0 then some (nodeN (rd sNode l i)) else if 0 < i ∧ strLt (rd sNode l (i - 1)).1 (rd sNode l i).1 = false then some 4 else none
def edgeStep (ks : List ByteArray) (l : List TEdge) (i : Nat) : Option Int :=
  if edgeN (rd sEdge l i) ≠ 0 then some (edgeN (rd sEdge l i)) else if 0 < i ∧ strLt (rd sEdge l (i - 1)).1 (rd sEdge l i).1 = false then some 4
  else if has ks (rd sEdge l i).2.1 = true ∧ has ks (rd sEdge l i).2.2.1 = true then none else some 9
def edgesN (g : TGraph) : Int := scanI (edgeStep (ids g.1) g.2) g.2.length 0
def wrongN (g : TGraph) : Int := if g.1.length > 500 then 5 else if g.2.length > 1000 then 5 else scanG (nodeStep g.1) (edgesN g) g.1.length 0

theorem up_of {ks : List ByteArray} (h : ∀ i (hi : i < ks.length), 0 < i → strLt (ks[i - 1]'(by omega)) ks[i] = true) : Up ks := by
  refine List.pairwise_iff_getElem.2 fun i j hi hj hij => ?_
  have main : ∀ d j (hj : j < ks.length), j = i + 1 + d → strLt ks[i] ks[j] = true := by
    intro d
    induction d with
    | zero =>
      intro j hj e
      have := h j hj (by omega)
      simpa [e] using this
    | succ d ih =>
      intro j hj e
      have h1 := ih (j - 1) (by omega) (by omega)
      exact lt_trans h1 (h j hj (by omega))
  exact main (j - (i + 1)) j hj (by omega)
theorem nodeStep_none {l : List TNode} {i : Nat} (h : nodeStep l i = none) : nodeN (rd sNode l i) = 0 ∧ (0 < i → strLt (rd sNode l (i - 1)).1 (rd sNode l i).1 = true) := by
  unfold nodeStep at h
  split at h
  · cases h
  · rename_i h0
    split at h
    · cases h
    · rename_i h1
      exact ⟨by simpa using h0, fun hp => by cases hl : strLt (rd sNode l (i - 1)).1 (rd sNode l i).1 with | true => rfl | false => exact absurd ⟨hp, hl⟩ h1⟩
theorem edgeStep_none {ks : List ByteArray} {l : List TEdge} {i : Nat} (h : edgeStep ks l i = none) : edgeN (rd sEdge l i) = 0 ∧ (0 < i → strLt (rd sEdge l (i - 1)).1 (rd sEdge l i).1 = true) ∧ has ks (rd sEdge l i).2.1 = true ∧ has ks (rd sEdge l i).2.2.1 = true := by
  unfold edgeStep at h
  split at h
  · cases h
  · rename_i h0
    split at h
    · cases h
    · rename_i h1
      split at h
      · rename_i h2
        exact ⟨by simpa using h0, fun hp => by cases hl : strLt (rd sEdge l (i - 1)).1 (rd sEdge l i).1 with | true => rfl | false => exact absurd ⟨hp, hl⟩ h1, h2⟩
      · cases h
theorem up_nodes {l : List TNode} (h : ∀ j, j < l.length → nodeStep l j = none) : Up (ids l) := by
  refine up_of fun i hi hp => ?_
  have hi' : i < l.length := by simpa using hi
  have := (nodeStep_none (h i hi')).2 hp
  rw [ids_get (by omega : i - 1 < l.length), ids_get hi'] at this
  exact this
theorem up_edges {ks : List ByteArray} {l : List TEdge} (h : ∀ j, j < l.length → edgeStep ks l j = none) : Up (eids l) := by
  refine up_of fun i hi hp => ?_
  have hi' : i < l.length := by simpa using hi
  have := (edgeStep_none (h i hi')).2.1 hp
  rw [eids_get (by omega : i - 1 < l.length), eids_get hi'] at this
  exact this

theorem Check_l1 (g : TGraph) (hok : okGraph g) (hu : Up (ids g.1)) : ∀ d i : Nat, i + d = g.2.length → V.graph_Check.l111010 g (i : Int) = some (scanI (edgeStep (ids g.1) g.2) d i)
  | 0, i, h => by
    refine V.graph_Check.l111010.of _ _ ?_
    unfold F.graph_Check.l111010.B
    rw [if_out (by omega)]
    rfl
  | d + 1, i, h => by
    have hi : i < g.2.length := by omega
    have hs : g.2.length ≤ 140737488351232 := by have := hok.es; omega
    have ih := Check_l1 g hok hu d (i + 1) (by omega)
    have e := CheckEdge_ok _ (hok.e _ (rd_mem (e := sEdge) hi))
    have nd : ∀ x, V.graph_node (g.1, g.2) x = some ((lb (ids g.1) x : Int), has (ids g.1) x) := fun x => node_ok g x hu hok.ns
    refine V.graph_Check.l111010.of _ _ ?_
    unfold F.graph_Check.l111010.B
    rw [if_in hi, guard_in hi, nat_cast, e, Option.bind_some, scanI_succ]
    simp only [nd, Option.bind_some, w64_up hi hs, ih]
    unfold edgeStep
    generalize scanI _ d (i + 1) = q
    by_cases hp : 0 < i
    · rw [if_yes (by omega : (i : Int) > 0), w64_dn hi hs hp, guard_in (by omega : i - 1 < g.2.length), nat_cast]
      generalize rd sEdge g.2 i = x
      generalize rd sEdge g.2 (i - 1) = y
      by_cases h0 : edgeN x = 0
      · cases hl : strLt y.1 x.1 <;> cases m1 : has (ids g.1) x.2.1 <;> cases m2 : has (ids g.1) x.2.2.1 <;> simp [h0, hp, hl, m1, m2]
      · simp [h0, Bool.cond_eq_ite]
    · rw [if_no (by omega : ¬ (i : Int) > 0)]
      generalize rd sEdge g.2 i = x
      by_cases h0 : edgeN x = 0
      · cases m1 : has (ids g.1) x.2.1 <;> cases m2 : has (ids g.1) x.2.2.1 <;> simp [h0, hp, m1, m2]
      · simp [h0, Bool.cond_eq_ite]
theorem Check_l0 (g : TGraph) (hok : okGraph g) : ∀ d i : Nat, i + d = g.1.length → (∀ j, j < i → nodeStep g.1 j = none) → V.graph_Check.l11010 g (i : Int) = some (scanG (nodeStep g.1) (edgesN g) d i)
  | 0, i, h, hn => by
    refine V.graph_Check.l11010.of _ _ ?_
    unfold F.graph_Check.l11010.B
    rw [if_out (by omega)]
    exact Check_l1 g hok (up_nodes fun j hj => hn j (by omega)) g.2.length 0 (by omega)
  | d + 1, i, h, hn => by
    have hi : i < g.1.length := by omega
    have hs : g.1.length ≤ 140737488351232 := by have := hok.ns; omega
    have e := CheckNode_ok _ (hok.n _ (rd_mem (e := sNode) hi))
    refine V.graph_Check.l11010.of _ _ ?_
    unfold F.graph_Check.l11010.B
    rw [if_in hi, guard_in hi, nat_cast, e, Option.bind_some, scanG_succ]
    have ih : nodeStep g.1 i = none → V.graph_Check.l11010 g (((i + 1 : Nat)) : Int) = some (scanG (nodeStep g.1) (edgesN g) d (i + 1)) := fun hh => Check_l0 g hok d (i + 1) (by omega) fun j hj => by
      rcases Nat.lt_or_ge j i with g1 | g1
      · exact hn j g1
      · rw [show j = i by omega]; exact hh
    rw [w64_up hi hs]
    unfold nodeStep at ih ⊢
    generalize scanG _ _ d (i + 1) = q at ih ⊢
    by_cases hp : 0 < i
    · rw [if_yes (by omega : (i : Int) > 0), w64_dn hi hs hp, guard_in (by omega : i - 1 < g.1.length), nat_cast]
      generalize rd sNode g.1 i = x at ih ⊢
      generalize rd sNode g.1 (i - 1) = y at ih ⊢
      by_cases h0 : nodeN x = 0
      · cases hl : strLt y.1 x.1
        · simp [h0, hp, hl]
        · rw [ih (by simp [h0, hp, hl])]; simp [h0, hp, hl]
      · simp [h0, Bool.cond_eq_ite]
    · rw [if_no (by omega : ¬ (i : Int) > 0)]
      generalize rd sNode g.1 i = x at ih ⊢
      by_cases h0 : nodeN x = 0
      · rw [ih (by simp [h0, hp])]; simp [h0, hp]
      · simp [h0, Bool.cond_eq_ite]
theorem Check_ok (g : TGraph) (hok : okGraph g) : V.graph_Check g = some (wrongN g) := by
  refine V.graph_Check.of _ ?_
  unfold F.graph_Check.B wrongN
  by_cases h1 : g.1.length > 500
  · rw [if_yes (by omega), if_pos h1]
  · rw [if_no (by omega), if_neg h1]
    by_cases h2 : g.2.length > 1000
    · rw [if_yes (by omega), if_pos h2]
    · rw [if_no (by omega), if_neg h2]
      exact Check_l0 g hok g.1.length 0 (by omega) fun j hj => by omega

theorem Wrong_l1 (g : TGraph) (hok : okGraph g) : ∀ d i : Nat, i + d = g.2.length → V.pleachref26_Wrong.l111010 g (i : Int) = some (scanI (edgeStep (ids g.1) g.2) d i)
  | 0, i, h => by
    refine V.pleachref26_Wrong.l111010.of _ _ ?_
    unfold F.pleachref26_Wrong.l111010.B
    rw [if_out (by omega)]
    rfl
  | d + 1, i, h => by
    have hi : i < g.2.length := by omega
    have hs : g.2.length ≤ 140737488351232 := by have := hok.es; omega
    have ih := Wrong_l1 g hok d (i + 1) (by omega)
    have e := refEdge_ok _ (hok.e _ (rd_mem (e := sEdge) hi))
    have nd : ∀ x, V.pleachref26_NodeAt (g.1, g.2) x = some (atI (ids g.1) x) := fun x => NodeAt_ok g x (by have := hok.ns; omega)
    refine V.pleachref26_Wrong.l111010.of _ _ ?_
    unfold F.pleachref26_Wrong.l111010.B
    rw [if_in hi, guard_in hi, nat_cast, e, Option.bind_some, scanI_succ]
    simp only [nd, Option.bind_some, w64_up hi hs, ih, atI_neg, lt_or]
    unfold edgeStep
    generalize scanI _ d (i + 1) = q
    by_cases hp : 0 < i
    · rw [if_yes (by omega : (i : Int) > 0), w64_dn hi hs hp, guard_in (by omega : i - 1 < g.2.length), nat_cast]
      generalize rd sEdge g.2 i = x
      generalize rd sEdge g.2 (i - 1) = y
      by_cases h0 : edgeN x = 0
      · cases hl : strLt y.1 x.1 <;> cases m1 : has (ids g.1) x.2.1 <;> cases m2 : has (ids g.1) x.2.2.1 <;> simp [h0, hp, hl, m1, m2]
      · simp [h0, Bool.cond_eq_ite]
    · rw [if_no (by omega : ¬ (i : Int) > 0)]
      generalize rd sEdge g.2 i = x
      by_cases h0 : edgeN x = 0
      · cases m1 : has (ids g.1) x.2.1 <;> cases m2 : has (ids g.1) x.2.2.1 <;> simp [h0, hp, m1, m2]
      · simp [h0, Bool.cond_eq_ite]
theorem Wrong_l0 (g : TGraph) (hok : okGraph g) : ∀ d i : Nat, i + d = g.1.length → V.pleachref26_Wrong.l11010 g (i : Int) = some (scanG (nodeStep g.1) (edgesN g) d i)
  | 0, i, h => by
    refine V.pleachref26_Wrong.l11010.of _ _ ?_
    unfold F.pleachref26_Wrong.l11010.B
    rw [if_out (by omega)]
    exact Wrong_l1 g hok g.2.length 0 (by omega)
  | d + 1, i, h => by
    have hi : i < g.1.length := by omega
    have hs : g.1.length ≤ 140737488351232 := by have := hok.ns; omega
    have e := refNode_ok _ (hok.n _ (rd_mem (e := sNode) hi))
    have ih := Wrong_l0 g hok d (i + 1) (by omega)
    refine V.pleachref26_Wrong.l11010.of _ _ ?_
    unfold F.pleachref26_Wrong.l11010.B
    rw [if_in hi, guard_in hi, nat_cast, e, Option.bind_some, scanG_succ, w64_up hi hs, ih]
    simp only [lt_or]
    unfold nodeStep
    generalize scanG _ _ d (i + 1) = q
    by_cases hp : 0 < i
    · rw [if_yes (by omega : (i : Int) > 0), guard_in hi, w64_dn hi hs hp, guard_in (by omega : i - 1 < g.1.length), nat_cast]
      generalize rd sNode g.1 i = x
      generalize rd sNode g.1 (i - 1) = y
      by_cases h0 : nodeN x = 0
      · cases hl : strLt y.1 x.1 <;> simp [h0, hp, hl]
      · simp [h0, Bool.cond_eq_ite]
    · rw [if_no (by omega : ¬ (i : Int) > 0)]
      generalize rd sNode g.1 i = x
      by_cases h0 : nodeN x = 0 <;> simp [h0, hp, Bool.cond_eq_ite]
theorem Wrong_ok (g : TGraph) (hok : okGraph g) : V.pleachref26_Wrong g = some (wrongN g) := by
  refine V.pleachref26_Wrong.of _ ?_
  unfold F.pleachref26_Wrong.B wrongN
  by_cases h1 : g.1.length > 500
  · rw [if_yes (by omega), if_pos h1]
  · rw [if_no (by omega), if_neg h1]
    by_cases h2 : g.2.length > 1000
    · rw [if_yes (by omega), if_pos h2]
    · rw [if_no (by omega), if_neg h2]
      exact Wrong_l0 g hok g.1.length 0 (by omega)

/-- What is told of a graph that may be. -/
structure Good26 (g : TGraph) : Prop where
  ns : g.1.length ≤ 500
  es : g.2.length ≤ 1000
  nodes : ∀ n ∈ g.1, nodeN n = 0
  edges : ∀ x ∈ g.2, edgeN x = 0
  nup : Up (ids g.1)
  eup : Up (eids g.2)
  fr : ∀ x ∈ g.2, x.2.1 ∈ ids g.1
  to : ∀ x ∈ g.2, x.2.2.1 ∈ ids g.1

end Go.Proofs.YtdblhdpnllckhaaGreat.AE
end
section
set_option linter.unusedVariables false
set_option linter.unusedSimpArgs false
set_option maxRecDepth 20000
namespace Go.Proofs.YtdblhdpnllckhaaGreat.AE
open Go

def cut5 (s : ByteArray) : Int := if 5000 < (s.size : Int) then 5000 else (s.size : Int)
theorem cut5_in (s : ByteArray) : 0 ≤ cut5 s ∧ cut5 s ≤ 5000 := by unfold cut5; split <;> omega

theorem weight_l1 (a : List ByteArray) (b : List TProp) (hb : b.length ≤ 20) : ∀ (d i : Nat) (x : Int), i + d = b.length → 0 ≤ x → x ≤ 100000 + 10000 * i → ∃ r, V.pleachref26_weight.l1111010 a b x (i : Int) = some r ∧ 0 ≤ r ∧ r ≤ 300000
  | 0, i, x, h, h0, h1 => by
    refine ⟨x, ?_, h0, by omega⟩
    refine V.pleachref26_weight.l1111010.of _ _ _ _ ?_
    unfold F.pleachref26_weight.l1111010.B
    rw [if_out (by omega)]
  | d + 1, i, x, h, h0, h1 => by
    have hi : i < b.length := by omega
    have c1 := cut5_in (rd sProp b i).1
    have c2 := cut5_in (rd sProp b i).2.2.2
    obtain ⟨r, hr, g⟩ := weight_l1 a b hb d (i + 1) (x + cut5 (rd sProp b i).1 + cut5 (rd sProp b i).2.2.2) (by omega) (by omega) (by omega)
    refine ⟨r, ?_, g⟩
    refine V.pleachref26_weight.l1111010.of _ _ _ _ ?_
    unfold F.pleachref26_weight.l1111010.B
    rw [if_in hi, guard_in hi, guard_in hi, nat_cast, w64_up (n := b.length) hi (by omega)]
    show V.pleachref26_weight.l1111010 a b (w64 (w64 (x + cut5 (rd sProp b i).1) + cut5 (rd sProp b i).2.2.2)) _ = _
    rw [w64_id (x := x + cut5 (rd sProp b i).1) (by omega) (by omega), w64_id (by omega) (by omega)]
    exact hr
theorem weight_l0 (a : List ByteArray) (b : List TProp) (ha : a.length ≤ 20) (hb : b.length ≤ 20) : ∀ (d i : Nat) (x : Int), i + d = a.length → 0 ≤ x → x ≤ 5000 * i → ∃ r, V.pleachref26_weight.l111010 a b x (i : Int) = some r ∧ 0 ≤ r ∧ r ≤ 300000
  | 0, i, x, h, h0, h1 => by
    obtain ⟨r, hr, g⟩ := weight_l1 a b hb b.length 0 x (by omega) h0 (by omega)
    refine ⟨r, ?_, g⟩
    refine V.pleachref26_weight.l111010.of _ _ _ _ ?_
    unfold F.pleachref26_weight.l111010.B
    rw [if_out (by omega)]
    exact hr
  | d + 1, i, x, h, h0, h1 => by
    have hi : i < a.length := by omega
    have c1 := cut5_in (rd .str a i)
    obtain ⟨r, hr, g⟩ := weight_l0 a b ha hb d (i + 1) (x + cut5 (rd .str a i)) (by omega) (by omega) (by omega)
    refine ⟨r, ?_, g⟩
    refine V.pleachref26_weight.l111010.of _ _ _ _ ?_
    unfold F.pleachref26_weight.l111010.B
    rw [if_in hi, guard_in hi, nat_cast, w64_up (n := a.length) hi (by omega)]
    show V.pleachref26_weight.l111010 a b (w64 (x + cut5 (rd .str a i))) _ = _
    rw [w64_id (by omega) (by omega)]
    exact hr
theorem weight_ok (a : List ByteArray) (b : List TProp) : ∃ r, V.pleachref26_weight a b = some r ∧ 0 ≤ r ∧ r ≤ 300000 ∧ (r ≤ 5000 → a.length ≤ 20 ∧ b.length ≤ 20) := by
  by_cases ha : a.length > 20
  · refine ⟨100000, V.pleachref26_weight.of _ _ ?_, by omega, by omega, by omega⟩
    unfold F.pleachref26_weight.B
    rw [if_yes (by omega)]
  · by_cases hb : b.length > 20
    · refine ⟨100000, V.pleachref26_weight.of _ _ ?_, by omega, by omega, by omega⟩
      unfold F.pleachref26_weight.B
      rw [if_no (by omega), if_yes (by omega)]
    · obtain ⟨r, hr, h0, h1⟩ := weight_l0 a b (by omega) (by omega) a.length 0 0 (by omega) (by omega) (by omega)
      refine ⟨r, V.pleachref26_weight.of _ _ ?_, h0, h1, fun _ => ⟨by omega, by omega⟩⟩
      unfold F.pleachref26_weight.B
      rw [if_no (by omega), if_no (by omega)]
      exact hr

structure Slim (g : TGraph) : Prop where
  ns : g.1.length ≤ 40
  es : g.2.length ≤ 60
  n : ∀ n ∈ g.1, n.2.1.length ≤ 20 ∧ n.2.2.length ≤ 20
  e : ∀ x ∈ g.2, x.2.2.2.1.length ≤ 20 ∧ x.2.2.2.2.length ≤ 20

theorem Few_l1 (g : TGraph) (hs : g.2.length ≤ 60) : ∀ (d i : Nat) (x : Int), i + d = g.2.length → 0 ≤ x → x ≤ 40000000 + 400000 * i → ∃ b, V.pleachref26_Few.l1111010 g x (i : Int) = some b ∧ (b = true → x ≤ 5000 ∧ ∀ j, i ≤ j → j < g.2.length → (rd sEdge g.2 j).2.2.2.1.length ≤ 20 ∧ (rd sEdge g.2 j).2.2.2.2.length ≤ 20)
  | 0, i, x, h, h0, h1 => by
    refine ⟨decide (x ≤ 5000), ?_, fun hb => ⟨by simpa using hb, fun j g1 g2 => by omega⟩⟩
    refine V.pleachref26_Few.l1111010.of _ _ _ ?_
    unfold F.pleachref26_Few.l1111010.B
    rw [if_out (by omega)]
  | d + 1, i, x, h, h0, h1 => by
    have hi : i < g.2.length := by omega
    obtain ⟨w, hw, w0, w1, w2⟩ := weight_ok (rd sEdge g.2 i).2.2.2.1 (rd sEdge g.2 i).2.2.2.2
    have c1 := cut5_in (rd sEdge g.2 i).1
    have c2 := cut5_in (rd sEdge g.2 i).2.1
    have c3 := cut5_in (rd sEdge g.2 i).2.2.1
    obtain ⟨b, hb, g⟩ := Few_l1 g hs d (i + 1) (x + cut5 (rd sEdge g.2 i).1 + cut5 (rd sEdge g.2 i).2.1 + cut5 (rd sEdge g.2 i).2.2.1 + w) (by omega) (by omega) (by omega)
    refine ⟨b, ?_, fun ht => ⟨by have := (g ht).1; omega, fun j g1 g2 => ?_⟩⟩
    · refine V.pleachref26_Few.l1111010.of _ _ _ ?_
      unfold F.pleachref26_Few.l1111010.B
      rw [if_in hi, guard_in hi, nat_cast, w64_up (n := 60) (by omega) (by omega), hw, Option.bind_some]
      show V.pleachref26_Few.l1111010 _ (w64 (w64 (w64 (w64 (x + cut5 (rd sEdge _ i).1) + cut5 (rd sEdge _ i).2.1) + cut5 (rd sEdge _ i).2.2.1) + w)) _ = _
      rw [w64_id (x := x + cut5 (rd sEdge _ i).1) (by omega) (by omega), w64_id (x := x + cut5 (rd sEdge _ i).1 + cut5 (rd sEdge _ i).2.1) (by omega) (by omega), w64_id (x := x + cut5 (rd sEdge _ i).1 + cut5 (rd sEdge _ i).2.1 + cut5 (rd sEdge _ i).2.2.1) (by omega) (by omega), w64_id (by omega) (by omega)]
      exact hb
    · rcases Nat.eq_or_lt_of_le g1 with e | e
      · subst e; exact w2 (by have := (g ht).1; omega)
      · exact (g ht).2 j e g2
theorem Few_l0 (g : TGraph) (hn : g.1.length ≤ 40) (hs : g.2.length ≤ 60) : ∀ (d i : Nat) (x : Int), i + d = g.1.length → 0 ≤ x → x ≤ 400000 * i → ∃ b, V.pleachref26_Few.l111010 g x (i : Int) = some b ∧ (b = true → x ≤ 5000 ∧ (∀ j, i ≤ j → j < g.1.length → (rd sNode g.1 j).2.1.length ≤ 20 ∧ (rd sNode g.1 j).2.2.length ≤ 20) ∧ ∀ j, j < g.2.length → (rd sEdge g.2 j).2.2.2.1.length ≤ 20 ∧ (rd sEdge g.2 j).2.2.2.2.length ≤ 20)
  | 0, i, x, h, h0, h1 => by
    obtain ⟨b, hb, q⟩ := Few_l1 g hs g.2.length 0 x (by omega) h0 (by omega)
    refine ⟨b, ?_, fun ht => ⟨(q ht).1, fun j g1 g2 => by omega, fun j g2 => (q ht).2 j (by omega) g2⟩⟩
    refine V.pleachref26_Few.l111010.of _ _ _ ?_
    unfold F.pleachref26_Few.l111010.B
    rw [if_out (by omega)]
    exact hb
  | d + 1, i, x, h, h0, h1 => by
    have hi : i < g.1.length := by omega
    obtain ⟨w, hw, w0, w1, w2⟩ := weight_ok (rd sNode g.1 i).2.1 (rd sNode g.1 i).2.2
    have c1 := cut5_in (rd sNode g.1 i).1
    obtain ⟨b, hb, q⟩ := Few_l0 g hn hs d (i + 1) (x + cut5 (rd sNode g.1 i).1 + w) (by omega) (by omega) (by omega)
    refine ⟨b, ?_, fun ht => ⟨by have := (q ht).1; omega, fun j g1 g2 => ?_, (q ht).2.2⟩⟩
    · refine V.pleachref26_Few.l111010.of _ _ _ ?_
      unfold F.pleachref26_Few.l111010.B
      rw [if_in hi, guard_in hi, guard_in hi, guard_in hi, nat_cast, w64_up (n := 60) (by omega) (by omega), hw, Option.bind_some]
      show V.pleachref26_Few.l111010 _ (w64 (w64 (x + cut5 (rd sNode _ i).1) + w)) _ = _
      rw [w64_id (x := x + cut5 (rd sNode _ i).1) (by omega) (by omega), w64_id (by omega) (by omega)]
      exact hb
    · rcases Nat.eq_or_lt_of_le g1 with e | e
      · subst e; exact w2 (by have := (q ht).1; omega)
      · exact (q ht).2.1 j e g2
theorem Few_ok (g : TGraph) : ∃ b, V.pleachref26_Few g = some b ∧ (b = true → Slim g) := by
  by_cases h1 : g.1.length > 40
  · refine ⟨false, V.pleachref26_Few.of _ ?_, by simp⟩
    unfold F.pleachref26_Few.B
    rw [if_yes (by omega)]
  · by_cases h2 : g.2.length > 60
    · refine ⟨false, V.pleachref26_Few.of _ ?_, by simp⟩
      unfold F.pleachref26_Few.B
      rw [if_no (by omega), if_yes (by omega)]
    · obtain ⟨b, hb, q⟩ := Few_l0 g (by omega) (by omega) g.1.length 0 0 (by omega) (by omega) (by omega)
      refine ⟨b, V.pleachref26_Few.of _ ?_, fun ht => ⟨by omega, by omega, fun n hn => ?_, fun x hx => ?_⟩⟩
      · unfold F.pleachref26_Few.B
        rw [if_no (by omega), if_no (by omega)]
        exact hb
      · obtain ⟨i, hi, e⟩ := List.getElem_of_mem hn
        have := (q ht).2.1 i (by omega) hi
        rw [rd_get (e := sNode) hi, e] at this
        exact this
      · obtain ⟨i, hi, e⟩ := List.getElem_of_mem hx
        have := (q ht).2.2 i hi
        rw [rd_get (e := sEdge) hi, e] at this
        exact this

end Go.Proofs.YtdblhdpnllckhaaGreat.AE
end
section
set_option linter.unusedVariables false
set_option linter.unusedSimpArgs false
set_option maxRecDepth 20000
namespace Go.Proofs.YtdblhdpnllckhaaGreat.AE
open Go

/-! ### Copies -/

theorem clone_body {α : Type} (l : List α) (h : l.length ≤ nmax) : (bif l.isEmpty then meet (some ([])) (guardK (decide (0 + l.length ≤ nmax)) (some ([] ++ l))) else (guardK (decide (0 + l.length ≤ nmax)) (some ([] ++ l)))) = some l := by
  rw [guard_dec (by omega)]
  cases l with
  | nil => exact meet_self _
  | cons a l => rfl
theorem cloneN_ok (l : List TNode) (h : l.length ≤ nmax) : V.slices_Clone_apiNodeapiNode l = some l := V.slices_Clone_apiNodeapiNode.of l (clone_body l h)
theorem cloneE_ok (l : List TEdge) (h : l.length ≤ nmax) : V.slices_Clone_apiEdgeapiEdge l = some l := V.slices_Clone_apiEdgeapiEdge.of l (clone_body l h)
theorem cloneT_ok (l : List ByteArray) (h : l.length ≤ nmax) : V.slices_Clone_stringstring l = some l := V.slices_Clone_stringstring.of l (clone_body l h)
theorem cloneP_ok (l : List TProp) (h : l.length ≤ nmax) : V.slices_Clone_apiPropapiProp l = some l := V.slices_Clone_apiPropapiProp.of l (clone_body l h)

theorem set_rd {e : Sh} (l : List (den e)) (i : Nat) : l.set i (rd e l i) = l := by
  rcases Nat.lt_or_ge i l.length with h | h
  · rw [rd_get h, List.set_getElem_self]
  · exact List.set_eq_of_length_le h

/-- Few enough parts for copies. -/
structure Small (g : TGraph) : Prop where
  ns : g.1.length ≤ nmax
  es : g.2.length ≤ nmax
  n : ∀ n ∈ g.1, n.2.1.length ≤ nmax ∧ n.2.2.length ≤ nmax
  e : ∀ x ∈ g.2, x.2.2.2.1.length ≤ nmax ∧ x.2.2.2.2.length ≤ nmax

theorem Copy_l1 (a g : TGraph) (hs : Small g) (n : Int) : ∀ d i : Nat, i + d = g.2.length → V.graph_Copy.l111010 a (g.2.length : Int) (i : Int) g.1 g.2 = some g
  | 0, i, h => by
    refine V.graph_Copy.l111010.of _ _ _ _ _ ?_
    unfold F.graph_Copy.l111010.B
    rw [if_out (by omega)]
  | d + 1, i, h => by
    have hi : i < g.2.length := by omega
    have he := hs.e _ (rd_mem (e := sEdge) hi)
    have hb : g.2.length ≤ 140737488351232 := by have := hs.es; unfold nmax at this; omega
    refine V.graph_Copy.l111010.of _ _ _ _ _ ?_
    unfold F.graph_Copy.l111010.B
    rw [if_in hi, guard_in hi, nat_cast, meet_self, meet_self, cloneT_ok _ he.1, cloneP_ok _ he.2, Option.bind_some, Option.bind_some]
    show V.graph_Copy.j1110100111 a _ _ _ ((g.2.set i (rd sEdge g.2 i)).set i ((rd sEdge (g.2.set i (rd sEdge g.2 i)) i).1, (rd sEdge (g.2.set i (rd sEdge g.2 i)) i).2.1, (rd sEdge (g.2.set i (rd sEdge g.2 i)) i).2.2.1, (rd sEdge (g.2.set i (rd sEdge g.2 i)) i).2.2.2.1, (rd sEdge g.2 i).2.2.2.2)) = _
    rw [set_rd (e := sEdge)]
    show V.graph_Copy.j1110100111 a _ _ _ (g.2.set i (rd sEdge g.2 i)) = _
    rw [set_rd (e := sEdge)]
    refine V.graph_Copy.j1110100111.of _ _ _ _ _ ?_
    unfold F.graph_Copy.j1110100111.B
    rw [w64_up hi hb]
    exact Copy_l1 a g hs n d (i + 1) (by omega)
theorem Copy_l0 (a g : TGraph) (hs : Small g) : ∀ d i : Nat, i + d = g.1.length → V.graph_Copy.l11010 a (g.1.length : Int) (i : Int) g.1 g.2 = some g
  | 0, i, h => by
    refine V.graph_Copy.l11010.of _ _ _ _ _ ?_
    unfold F.graph_Copy.l11010.B
    rw [if_out (by omega)]
    exact Copy_l1 a g hs 0 g.2.length 0 (by omega)
  | d + 1, i, h => by
    have hi : i < g.1.length := by omega
    have he := hs.n _ (rd_mem (e := sNode) hi)
    have hb : g.1.length ≤ 140737488351232 := by have := hs.ns; unfold nmax at this; omega
    refine V.graph_Copy.l11010.of _ _ _ _ _ ?_
    unfold F.graph_Copy.l11010.B
    rw [if_in hi, guard_in hi, nat_cast, meet_self, meet_self, cloneT_ok _ he.1, cloneP_ok _ he.2, Option.bind_some, Option.bind_some]
    show V.graph_Copy.j110100111 a _ _ ((g.1.set i (rd sNode g.1 i)).set i ((rd sNode (g.1.set i (rd sNode g.1 i)) i).1, (rd sNode (g.1.set i (rd sNode g.1 i)) i).2.1, (rd sNode g.1 i).2.2)) _ = _
    rw [set_rd (e := sNode)]
    show V.graph_Copy.j110100111 a _ _ (g.1.set i (rd sNode g.1 i)) _ = _
    rw [set_rd (e := sNode)]
    refine V.graph_Copy.j110100111.of _ _ _ _ _ ?_
    unfold F.graph_Copy.j110100111.B
    rw [w64_up hi hb]
    exact Copy_l0 a g hs d (i + 1) (by omega)
theorem Copy_ok (g : TGraph) (hs : Small g) : V.graph_Copy g = some g := by
  refine V.graph_Copy.of _ ?_
  unfold F.graph_Copy.B
  rw [cloneN_ok _ hs.ns, cloneE_ok _ hs.es, Option.bind_some, Option.bind_some, meet_self, Option.bind_some, Option.bind_some, meet_self]
  refine V.graph_Copy.j11.of _ _ _ ?_
  unfold F.graph_Copy.j11.B
  exact Copy_l0 g g hs g.1.length 0 (by omega)

end Go.Proofs.YtdblhdpnllckhaaGreat.AE
end
section
set_option linter.unusedVariables false
namespace Go.Proofs.YtdblhdpnllckhaaGreat.AE
open Go

theorem Slim.small {g : TGraph} (h : Slim g) : Small g := ⟨by have := h.ns; unfold nmax; omega, by have := h.es; unfold nmax; omega, fun n hn => by have := h.n n hn; unfold nmax; omega, fun n hn => by have := h.e n hn; unfold nmax; omega⟩
theorem Slim.fits {g : TGraph} (h : Slim g) : Fits g := ⟨by have := h.ns; omega, by have := h.es; omega, fun n hn => by have := h.n n hn; omega, fun n hn => by have := h.e n hn; omega⟩

end Go.Proofs.YtdblhdpnllckhaaGreat.AE
end
section
set_option linter.unusedVariables false
set_option linter.unusedSimpArgs false
set_option maxRecDepth 20000
namespace Go.Proofs.YtdblhdpnllckhaaGreat.AE
open Go

abbrev gZ : TGraph := ([], [])
abbrev oA : TOp := (3, (⟨#[120]⟩ : ByteArray), (⟨#[97]⟩ : ByteArray), (⟨#[98]⟩ : ByteArray), (⟨#[]⟩ : ByteArray), 0, 0, (⟨#[]⟩ : ByteArray))

theorem up_nil : Up [] := List.Pairwise.nil
theorem okZ : okGraph gZ := ⟨by simp, by simp, by simp, by simp⟩
theorem smallZ : Small gZ := ⟨by simp, by simp, by simp, by simp⟩

theorem right_A : V.graph_Right oA = some 0 := by
  have n1 : V.name_Check (⟨#[120]⟩ : ByteArray) = some 0 := by rw [name_Check_ok _ (by decide +kernel)]; decide +kernel
  have n2 : V.name_Check (⟨#[97]⟩ : ByteArray) = some 0 := by rw [name_Check_ok _ (by decide +kernel)]; decide +kernel
  have n3 : V.name_Check (⟨#[98]⟩ : ByteArray) = some 0 := by rw [name_Check_ok _ (by decide +kernel)]; decide +kernel
  refine V.graph_Right.of _ ?_
  unfold F.graph_Right.B
  show (V.name_Check (⟨#[120]⟩ : ByteArray)).bind _ = _
  rw [n1, Option.bind_some]
  show V.graph_Right.j1110101 oA false = _
  refine V.graph_Right.j1110101.of _ _ ?_
  unfold F.graph_Right.j1110101.B
  show ((V.name_Check (⟨#[97]⟩ : ByteArray)).bind fun t1 => (bif (t1 == 0) then ((V.name_Check (⟨#[98]⟩ : ByteArray)).bind fun t2 => V.graph_Right.j1111 oA (t2 == 0)) else _)) = _
  rw [n2, n3]
  show V.graph_Right.j1111 oA true = _
  refine V.graph_Right.j1111.of _ _ ?_
  unfold F.graph_Right.j1111.B
  show V.graph_Right.j11111 oA = _
  exact V.graph_Right.j11111.of _ rfl

theorem comes_A : V.graph_change_comes gZ oA = some (9, gZ) := by
  have e := fun x => edge_ok gZ x up_nil (by simp)
  have n := fun x => node_ok gZ x up_nil (by simp)
  refine V.graph_change_comes.of _ _ ?_
  unfold F.graph_change_comes.B
  show ((V.graph_edge gZ _).bind fun t3 => ((V.graph_node gZ _).bind fun t4 => ((V.graph_node gZ _).bind fun t5 => _))) = _
  rw [e, n, n]
  rfl

theorem do_A : V.graph_change_do gZ oA = some (9, gZ) := by
  refine V.graph_change_do.of _ _ ?_
  unfold F.graph_change_do.B
  show (V.graph_Right oA).bind _ = _
  rw [right_A, Option.bind_some]
  show (V.graph_change_comes gZ oA).bind _ = _
  rw [comes_A]
  rfl

theorem awake26 : V.pleachlaw26_awake = some true := by
  have h : V.graph_Apply gZ [oA] = some (gZ, 0, 9) := by
    refine V.graph_Apply.of _ _ ?_
    unfold F.graph_Apply.B
    show (V.graph_Check gZ).bind _ = _
    rw [Check_ok _ okZ, Option.bind_some]
    show (V.graph_Copy gZ).bind _ = _
    rw [Copy_ok _ smallZ, Option.bind_some]
    refine V.graph_Apply.l111010.of _ _ _ _ _ ?_
    unfold F.graph_Apply.l111010.B
    show (V.graph_change_do gZ oA).bind _ = _
    rw [do_A]
    rfl
  refine V.pleachlaw26_awake.of ?_
  unfold F.pleachlaw26_awake.B
  show (V.graph_Apply gZ [oA]).bind _ = _
  rw [h]
  rfl

end Go.Proofs.YtdblhdpnllckhaaGreat.AE
end
section
set_option linter.unusedVariables false
set_option linter.unusedSimpArgs false
namespace Go.Proofs.YtdblhdpnllckhaaGreat.AE
open Go

theorem gd_len {e : Sh} {l : List (den e)} (h : Gd (.list e) l) (hb : 2 ≤ e.bytes) : l.length ≤ 70368744177616 := by
  have h1 := h.1
  have : l.length * 2 ≤ l.length * e.bytes := Nat.mul_le_mul_left _ hb
  omega
theorem gd_i64 {n : Int} (h : Gd (.int .i64) n) : -9223372036854775808 ≤ n ∧ n ≤ 9223372036854775807 := by
  have h6 : (decide (IntKind.min .i64 ≤ n) && decide (n ≤ IntKind.max .i64)) = true := h
  rw [Bool.and_eq_true, decide_eq_true_eq, decide_eq_true_eq, show IntKind.min .i64 = -9223372036854775808 by decide, show IntKind.max .i64 = 9223372036854775807 by decide] at h6
  exact h6
theorem gd_texts {l : List ByteArray} (h : Gd (.list .str) l) : okTexts l := ⟨by have := gd_len h (by decide); omega, fun s hs => h.2 s hs⟩
theorem gd_props {l : List TProp} (h : Gd (.list sProp) l) : okProps l := ⟨by have := gd_len h (by decide); omega, fun p hp => by
  obtain ⟨h1, h2, h3, h4⟩ := h.2 p hp
  have h5 := gd_i64 h3
  exact ⟨h1, h4, h5⟩⟩
theorem gd_node {n : TNode} (h : Gd sNode n) : okNode n := ⟨h.1, gd_texts h.2.1, gd_props h.2.2⟩
theorem gd_edge {x : TEdge} (h : Gd sEdge x) : okEdge x := ⟨h.1, h.2.1, h.2.2.1, gd_texts h.2.2.2.1, gd_props h.2.2.2.2⟩
theorem gd_graph {g : TGraph} (h : Gd sGraph g) : okGraph g := ⟨gd_len h.1 (by decide), gd_len h.2 (by decide), fun n hn => gd_node (h.1.2 n hn), fun x hx => gd_edge (h.2.2 x hx)⟩

end Go.Proofs.YtdblhdpnllckhaaGreat.AE
end
section
set_option linter.unusedVariables false
set_option linter.unusedSimpArgs false
set_option maxRecDepth 20000
namespace Go.Proofs.YtdblhdpnllckhaaGreat.AE
open Go

theorem scanG_zero {step : Nat → Option Int} {fin : Int} (hs : ∀ i r, step i = some r → r ≠ 0) : ∀ d i, scanG step fin d i = 0 → fin = 0 ∧ ∀ j, i ≤ j → j < i + d → step j = none
  | 0, i, h => ⟨h, fun j h1 h2 => by omega⟩
  | d + 1, i, h => by
    rw [scanG_succ] at h
    cases he : step i with
    | some r => rw [he] at h; exact absurd h (hs i r he)
    | none =>
      rw [he] at h
      obtain ⟨g1, g2⟩ := scanG_zero hs d (i + 1) h
      refine ⟨g1, fun j h1 h2 => ?_⟩
      rcases Nat.eq_or_lt_of_le h1 with e | e
      · exact e ▸ he
      · exact g2 j e (by omega)
theorem scanG_none {α : Type} {step : Nat → Option α} {fin : α} : ∀ d i, (∀ j, i ≤ j → j < i + d → step j = none) → scanG step fin d i = fin
  | 0, i, h => rfl
  | d + 1, i, h => by
    rw [scanG_succ, h i (Nat.le_refl _) (by omega)]
    exact scanG_none d (i + 1) fun j h1 h2 => h j (by omega) (by omega)
theorem nodeStep_ne {l : List TNode} (i : Nat) (r : Int) (h : nodeStep l i = some r) : r ≠ 0 := by
  unfold nodeStep at h
  split at h
  · rename_i h0; cases h; exact h0
  · split at h <;> cases h; decide
theorem edgeStep_ne {ks : List ByteArray} {l : List TEdge} (i : Nat) (r : Int) (h : edgeStep ks l i = some r) : r ≠ 0 := by
  unfold edgeStep at h
  split at h
  · rename_i h0; cases h; exact h0
  · split at h
    · cases h; decide
    · split at h <;> cases h; decide

theorem good_iff (g : TGraph) : wrongN g = 0 ↔ Good26 g := by
  constructor
  · intro h
    unfold wrongN at h
    split at h
    · cases h
    · split at h
      · cases h
      · rename_i h1 h2
        obtain ⟨g1, g2⟩ := scanG_zero nodeStep_ne _ _ h
        obtain ⟨_, g3⟩ := scanG_zero edgeStep_ne _ _ g1
        have n := fun j (hj : j < g.1.length) => g2 j (by omega) (by omega)
        have e := fun j (hj : j < g.2.length) => g3 j (by omega) (by omega)
        refine ⟨by omega, by omega, fun x hx => ?_, fun x hx => ?_, up_nodes n, up_edges e, fun x hx => ?_, fun x hx => ?_⟩
        · obtain ⟨i, hi, rfl⟩ := List.getElem_of_mem hx
          have := (nodeStep_none (n i hi)).1
          rwa [rd_get (e := sNode) hi] at this
        all_goals
          obtain ⟨i, hi, rfl⟩ := List.getElem_of_mem hx
          have := edgeStep_none (e i hi)
          rw [rd_get (e := sEdge) hi] at this
        · exact this.1
        · exact has_iff.1 this.2.2.1
        · exact has_iff.1 this.2.2.2
  · intro h
    unfold wrongN
    rw [if_neg (by have := h.ns; omega), if_neg (by have := h.es; omega), scanG_none _ _ fun j _ hj => ?_]
    · refine scanG_none _ _ fun j _ hj => ?_
      have hj' : j < g.2.length := by omega
      have m : rd sEdge g.2 j ∈ g.2 := rd_mem hj'
      unfold edgeStep
      rw [if_neg (by rw [h.edges _ m]; simp), if_neg, if_pos ⟨has_iff.2 (h.fr _ m), has_iff.2 (h.to _ m)⟩]
      rintro ⟨h0, h1⟩
      have := h.eup.lt (i := j - 1) (j := j) (by omega) (by simpa using hj')
      rw [← eids_get hj', ← eids_get (by omega : j - 1 < g.2.length), h1] at this
      cases this
    · have hj' : j < g.1.length := by omega
      have m : rd sNode g.1 j ∈ g.1 := rd_mem hj'
      unfold nodeStep
      rw [if_neg (by rw [h.nodes _ m]; simp), if_neg]
      rintro ⟨h0, h1⟩
      have := h.nup.lt (i := j - 1) (j := j) (by omega) (by simpa using hj')
      rw [← ids_get hj', ← ids_get (by omega : j - 1 < g.1.length), h1] at this
      cases this

theorem rowN_up {l : List ByteArray} (h : rowN l = 0) : Up l := by
  refine up_of fun i hi hp => ?_
  have := (rowN_zero h hi).2 hp
  rw [rd_get (e := .str) hi, rd_get (e := .str) (by omega : i - 1 < l.length)] at this
  exact this
theorem nodeN_up {n : TNode} (h : nodeN n = 0) : n.2.1.length ≤ 8 ∧ Up n.2.1 ∧ n.2.2.length ≤ 8 := by
  have : restN n.2.1 n.2.2 = 0 := by
    unfold nodeN at h
    split at h
    · exact h
    · cases h
  obtain ⟨h1, h2, h3⟩ := restN_zero this
  exact ⟨h1, rowN_up h2, propsN_len h3⟩
theorem edgeN_up {x : TEdge} (h : edgeN x = 0) : x.2.2.2.1.length ≤ 8 ∧ Up x.2.2.2.1 ∧ x.2.2.2.2.length ≤ 8 := by
  have : restN x.2.2.2.1 x.2.2.2.2 = 0 := by
    unfold edgeN at h
    split at h
    · exact h
    · cases h
  obtain ⟨h1, h2, h3⟩ := restN_zero this
  exact ⟨h1, rowN_up h2, propsN_len h3⟩

theorem cmpLessS_ok (a b : ByteArray) : V.cmp_Less_string a b = some (strLt a b) := by
  have nan : ∀ x : ByteArray, V.cmp_isNaN_string x = some false := fun x => V.cmp_isNaN_string.of x (by unfold F.cmp_isNaN_string.B; rw [strEq_self]; rfl)
  refine V.cmp_Less_string.of a b ?_
  unfold F.cmp_Less_string.B
  rw [nan]
  rfl
theorem searchT_ok (l : List ByteArray) (x : ByteArray) (hu : Up l) (hb : l.length ≤ 70368744177616) : V.slices_BinarySearch_stringstring l x = some ((lb l x : Int), has l x) := by
  have nan : ∀ x : ByteArray, V.slices_isNaN_string x = some false := fun x => V.slices_isNaN_string.of x (by unfold F.slices_isNaN_string.B; rw [strEq_self]; rfl)
  refine V.slices_BinarySearch_stringstring.of _ _ ?_
  unfold F.slices_BinarySearch_stringstring.B
  refine search_gen hu (V.slices_BinarySearch_stringstring.l11100 l x) (fun lo hi r h hh hr => ?_) (fun lo hlo => ?_)
  · refine V.slices_BinarySearch_stringstring.l11100.of _ _ _ _ ?_
    unfold F.slices_BinarySearch_stringstring.l11100.B
    rw [if_in h, half_nat h (by omega) hb, guard_in (by omega), nat_cast, cmpLessS_ok, Option.bind_some, w64_up (n := l.length) (by omega) (by omega), rd_get (e := .str) (by omega), ← hr]
    cases strLt (l[(lo + hi) / 2]'(by omega)) x <;> rfl
  · refine V.slices_BinarySearch_stringstring.l11100.of _ _ _ _ ?_
    unfold F.slices_BinarySearch_stringstring.l11100.B
    rw [if_no (by omega)]
    rcases Nat.lt_or_ge lo l.length with h | h
    · rw [if_in h, guard_in h, guard_in h, nat_cast, nan, Option.bind_some, rd_get (e := .str) h, List.getElem?_eq_getElem h]
      by_cases e : l[lo] = x
      · simp [e, strEq_self]
      · simp [e, strEq_no e]
    · rw [if_out h, List.getElem?_eq_none (by omega)]; simp
theorem Find_ok (l : List ByteArray) (x : ByteArray) (hu : Up l) (hb : l.length ≤ 70368744177616) : V.name_Find l x = some ((lb l x : Int), has l x) := by
  refine V.name_Find.of _ _ ?_
  unfold F.name_Find.B
  rw [searchT_ok l x hu hb, Option.bind_some]

end Go.Proofs.YtdblhdpnllckhaaGreat.AE
end
section
set_option linter.unusedVariables false
set_option linter.unusedSimpArgs false
set_option maxRecDepth 20000
namespace Go.Proofs.YtdblhdpnllckhaaGreat.AE
open Go

theorem filt_rd {e : Sh} (l : List (den e)) (p : den e → Bool) {i : Nat} (h : i < l.length) : (l.drop i).filter p = bif p (rd e l i) then rd e l i :: (l.drop (i + 1)).filter p else (l.drop (i + 1)).filter p := by
  rw [drop_rd h, List.filter_cons]
  cases p (rd e l i) <;> rfl
theorem EdgeAt_l (g : TGraph) (x : ByteArray) (hs : g.2.length ≤ 140737488351232) : ∀ d i : Nat, i + d = g.2.length → (∀ j (hj : j < (eids g.2).length), j < i → (eids g.2)[j] ≠ x) → V.pleachref26_EdgeAt.l1010 g x (i : Int) = some (atI (eids g.2) x)
  | 0, i, h, hn => by
    refine V.pleachref26_EdgeAt.l1010.of _ _ _ ?_
    unfold F.pleachref26_EdgeAt.l1010.B
    rw [if_out (by omega), atI_none fun j hj => hn j hj (by simp at hj; omega)]
  | d + 1, i, h, hn => by
    have hi : i < g.2.length := by omega
    refine V.pleachref26_EdgeAt.l1010.of _ _ _ ?_
    unfold F.pleachref26_EdgeAt.l1010.B
    rw [if_in hi, guard_in hi, nat_cast, w64_up hi hs, eids_get hi, atI_step (ks := eids g.2) (i := i) (by simpa using hi) hn]
    cases hc : strEq ((eids g.2)[i]'(by simpa using hi)) x with
    | true => rfl
    | false =>
      refine EdgeAt_l g x hs d (i + 1) (by omega) fun j hj g1 e => ?_
      rcases Nat.lt_or_ge j i with g2 | g2
      · exact hn j hj g2 e
      · have : j = i := by omega
        subst this
        rw [e, strEq_self] at hc; cases hc
theorem EdgeAt_ok (g : TGraph) (x : ByteArray) (hs : g.2.length ≤ 140737488351232) : V.pleachref26_EdgeAt g x = some (atI (eids g.2) x) := by
  refine V.pleachref26_EdgeAt.of _ _ ?_
  unfold F.pleachref26_EdgeAt.B
  exact EdgeAt_l g x hs g.2.length 0 (by omega) fun j hj h => by omega

/-- Of at most so many parts as may be. -/
theorem Good26.small {g : TGraph} (h : Good26 g) : Small g := ⟨by have := h.ns; unfold nmax; omega, by have := h.es; unfold nmax; omega, fun n hn => by have := nodeN_up (h.nodes n hn); unfold nmax; omega, fun x hx => by have := edgeN_up (h.edges x hx); unfold nmax; omega⟩
theorem Good26.fits {g : TGraph} (h : Good26 g) : Fits g := ⟨by have := h.ns; omega, by have := h.es; omega, fun n hn => by have := nodeN_up (h.nodes n hn); omega, fun x hx => by have := edgeN_up (h.edges x hx); omega⟩

theorem refOut_l (g : TGraph) (hg : g.2.length ≤ 1000) (x : ByteArray) : ∀ (d i : Nat) (acc : List TEdge), i + d = g.2.length → acc.length ≤ i → V.pleachref26_Out.l11010 g x (i : Int) acc = some (acc ++ (g.2.drop i).filter fun e => strEq e.2.1 x)
  | 0, i, acc, h, ha => by
    refine V.pleachref26_Out.l11010.of _ _ _ _ ?_
    unfold F.pleachref26_Out.l11010.B
    rw [if_out (by omega), List.drop_eq_nil_of_le (by omega), List.filter_nil, List.append_nil]
  | d + 1, i, acc, h, ha => by
    have hi : i < g.2.length := by omega
    refine V.pleachref26_Out.l11010.of _ _ _ _ ?_
    unfold F.pleachref26_Out.l11010.B
    rw [filt_rd (e := sEdge) _ _ hi, if_in hi, guard_in hi, nat_cast, w64_up hi (by omega), guard_in hi]
    show (bif strEq (rd sEdge g.2 i).2.1 x then guardK (decide (acc.length + 1 ≤ nmax)) (V.pleachref26_Out.l11010 g x ((i + 1 : Nat) : Int) (acc ++ [rd sEdge g.2 i])) else V.pleachref26_Out.l11010 g x ((i + 1 : Nat) : Int) acc) = _
    rw [guard_dec (by unfold nmax; omega)]
    cases hm : strEq (rd sEdge g.2 i).2.1 x with
    | true => rw [cond_true, cond_true, refOut_l g hg x d (i + 1) _ (by omega) (by simp; omega)]; simp
    | false => rw [cond_false, cond_false]; exact refOut_l g hg x d (i + 1) _ (by omega) (by omega)
theorem refOut_ok (g : TGraph) (hg : g.2.length ≤ 1000) (x : ByteArray) : V.pleachref26_Out g x = some (g.2.filter fun e => strEq e.2.1 x) := by
  refine V.pleachref26_Out.of _ _ ?_
  unfold F.pleachref26_Out.B
  exact refOut_l g hg x g.2.length 0 [] (by omega) (by simp)
theorem refInE_l (g : TGraph) (hg : g.2.length ≤ 1000) (x : ByteArray) : ∀ (d i : Nat) (acc : List TEdge), i + d = g.2.length → acc.length ≤ i → V.pleachref26_In.l11010 g x (i : Int) acc = some (acc ++ (g.2.drop i).filter fun e => strEq e.2.2.1 x)
  | 0, i, acc, h, ha => by
    refine V.pleachref26_In.l11010.of _ _ _ _ ?_
    unfold F.pleachref26_In.l11010.B
    rw [if_out (by omega), List.drop_eq_nil_of_le (by omega), List.filter_nil, List.append_nil]
  | d + 1, i, acc, h, ha => by
    have hi : i < g.2.length := by omega
    refine V.pleachref26_In.l11010.of _ _ _ _ ?_
    unfold F.pleachref26_In.l11010.B
    rw [filt_rd (e := sEdge) _ _ hi, if_in hi, guard_in hi, nat_cast, w64_up hi (by omega), guard_in hi]
    show (bif strEq (rd sEdge g.2 i).2.2.1 x then guardK (decide (acc.length + 1 ≤ nmax)) (V.pleachref26_In.l11010 g x ((i + 1 : Nat) : Int) (acc ++ [rd sEdge g.2 i])) else V.pleachref26_In.l11010 g x ((i + 1 : Nat) : Int) acc) = _
    rw [guard_dec (by unfold nmax; omega)]
    cases hm : strEq (rd sEdge g.2 i).2.2.1 x with
    | true => rw [cond_true, cond_true, refInE_l g hg x d (i + 1) _ (by omega) (by simp; omega)]; simp
    | false => rw [cond_false, cond_false]; exact refInE_l g hg x d (i + 1) _ (by omega) (by omega)
theorem refInE_ok (g : TGraph) (hg : g.2.length ≤ 1000) (x : ByteArray) : V.pleachref26_In g x = some (g.2.filter fun e => strEq e.2.2.1 x) := by
  refine V.pleachref26_In.of _ _ ?_
  unfold F.pleachref26_In.B
  exact refInE_l g hg x g.2.length 0 [] (by omega) (by simp)
theorem refIn_l (l : List ByteArray) (x : ByteArray) (hs : l.length ≤ 140737488351232) : ∀ d i : Nat, i + d = l.length → V.pleachref05_In.l1010 l x (i : Int) = some (has (l.drop i) x)
  | 0, i, h => by
    refine V.pleachref05_In.l1010.of _ _ _ ?_
    unfold F.pleachref05_In.l1010.B
    rw [if_out (by omega), List.drop_eq_nil_of_le (by omega)]
    rfl
  | d + 1, i, h => by
    have hi : i < l.length := by omega
    refine V.pleachref05_In.l1010.of _ _ _ ?_
    unfold F.pleachref05_In.l1010.B
    rw [if_in hi, guard_in hi, nat_cast, w64_up hi hs, refIn_l l x hs d (i + 1) (by omega), drop_rd (e := .str) hi]
    show _ = some (strEq (rd .str l i) x || has (l.drop (i + 1)) x)
    cases strEq (rd .str l i) x <;> rfl
theorem refIn_ok (l : List ByteArray) (x : ByteArray) (hs : l.length ≤ 140737488351232) : V.pleachref05_In l x = some (has l x) := by
  refine V.pleachref05_In.of _ _ ?_
  unfold F.pleachref05_In.B
  exact refIn_l l x hs l.length 0 (by omega)
end Go.Proofs.YtdblhdpnllckhaaGreat.AE
end
section
set_option linter.unusedVariables false
set_option linter.unusedSimpArgs false
set_option maxRecDepth 20000
namespace Go.Proofs.YtdblhdpnllckhaaGreat.AE
open Go

def delB {α : Type} (a0 : List α) (z : α) (a1 : Int) (a2 : Int) : Option (List α) :=
    (guardK (decide (0 ≤ a1) && decide (a1 ≤ a2) && decide (a2 ≤ (a0.length : Int)) && decide ((a0.length : Int) ≤ (a0.length : Int))) (bif (a1 == a2) then (some a0) else (guardK (decide (0 ≤ a1) && decide (a1 ≤ (a0.length : Int))) (guardK (decide (0 ≤ a2) && decide (a2 ≤ (a0.length : Int)) && decide ((a0.length : Int) ≤ (a0.length : Int))) (guardK (decide ((a1.toNat + ((a0.take ((a0.length : Int).toNat)).drop a2.toNat).length) ≤ a0.length)) (guardK (decide (0 ≤ (((a1.toNat + ((a0.take ((a0.length : Int).toNat)).drop a2.toNat).length) - 0 : Nat) : Int)) && decide ((((a1.toNat + ((a0.take ((a0.length : Int).toNat)).drop a2.toNat).length) - 0 : Nat) : Int) ≤ (a0.length : Int)) && decide (0 + (a0.length : Int).toNat ≤ (a0.take a1.toNat ++ ((a0.take ((a0.length : Int).toNat)).drop a2.toNat) ++ a0.drop (a1.toNat + ((a0.take ((a0.length : Int).toNat)).drop a2.toNat).length)).length)) (guardK (decide ((0 + (((a1.toNat + ((a0.take ((a0.length : Int).toNat)).drop a2.toNat).length) - 0 : Nat) : Int).toNat) ≤ (0 + (a0.length : Int).toNat)) && decide ((0 + (a0.length : Int).toNat) ≤ (a0.take a1.toNat ++ ((a0.take ((a0.length : Int).toNat)).drop a2.toNat) ++ a0.drop (a1.toNat + ((a0.take ((a0.length : Int).toNat)).drop a2.toNat).length)).length)) (some (((a0.take a1.toNat ++ ((a0.take ((a0.length : Int).toNat)).drop a2.toNat) ++ a0.drop (a1.toNat + ((a0.take ((a0.length : Int).toNat)).drop a2.toNat).length)).take (0 + (((a1.toNat + ((a0.take ((a0.length : Int).toNat)).drop a2.toNat).length) - 0 : Nat) : Int).toNat) ++ List.replicate ((0 + (a0.length : Int).toNat) - (0 + (((a1.toNat + ((a0.take ((a0.length : Int).toNat)).drop a2.toNat).length) - 0 : Nat) : Int).toNat)) z ++ (a0.take a1.toNat ++ ((a0.take ((a0.length : Int).toNat)).drop a2.toNat) ++ a0.drop (a1.toNat + ((a0.take ((a0.length : Int).toNat)).drop a2.toNat).length)).drop (0 + (a0.length : Int).toNat)).take (a1.toNat + ((a0.take ((a0.length : Int).toNat)).drop a2.toNat).length))))))))))
/-- Without the one at a place. -/
def cutL {α : Type} (l : List α) (k : Nat) : List α := l.take k ++ l.drop (k + 1)
def layL {α : Type} (l : List α) (k : Nat) (x : α) : List α := l.take k ++ ([x] ++ l.drop k)
theorem cutL_len {α : Type} (l : List α) {k : Nat} (h : k < l.length) : (cutL l k).length = l.length - 1 := by simp [cutL]; omega
theorem layL_len {α : Type} (l : List α) {k : Nat} (x : α) (h : k ≤ l.length) : (layL l k x).length = l.length + 1 := by simp [layL]; omega
theorem delB_ok {α : Type} (l : List α) (z : α) {k : Nat} (hk : k < l.length) : delB l z (k : Int) ((k + 1 : Nat) : Int) = some (cutL l k) := by
  have e1 : l.take ((l.length : Int).toNat) = l := List.take_length
  have e2 : (l.drop (k + 1)).length = l.length - (k + 1) := List.length_drop
  have e3 : k + (l.length - (k + 1)) = l.length - 1 := by omega
  have e4 : (l.take k ++ l.drop (k + 1)).length = l.length - 1 := cutL_len l hk
  unfold delB
  simp only [nat_cast, List.take_length, e2, e3, Nat.zero_add, Nat.sub_zero]
  have e5 : (l.take k ++ l.drop (k + 1) ++ l.drop (l.length - 1)).length = l.length := by rw [List.length_append, e4, List.length_drop]; omega
  rw [guard_of (by simp; omega), show ((k : Int) == ((k + 1 : Nat) : Int)) = false by simp; omega, cond_false, guard_of (by simp; omega), guard_of (by simp; omega), guard_dec (by omega), guard_of (by rw [e5]; simp), guard_of (by rw [e5]; simp)]
  refine congrArg some ?_
  rw [List.take_left' (l₁ := l.take k ++ l.drop (k + 1)) e4, List.append_assoc, List.take_left' e4]
  rfl
theorem delN_ok (l : List TNode) {k : Nat} (hk : k < l.length) : V.slices_Delete_apiNodeapiNode l (k : Int) ((k + 1 : Nat) : Int) = some (cutL l k) := V.slices_Delete_apiNodeapiNode.of _ _ _ (delB_ok l ((⟨#[]⟩ : ByteArray), [], []) hk)
theorem delE_ok (l : List TEdge) {k : Nat} (hk : k < l.length) : V.slices_Delete_apiEdgeapiEdge l (k : Int) ((k + 1 : Nat) : Int) = some (cutL l k) := V.slices_Delete_apiEdgeapiEdge.of _ _ _ (delB_ok l ((⟨#[]⟩ : ByteArray), (⟨#[]⟩ : ByteArray), (⟨#[]⟩ : ByteArray), [], []) hk)
theorem delT_ok (l : List ByteArray) {k : Nat} (hk : k < l.length) : V.slices_Delete_stringstring l (k : Int) ((k + 1 : Nat) : Int) = some (cutL l k) := V.slices_Delete_stringstring.of _ _ _ (delB_ok l (⟨#[]⟩ : ByteArray) hk)
theorem delP_ok (l : List TProp) {k : Nat} (hk : k < l.length) : V.slices_Delete_apiPropapiProp l (k : Int) ((k + 1 : Nat) : Int) = some (cutL l k) := V.slices_Delete_apiPropapiProp.of _ _ _ (delB_ok l ((⟨#[]⟩ : ByteArray), 0, 0, (⟨#[]⟩ : ByteArray)) hk)
theorem insB_ok {α : Type} (l : List α) (x : α) {k : Nat} (hk : k ≤ l.length) (hn : l.length < nmax) : insB l (k : Int) [x] = some (layL l k x) := by
  unfold insB
  rw [guard_of (by simp; omega)]
  rfl
theorem insN_ok (l : List TNode) (x : TNode) {k : Nat} (hk : k ≤ l.length) (hn : l.length < nmax) : V.slices_Insert_apiNodeapiNode l (k : Int) [x] = some (layL l k x) := V.slices_Insert_apiNodeapiNode.of _ _ _ (insB_ok l x hk hn)
theorem insE_ok (l : List TEdge) (x : TEdge) {k : Nat} (hk : k ≤ l.length) (hn : l.length < nmax) : V.slices_Insert_apiEdgeapiEdge l (k : Int) [x] = some (layL l k x) := V.slices_Insert_apiEdgeapiEdge.of _ _ _ (insB_ok l x hk hn)
theorem insT_ok (l : List ByteArray) (x : ByteArray) {k : Nat} (hk : k ≤ l.length) (hn : l.length < nmax) : V.slices_Insert_stringstring l (k : Int) [x] = some (layL l k x) := V.slices_Insert_stringstring.of _ _ _ (insB_ok l x hk hn)
theorem insP_ok (l : List TProp) (x : TProp) {k : Nat} (hk : k ≤ l.length) (hn : l.length < nmax) : V.slices_Insert_apiPropapiProp l (k : Int) [x] = some (layL l k x) := V.slices_Insert_apiPropapiProp.of _ _ _ (insB_ok l x hk hn)

/-! ### Rows that rise by a key -/

section
variable {α : Type} {key : α → ByteArray} {l : List α} {x : ByteArray}

theorem less_take (hu : Up (l.map key)) : l.filter (fun a => strLt (key a) x) = l.take (lb (l.map key) x) := by
  have hlb : lb (l.map key) x ≤ l.length := by simpa using lb_le (l.map key) x
  conv => lhs; rw [← List.take_append_drop (lb (l.map key) x) l]
  rw [List.filter_append, List.filter_eq_self.2, List.filter_eq_nil_iff.2, List.append_nil]
  · intro a ha
    obtain ⟨i, hi, rfl⟩ := List.getElem_of_mem ha
    rw [List.getElem_drop]
    rw [List.length_drop] at hi
    intro h
    have := (lb_lt hu x (i := lb (l.map key) x + i) (by simp; omega)).1 (by simpa using h)
    omega
  · intro a ha
    obtain ⟨i, hi, rfl⟩ := List.getElem_of_mem ha
    rw [List.getElem_take]
    rw [List.length_take] at hi
    have := (lb_lt hu x (i := i) (by simp; omega)).2 (by omega)
    simpa using this
theorem key_at (hu : Up (l.map key)) (h : has (l.map key) x = true) : ∃ hk : lb (l.map key) x < l.length, key l[lb (l.map key) x] = x := by
  obtain ⟨h1, h2⟩ := (met_iff hu x).1 (has_iff.1 h)
  exact ⟨by simpa using h1, by simpa using h2⟩
theorem past_lb (hu : Up (l.map key)) {i : Nat} (hi : i < l.length) (h : lb (l.map key) x ≤ i) (hn : key l[i] ≠ x) : strLt x (key l[i]) = true := by
  refine lt_total ?_ hn
  cases hb : strLt (key l[i]) x with
  | false => rfl
  | true =>
    have := (lb_lt hu x (i := i) (by simpa using hi)).1 (by simpa using hb)
    omega
theorem more_drop (hu : Up (l.map key)) : l.filter (fun a => strLt x (key a)) = l.drop (if has (l.map key) x then lb (l.map key) x + 1 else lb (l.map key) x) := by
  have hlb : lb (l.map key) x ≤ l.length := by simpa using lb_le (l.map key) x
  conv => lhs; rw [← List.take_append_drop (if has (l.map key) x then lb (l.map key) x + 1 else lb (l.map key) x) l]
  rw [List.filter_append, List.filter_eq_nil_iff.2, List.filter_eq_self.2, List.nil_append]
  · intro a ha
    obtain ⟨i, hi, rfl⟩ := List.getElem_of_mem ha
    rw [List.getElem_drop]
    rw [List.length_drop] at hi
    split at hi <;> rename_i h
    · simp only [if_pos h]
      refine past_lb hu (by omega) (by omega) fun e => ?_
      obtain ⟨k1, k2⟩ := key_at hu h
      have := hu.lt (i := lb (l.map key) x) (j := lb (l.map key) x + 1 + i) (by omega) (by simp; omega)
      simp only [List.getElem_map] at this
      rw [k2, e, lt_irr] at this; cases this
    · simp only [if_neg h]
      refine past_lb hu (by omega) (by omega) fun e => h (has_iff.2 (e ▸ ?_))
      rw [List.mem_map]
      exact ⟨_, List.getElem_mem _, rfl⟩
  · intro a ha
    obtain ⟨i, hi, rfl⟩ := List.getElem_of_mem ha
    rw [List.getElem_take]
    rw [List.length_take] at hi
    rcases Nat.lt_or_ge i (lb (l.map key) x) with g | g
    · have := (lb_lt hu x (i := i) (by simp; omega)).2 g
      rw [List.getElem_map] at this
      rw [lt_asymm this]; simp
    · split at hi <;> rename_i h
      · obtain ⟨k1, k2⟩ := key_at hu h
        have : i = lb (l.map key) x := by omega
        simp only [this, k2, lt_irr]; simp
      · omega
theorem other_cut (hu : Up (l.map key)) (h : has (l.map key) x = true) : l.filter (fun a => !strEq (key a) x) = cutL l (lb (l.map key) x) := by
  obtain ⟨k1, k2⟩ := key_at hu h
  have e : l = l.take (lb (l.map key) x) ++ (l[lb (l.map key) x] :: l.drop (lb (l.map key) x + 1)) := by rw [← List.drop_eq_getElem_cons k1, List.take_append_drop]
  conv => lhs; rw [e]
  rw [List.filter_append, List.filter_cons, k2, strEq_self]
  simp only [Bool.not_true, Bool.false_eq_true, if_false]
  unfold cutL
  congr 1
  · refine List.filter_eq_self.2 fun a ha => ?_
    obtain ⟨i, hi, rfl⟩ := List.getElem_of_mem ha
    rw [List.getElem_take]
    rw [List.length_take] at hi
    have := (lb_lt hu x (i := i) (by simp; omega)).2 (by omega)
    rw [List.getElem_map] at this
    rw [strEq_no (lt_ne this)]; rfl
  · refine List.filter_eq_self.2 fun a ha => ?_
    obtain ⟨i, hi, rfl⟩ := List.getElem_of_mem ha
    rw [List.getElem_drop]
    rw [List.length_drop] at hi
    have := hu.lt (i := lb (l.map key) x) (j := lb (l.map key) x + 1 + i) (by omega) (by simp; omega)
    simp only [List.getElem_map] at this
    rw [k2] at this
    rw [strEq_no (fun e => lt_ne this e.symm)]; rfl
end

end Go.Proofs.YtdblhdpnllckhaaGreat.AE
end
section
set_option linter.unusedVariables false
set_option linter.unusedSimpArgs false
set_option maxRecDepth 20000
namespace Go.Proofs.YtdblhdpnllckhaaGreat.AE
open Go

abbrev pids (l : List TProp) : List ByteArray := l.map fun p => p.1
theorem pids_get {l : List TProp} {i : Nat} (h : i < l.length) : (rd sProp l i).1 = (pids l)[i]'(by simpa using h) := by rw [rd_get (e := sProp) h, List.getElem_map]
theorem propsN_up {l : List TProp} (h : propsN l = 0) : Up (pids l) := by
  refine up_of fun i hi hp => ?_
  have hi' : i < l.length := by simpa using hi
  have := (propsN_zero h hi').2.2 hp
  rw [pids_get (by omega : i - 1 < l.length), pids_get hi'] at this
  exact this

/-- Rows that may be. -/
structure LP (a : List ByteArray) (l : List TProp) : Prop where
  na : a.length ≤ 8
  nl : l.length ≤ 8
  ua : Up a
  ul : Up (pids l)
theorem LP.of {a : List ByteArray} {l : List TProp} (h : restN a l = 0) : LP a l := by
  obtain ⟨h1, h2, h3⟩ := restN_zero h
  exact ⟨h1, propsN_len h3, rowN_up h2, propsN_up h3⟩

def labelT (l : List ByteArray) (s : ByteArray) : List ByteArray × Int := if nameB s then (if has l s then ([], 10) else if l.length ≥ 8 then ([], 5) else (layL l (lb l s) s, 0)) else ([], 2)
def unlabelT (l : List ByteArray) (s : ByteArray) : List ByteArray × Int := if has l s then (cutL l (lb l s), 0) else ([], 9)
def setT (l : List TProp) (key : ByteArray) (v : TValue) : List TProp × Int :=
  if nameB key && valueB v then (if has (pids l) key then (l.set (lb (pids l) key) (key, v), 0) else if l.length ≥ 8 then ([], 5) else (layL l (lb (pids l) key) (key, v), 0)) else ([], 2)
def unsetT (l : List TProp) (key : ByteArray) : List TProp × Int := if has (pids l) key then (cutL l (lb (pids l) key), 0) else ([], 9)

theorem lb_len {l : List ByteArray} (s : ByteArray) : lb l s ≤ l.length := lb_le l s
theorem plb_len {l : List TProp} (s : ByteArray) : lb (pids l) s ≤ l.length := by simpa using lb_le (pids l) s
theorem plb_in {l : List TProp} {s : ByteArray} (hu : Up (pids l)) (h : has (pids l) s = true) : lb (pids l) s < l.length := by simpa using lb_in' hu h
where lb_in' {ks : List ByteArray} {x : ByteArray} (hu : Up ks) (h : has ks x = true) : lb ks x < ks.length := ((met_iff hu x).1 (has_iff.1 h)).1
theorem tlb_in {l : List ByteArray} {s : ByteArray} (hu : Up l) (h : has l s = true) : lb l s < l.length := ((met_iff hu s).1 (has_iff.1 h)).1

theorem With_ok (l : List ByteArray) (s : ByteArray) (hu : Up l) (hb : l.length ≤ 1000) : V.name_With l s = some (if has l s then (l, false) else (layL l (lb l s) s, true)) := by
  refine V.name_With.of _ _ ?_
  unfold F.name_With.B
  rw [Find_ok l s hu (by omega), Option.bind_some, cloneT_ok l (by unfold nmax; omega), Option.bind_some, Option.bind_some]
  cases h : has l s with
  | true => rfl
  | false =>
    show ((V.slices_Insert_stringstring l (lb l s : Int) [s]).bind fun t3 => some (t3, true)) = _
    rw [insT_ok l s (lb_len s) (by unfold nmax; omega)]
    rfl
theorem Without_ok (l : List ByteArray) (s : ByteArray) (hu : Up l) (hb : l.length ≤ 1000) : V.name_Without l s = some (if has l s then (cutL l (lb l s), true) else (l, false)) := by
  refine V.name_Without.of _ _ ?_
  unfold F.name_Without.B
  rw [Find_ok l s hu (by omega), Option.bind_some, cloneT_ok l (by unfold nmax; omega), Option.bind_some, Option.bind_some]
  cases h : has l s with
  | false => rfl
  | true =>
    have := tlb_in hu h
    show ((V.slices_Delete_stringstring l (lb l s : Int) (w64 ((lb l s : Int) + 1))).bind fun t3 => some (t3, true)) = _
    rw [w64_up this (by omega), delT_ok l this]
    rfl
theorem Label_ok (l : List ByteArray) (s : ByteArray) (hu : Up l) (hb : l.length ≤ 1000) (hs : s.size ≤ 140737488351232) : V.elem_Label l s = some (labelT l s) := by
  refine V.elem_Label.of _ _ ?_
  unfold F.elem_Label.B labelT
  rw [name_Check_ok s hs, Option.bind_some, With_ok l s hu hb]
  cases nameB s with
  | false => rfl
  | true =>
    cases h : has l s with
    | true => rfl
    | false =>
      show (bif decide (((layL l (lb l s) s).length : Int) > 8) then some ([], 5) else some (layL l (lb l s) s, 0)) = _
      rw [layL_len l s (lb_len s)]
      by_cases h8 : l.length ≥ 8
      · rw [if_yes (by omega)]; simp [h8]
      · rw [if_no (by omega)]; simp [h8]
theorem Unlabel_ok (l : List ByteArray) (s : ByteArray) (hu : Up l) (hb : l.length ≤ 1000) : V.elem_Unlabel l s = some (unlabelT l s) := by
  refine V.elem_Unlabel.of _ _ ?_
  unfold F.elem_Unlabel.B unlabelT
  rw [Without_ok l s hu hb, Option.bind_some]
  cases h : has l s <;> rfl

/-! ### The same by the document -/

theorem refLess_l (l : List ByteArray) (s : ByteArray) (hb : l.length ≤ 1000) : ∀ (d i : Nat) (n : Nat), i + d = l.length → n ≤ i → V.pleachref05_Less.l11010 l s (n : Int) (i : Int) = some ((n + ((l.drop i).filter fun a => strLt a s).length : Nat) : Int)
  | 0, i, n, h, hn => by
    refine V.pleachref05_Less.l11010.of _ _ _ _ ?_
    unfold F.pleachref05_Less.l11010.B
    rw [if_out (by omega), List.drop_eq_nil_of_le (by omega)]
    rfl
  | d + 1, i, n, h, hn => by
    have hi : i < l.length := by omega
    refine V.pleachref05_Less.l11010.of _ _ _ _ ?_
    unfold F.pleachref05_Less.l11010.B
    rw [if_in hi, guard_in hi, nat_cast, w64_up hi (by omega), w64_up (i := n) (n := l.length) (by omega) (by omega), drop_rd (e := .str) hi, List.filter_cons]
    cases hc : strLt (rd .str l i) s with
    | true =>
      rw [cond_true, refLess_l l s hb d (i + 1) (n + 1) (by omega) (by omega)]
      simp; omega
    | false =>
      rw [cond_false, refLess_l l s hb d (i + 1) n (by omega) (by omega)]
      simp
theorem refLess_ok (l : List ByteArray) (s : ByteArray) (hu : Up l) (hb : l.length ≤ 1000) : V.pleachref05_Less l s = some (lb l s : Int) := by
  refine V.pleachref05_Less.of _ _ ?_
  unfold F.pleachref05_Less.B
  have h := refLess_l l s hb l.length 0 0 (by omega) (by omega)
  have e := less_take (key := fun a : ByteArray => a) (l := l) (x := s) (by simpa using hu)
  simp only [List.map_id'] at e
  rw [List.drop_zero, e, List.length_take] at h
  have := lb_len (l := l) s
  rw [show (0 : Int) = ((0 : Nat) : Int) from rfl, h]
  simp; omega
theorem refWith_ok (l : List ByteArray) (s : ByteArray) (hu : Up l) (hb : l.length ≤ 1000) : V.pleachref05_With l s = some (if has l s then l else layL l (lb l s) s) := by
  have hlb := lb_len (l := l) s
  refine V.pleachref05_With.of _ _ ?_
  unfold F.pleachref05_With.B
  rw [refIn_ok l s (by omega), Option.bind_some]
  cases h : has l s with
  | true => rfl
  | false =>
    rw [refLess_ok l s hu hb, Option.bind_some, cond_false]
    simp only [nat_cast, List.take_length, List.drop_zero, List.nil_append]
    have g1 : (l.take (lb l s)).length ≤ 1000 := by rw [List.length_take]; omega
    have g2 : (l.take (lb l s) ++ [s]).length + (l.drop (lb l s)).length ≤ nmax := by unfold nmax; simp; omega
    have g3 : (l.take (lb l s)).length + [s].length ≤ nmax := by unfold nmax; simp; omega
    rw [guard_of (by simp; omega), guard_of (by simp; omega), meet_self, meet_self, guard_dec (by unfold nmax; omega), guard_dec g3, guard_dec g2]
    simp [layL]
theorem refOnly_l (l : List ByteArray) (s : ByteArray) (hb : l.length ≤ 1000) : ∀ (d i : Nat) (acc : List ByteArray), i + d = l.length → acc.length ≤ i → V.pleachref05_Only.l11010 l [s] (i : Int) acc = some (acc ++ (l.drop i).filter fun a => !strEq a s)
  | 0, i, acc, h, ha => by
    refine V.pleachref05_Only.l11010.of _ _ _ _ ?_
    unfold F.pleachref05_Only.l11010.B
    rw [if_out (by omega), List.drop_eq_nil_of_le (by omega), List.filter_nil, List.append_nil]
  | d + 1, i, acc, h, ha => by
    have hi : i < l.length := by omega
    refine V.pleachref05_Only.l11010.of _ _ _ _ ?_
    unfold F.pleachref05_Only.l11010.B
    rw [if_in hi, guard_in hi, nat_cast, refIn_ok _ _ (by simp), Option.bind_some, guard_in hi, w64_up hi (by omega), filt_rd (e := .str) l (fun a => !strEq a s) hi]
    show (bif !(strEq s (rd .str l i) || false) then _ else _) = some (acc ++ bif !strEq (rd .str l i) s then _ else _)
    rw [strEq_comm s, Bool.or_false, guard_dec (by unfold nmax; simp; omega)]
    cases strEq (rd .str l i) s with
    | true => exact refOnly_l l s hb d (i + 1) acc (by omega) (by omega)
    | false => rw [Bool.not_false, cond_true, cond_true, refOnly_l l s hb d (i + 1) _ (by omega) (by simp; omega)]; simp
theorem refLabel_ok (l : List ByteArray) (s : ByteArray) (hu : Up l) (hb : l.length ≤ 1000) (hs : s.size ≤ 140737488351232) : V.pleachref25_Label l s = some (labelT l s) := by
  refine V.pleachref25_Label.of _ _ ?_
  unfold F.pleachref25_Label.B labelT
  rw [refIs_ok s hs, Option.bind_some, refIn_ok l s (by omega), Option.bind_some, refWith_ok l s hu hb]
  cases nameB s with
  | false => rfl
  | true =>
    cases h : has l s with
    | true => rfl
    | false =>
      by_cases h8 : l.length ≥ 8
      · rw [Bool.not_true, cond_false, cond_false, if_yes (by omega)]; simp [h8]
      · rw [Bool.not_true, cond_false, cond_false, if_no (by omega)]; simp [h8]
theorem refUnlabel_ok (l : List ByteArray) (s : ByteArray) (hu : Up l) (hb : l.length ≤ 1000) : V.pleachref25_Unlabel l s = some (unlabelT l s) := by
  refine V.pleachref25_Unlabel.of _ _ ?_
  unfold F.pleachref25_Unlabel.B unlabelT
  rw [refIn_ok l s (by omega), Option.bind_some]
  cases h : has l s with
  | false => rfl
  | true =>
    have e := other_cut (key := fun a : ByteArray => a) (l := l) (x := s) (by simpa using hu) (by simpa using h)
    simp only [List.map_id'] at e
    rw [V.pleachref05_Only.of l [s] (refOnly_l l s hb l.length 0 [] (by omega) (by simp)), Option.bind_some, List.drop_zero, List.nil_append, e]
    rfl

/-! ### Properties -/

theorem find1_ok (p : TProp) (x : ByteArray) : V.elem_find_1 p x = some (cmpS p.1 x) := by
  refine V.elem_find_1.of _ _ ?_
  unfold F.elem_find_1.B
  rw [cmpCompareS_ok, Option.bind_some]
theorem find_ok (l : List TProp) (x : ByteArray) (hu : Up (pids l)) (hb : l.length ≤ 1000) : V.elem_find l x = some ((lb (pids l) x : Int), has (pids l) x) := by
  refine V.elem_find.of _ _ ?_
  unfold F.elem_find.B
  suffices hS : V.slices_BinarySearchFunc_apiPropapiPropstring_by_elem_find_1 l x = some ((lb (pids l) x : Int), has (pids l) x) by rw [hS, Option.bind_some]
  refine V.slices_BinarySearchFunc_apiPropapiPropstring_by_elem_find_1.of _ _ ?_
  unfold F.slices_BinarySearchFunc_apiPropapiPropstring_by_elem_find_1.B
  have hl : (pids l).length = l.length := by simp
  rw [show (l.length : Int) = ((pids l).length : Int) by simp]
  refine search_gen hu (V.slices_BinarySearchFunc_apiPropapiPropstring_by_elem_find_1.l11100 l x) (fun lo hi r h hh hr => ?_) (fun lo hlo => ?_)
  · refine V.slices_BinarySearchFunc_apiPropapiPropstring_by_elem_find_1.l11100.of _ _ _ _ ?_
    unfold F.slices_BinarySearchFunc_apiPropapiPropstring_by_elem_find_1.l11100.B
    rw [if_in h, half_nat (n := l.length) h (by omega) (by omega), guard_in (by omega), nat_cast, find1_ok, Option.bind_some, cmpS_neg, w64_up (n := l.length) (by omega) (by omega)]
    show (bif strLt (rd sProp l ((lo + hi) / 2)).1 x then _ else _) = _
    rw [pids_get (by omega), ← hr]
    cases strLt ((pids l)[(lo + hi) / 2]'(by omega)) x <;> rfl
  · refine V.slices_BinarySearchFunc_apiPropapiPropstring_by_elem_find_1.l11100.of _ _ _ _ ?_
    unfold F.slices_BinarySearchFunc_apiPropapiPropstring_by_elem_find_1.l11100.B
    rw [if_no (by omega)]
    rcases Nat.lt_or_ge lo l.length with h | h
    · rw [if_in h, guard_in h, nat_cast, find1_ok, Option.bind_some, cmpS_zero]
      show some ((lo : Int), decide ((rd sProp l lo).1 = x)) = _
      rw [pids_get h, List.getElem?_eq_getElem (by omega)]
      simp
    · rw [if_out h, List.getElem?_eq_none (by omega)]; simp
theorem Set_ok (l : List TProp) (key : ByteArray) (v : TValue) (hu : Up (pids l)) (hb : l.length ≤ 1000) (hs : key.size ≤ 140737488351232) : V.elem_Set l key v = some (setT l key v) := by
  refine V.elem_Set.of _ _ _ ?_
  unfold F.elem_Set.B setT
  rw [name_Check_ok key hs, Option.bind_some, show V.value_Check (v.1, v.2.1, v.2.2) = _ from value_Check_ok v, cloneP_ok l (by unfold nmax; omega), find_ok l key hu hb]
  cases nameB key with
  | false => rfl
  | true =>
    cases valueB v with
    | false => rfl
    | true =>
      cases h : has (pids l) key with
      | true =>
        have hk := plb_in hu h
        show guardK (decide (0 ≤ (lb (pids l) key : Int)) && decide ((lb (pids l) key : Int) < (l.length : Int))) (some (l.set (lb (pids l) key) ((rd sProp l (lb (pids l) key)).1, v.1, v.2.1, v.2.2), 0)) = _
        rw [guard_in hk, pids_get hk, ((met_iff hu key).1 (has_iff.1 h)).2]
        rfl
      | false =>
        show (bif decide ((l.length : Int) ≥ 8) then some ([], 5) else ((V.slices_Insert_apiPropapiProp l (lb (pids l) key : Int) [(key, v)]).bind fun t4 => some (t4, 0))) = _
        rw [insP_ok l _ (plb_len key) (by unfold nmax; omega), Option.bind_some]
        by_cases h8 : l.length ≥ 8
        · rw [if_yes (by omega)]; simp [h8]
        · rw [if_no (by omega)]; simp [h8]
theorem Unset_ok (l : List TProp) (key : ByteArray) (hu : Up (pids l)) (hb : l.length ≤ 1000) : V.elem_Unset l key = some (unsetT l key) := by
  refine V.elem_Unset.of _ _ ?_
  unfold F.elem_Unset.B unsetT
  rw [find_ok l key hu hb, Option.bind_some, cloneP_ok l (by unfold nmax; omega), Option.bind_some]
  cases h : has (pids l) key with
  | false => rfl
  | true =>
    have hk := plb_in hu h
    show ((V.slices_Delete_apiPropapiProp l (lb (pids l) key : Int) (w64 ((lb (pids l) key : Int) + 1))).bind fun t2 => some (t2, 0)) = _
    rw [w64_up hk (by omega), delP_ok l hk]
    rfl
theorem refAt_l (l : List TProp) (x : ByteArray) (hs : l.length ≤ 1000) : ∀ d i : Nat, i + d = l.length → (∀ j (hj : j < (pids l).length), j < i → (pids l)[j] ≠ x) → V.pleachref25_at.l1010 l x (i : Int) = some (atI (pids l) x)
  | 0, i, h, hn => by
    refine V.pleachref25_at.l1010.of _ _ _ ?_
    unfold F.pleachref25_at.l1010.B
    rw [if_out (by omega), atI_none fun j hj => hn j hj (by simp at hj; omega)]
  | d + 1, i, h, hn => by
    have hi : i < l.length := by omega
    refine V.pleachref25_at.l1010.of _ _ _ ?_
    unfold F.pleachref25_at.l1010.B
    rw [if_in hi, guard_in hi, nat_cast, w64_up hi (by omega), pids_get hi, atI_step (ks := pids l) (i := i) (by simpa using hi) hn]
    cases hc : strEq ((pids l)[i]'(by simpa using hi)) x with
    | true => rfl
    | false =>
      refine refAt_l l x hs d (i + 1) (by omega) fun j hj g1 e => ?_
      rcases Nat.lt_or_ge j i with g2 | g2
      · exact hn j hj g2 e
      · have : j = i := by omega
        subst this
        rw [e, strEq_self] at hc; cases hc
theorem refAt_ok (l : List TProp) (x : ByteArray) (hu : Up (pids l)) (hs : l.length ≤ 1000) : V.pleachref25_at l x = some (if has (pids l) x then (lb (pids l) x : Int) else -1) := by
  refine V.pleachref25_at.of _ _ ?_
  unfold F.pleachref25_at.B
  rw [← atI_up hu]
  exact refAt_l l x hs l.length 0 (by omega) fun j hj h => by omega
theorem refSet_l1 (l : List TProp) (key : ByteArray) (v : TValue) (hb : l.length ≤ 1000) : ∀ (d i : Nat) (acc : List TProp), i + d = l.length → acc.length ≤ 2000 + i → V.pleachref25_Set.l111111010 l key v (i : Int) acc = some (acc ++ (l.drop i).filter (fun p => strLt key p.1), 0)
  | 0, i, acc, h, ha => by
    refine V.pleachref25_Set.l111111010.of _ _ _ _ _ ?_
    unfold F.pleachref25_Set.l111111010.B
    rw [if_out (by omega), List.drop_eq_nil_of_le (by omega), List.filter_nil, List.append_nil]
  | d + 1, i, acc, h, ha => by
    have hi : i < l.length := by omega
    refine V.pleachref25_Set.l111111010.of _ _ _ _ _ ?_
    unfold F.pleachref25_Set.l111111010.B
    rw [if_in hi, guard_in hi, nat_cast, lt_or, Bool.not_not, guard_in hi, w64_up hi (by omega), filt_rd (e := sProp) l (fun p => strLt key p.1) hi]
    show (bif strLt key (rd sProp l i).1 then guardK (decide (acc.length + 1 ≤ nmax)) (V.pleachref25_Set.l111111010 l key v ((i + 1 : Nat) : Int) (acc ++ [rd sProp l i])) else V.pleachref25_Set.l111111010 l key v ((i + 1 : Nat) : Int) acc) = _
    rw [guard_dec (by unfold nmax; omega)]
    cases strLt key (rd sProp l i).1 with
    | true => rw [cond_true, cond_true, refSet_l1 l key v hb d (i + 1) _ (by omega) (by simp; omega)]; simp
    | false => exact refSet_l1 l key v hb d (i + 1) acc (by omega) (by omega)
theorem refSet_l0 (l : List TProp) (key : ByteArray) (v : TValue) (hb : l.length ≤ 1000) : ∀ (d i : Nat) (acc : List TProp), i + d = l.length → acc.length ≤ i → V.pleachref25_Set.l1111010 l key v (i : Int) acc = some ((acc ++ (l.drop i).filter (fun p => strLt p.1 key)) ++ [(key, v)] ++ l.filter (fun p => strLt key p.1), 0)
  | 0, i, acc, h, ha => by
    refine V.pleachref25_Set.l1111010.of _ _ _ _ _ ?_
    unfold F.pleachref25_Set.l1111010.B
    rw [if_out (by omega), List.drop_eq_nil_of_le (by omega), List.filter_nil, List.append_nil]
    show guardK (decide (acc.length + 1 ≤ nmax)) (V.pleachref25_Set.l111111010 l key v 0 (acc ++ [(key, v)])) = _
    rw [guard_dec (by unfold nmax; omega)]
    exact refSet_l1 l key v hb l.length 0 _ (by omega) (by simp; omega)
  | d + 1, i, acc, h, ha => by
    have hi : i < l.length := by omega
    refine V.pleachref25_Set.l1111010.of _ _ _ _ _ ?_
    unfold F.pleachref25_Set.l1111010.B
    rw [if_in hi, guard_in hi, nat_cast, guard_in hi, w64_up hi (by omega), filt_rd (e := sProp) l (fun p => strLt p.1 key) hi]
    show (bif strLt (rd sProp l i).1 key then guardK (decide (acc.length + 1 ≤ nmax)) (V.pleachref25_Set.l1111010 l key v ((i + 1 : Nat) : Int) (acc ++ [rd sProp l i])) else V.pleachref25_Set.l1111010 l key v ((i + 1 : Nat) : Int) acc) = _
    rw [guard_dec (by unfold nmax; omega)]
    cases strLt (rd sProp l i).1 key with
    | true => rw [cond_true, cond_true, refSet_l0 l key v hb d (i + 1) _ (by omega) (by simp; omega)]; simp
    | false => exact refSet_l0 l key v hb d (i + 1) acc (by omega) (by omega)
theorem refSet_ok (l : List TProp) (key : ByteArray) (v : TValue) (hu : Up (pids l)) (hb : l.length ≤ 1000) (hs : key.size ≤ 140737488351232) : V.pleachref25_Set l key v = some (setT l key v) := by
  refine V.pleachref25_Set.of _ _ _ ?_
  unfold F.pleachref25_Set.B setT
  rw [refIs_ok key hs, Option.bind_some, show V.pleachref06_Is (v.1, v.2.1, v.2.2) = _ from refVIs_ok v, refAt_ok l key hu hb]
  have h0 := refSet_l0 l key v hb l.length 0 [] (by omega) (by simp)
  rw [List.drop_zero, List.nil_append, less_take hu, more_drop hu] at h0
  have h0 : V.pleachref25_Set.l1111010 l key v 0 [] = _ := h0
  rw [h0]
  cases nameB key with
  | false => rfl
  | true =>
    cases valueB v with
    | false => rfl
    | true =>
      cases h : has (pids l) key with
      | true =>
        have hk := plb_in hu h
        show (bif decide ((lb (pids l) key : Int) < 0) then _ else some (l.take (lb (pids l) key) ++ [(key, v)] ++ l.drop (lb (pids l) key + 1), 0)) = some (l.set (lb (pids l) key) (key, v), 0)
        rw [if_no (by omega), List.set_eq_take_append_cons_drop, if_pos hk]
        simp
      | false =>
        show (bif decide ((l.length : Int) ≥ 8) then some ([], 5) else some (l.take (lb (pids l) key) ++ [(key, v)] ++ l.drop (lb (pids l) key), 0)) = _
        by_cases h8 : l.length ≥ 8
        · rw [if_yes (by omega)]; simp [h8]
        · rw [if_no (by omega)]; simp [h8, layL]
theorem refUnset_ok (l : List TProp) (key : ByteArray) (hu : Up (pids l)) (hb : l.length ≤ 1000) : V.pleachref25_Unset l key = some (unsetT l key) := by
  refine V.pleachref25_Unset.of _ _ ?_
  unfold F.pleachref25_Unset.B unsetT
  rw [refAt_ok l key hu hb, Option.bind_some]
  cases h : has (pids l) key with
  | false => rfl
  | true =>
    have hk := plb_in hu h
    simp only [if_true]
    rw [if_no (by omega), w64_up hk (by omega)]
    simp only [nat_cast, List.take_length, List.drop_zero, List.nil_append]
    rw [guard_of (by simp; omega), guard_of (by simp; omega), guard_dec (by unfold nmax; simp; omega), guard_dec (by unfold nmax; simp; omega)]
    rfl

end Go.Proofs.YtdblhdpnllckhaaGreat.AE
end
section
set_option linter.unusedVariables false
set_option linter.unusedSimpArgs false
set_option maxRecDepth 20000
namespace Go.Proofs.YtdblhdpnllckhaaGreat.AE
open Go

/-- The parts of an op. -/
abbrev oKey (o : TOp) : ByteArray := o.2.2.2.2.1
abbrev oVal (o : TOp) : TValue := o.2.2.2.2.2
structure okOp (o : TOp) : Prop where
  id : o.2.1.size ≤ 140737488351232
  fr : o.2.2.1.size ≤ 140737488351232
  to : o.2.2.2.1.size ≤ 140737488351232
  key : (oKey o).size ≤ 140737488351232
  vs : (oVal o).2.2.size ≤ 140737488351232
  vn : -9223372036854775808 ≤ (oVal o).2.1 ∧ (oVal o).2.1 ≤ 9223372036854775807

def rightB (o : TOp) : Bool :=
  nameB o.2.1 && (o.1 == 1 || o.1 == 2 || o.1 == 4 || (o.1 == 3 && (nameB o.2.2.1 && nameB o.2.2.2.1)) || ((o.1 == 5 || o.1 == 6 || o.1 == 7 || o.1 == 8 || o.1 == 10 || o.1 == 12) && nameB (oKey o)) || ((o.1 == 9 || o.1 == 11) && (nameB (oKey o) && valueB (oVal o))))

theorem right_end (o : TOp) (x : Bool) : V.graph_Right.j1111 o x = some (if x then 0 else 2) := by
  refine V.graph_Right.j1111.of _ _ ?_
  unfold F.graph_Right.j1111.B
  rw [V.graph_Right.j11111.of o (r := 0) rfl]
  cases x <;> rfl
theorem setT_nil (key : ByteArray) (v : TValue) : ((setT [] key v).2 == 0) = (nameB key && valueB v) := by
  unfold setT
  cases nameB key <;> cases valueB v <;> rfl
theorem right_3 (o : TOp) (h : okOp o) (x : Bool) : V.graph_Right.j1110101111111 o x = some (if x && (nameB (oKey o) && valueB (oVal o)) then 0 else 2) := by
  refine V.graph_Right.j1110101111111.of _ _ ?_
  unfold F.graph_Right.j1110101111111.B
  cases x with
  | false => exact right_end o false
  | true =>
    rw [show V.elem_Set [] o.2.2.2.2.1 (o.2.2.2.2.2.1, o.2.2.2.2.2.2.1, o.2.2.2.2.2.2.2) = _ from Set_ok [] (oKey o) (oVal o) up_nil (by simp) h.key, Option.bind_some, setT_nil, right_end]
    rfl
theorem right_2 (o : TOp) (h : okOp o) (x : Bool) : V.graph_Right.j11101011111 o x = some (if (x && nameB (oKey o)) || (!x && ((o.1 == 9 || o.1 == 11) && (nameB (oKey o) && valueB (oVal o)))) then 0 else 2) := by
  refine V.graph_Right.j11101011111.of _ _ ?_
  unfold F.graph_Right.j11101011111.B
  cases x with
  | true =>
    rw [name_Check_ok _ h.key, Option.bind_some, right_end]
    cases nameB (oKey o) <;> rfl
  | false =>
    rw [right_3 o h, right_3 o h]
    cases h9 : o.1 == 9 <;> simp
theorem right_1 (o : TOp) (h : okOp o) (x : Bool) : V.graph_Right.j1110101 o x = some (if x || ((o.1 == 3 && (nameB o.2.2.1 && nameB o.2.2.2.1)) || (!(o.1 == 3) && (((o.1 == 5 || o.1 == 6 || o.1 == 7 || o.1 == 8 || o.1 == 10 || o.1 == 12) && nameB (oKey o)) || (!(o.1 == 5 || o.1 == 6 || o.1 == 7 || o.1 == 8 || o.1 == 10 || o.1 == 12) && ((o.1 == 9 || o.1 == 11) && (nameB (oKey o) && valueB (oVal o))))))) then 0 else 2) := by
  refine V.graph_Right.j1110101.of _ _ ?_
  unfold F.graph_Right.j1110101.B
  rw [right_2 o h, right_2 o h, right_2 o h, right_2 o h, right_2 o h, right_2 o h]
  simp only [right_end, name_Check_ok _ h.fr, name_Check_ok _ h.to, Option.bind_some]
  cases x with
  | true => rfl
  | false =>
    cases h3 : o.1 == 3 with
    | true => cases nameB o.2.2.1 <;> cases nameB o.2.2.2.1 <;> rfl
    | false =>
      cases h5 : o.1 == 5 <;> cases h6 : o.1 == 6 <;> cases h7 : o.1 == 7 <;> cases h8 : o.1 == 8 <;> cases h10 : o.1 == 10 <;> simp
theorem Right_ok (o : TOp) (h : okOp o) : V.graph_Right o = some (if rightB o then 0 else 2) := by
  refine V.graph_Right.of _ ?_
  unfold F.graph_Right.B rightB
  rw [name_Check_ok _ h.id, Option.bind_some, right_1 o h, right_1 o h, right_1 o h]
  cases nameB o.2.1 with
  | false => rfl
  | true =>
    by_cases k1 : o.1 = 1
    · simp [k1]
    · by_cases k2 : o.1 = 2
      · simp [k2]
      · by_cases k4 : o.1 = 4
        · simp [k4]
        · by_cases k3 : o.1 = 3
          · simp [k3]
          · have e1 : (o.1 == 1) = false := by simpa using k1
            have e2 : (o.1 == 2) = false := by simpa using k2
            have e3 : (o.1 == 3) = false := by simpa using k3
            have e4 : (o.1 == 4) = false := by simpa using k4
            simp only [e1, e2, e3, e4]
            cases hq : (o.1 == 5 || o.1 == 6 || o.1 == 7 || o.1 == 8 || o.1 == 10 || o.1 == 12) with
            | false => simp
            | true =>
              have : (o.1 == 9 || o.1 == 11) = false := by
                simp only [Bool.or_eq_true, beq_iff_eq] at hq
                simp only [Bool.or_eq_false_iff, beq_eq_false_iff_ne]
                omega
              simp [this]
theorem refRight_ok (o : TOp) (h : okOp o) : V.pleachref26_Right o = some (rightB o) := by
  refine V.pleachref26_Right.of _ ?_
  unfold F.pleachref26_Right.B rightB
  rw [refIs_ok _ h.id, Option.bind_some, refIs_ok _ h.fr, refIs_ok _ h.to, refIs_ok _ h.key, show V.pleachref06_Is (o.2.2.2.2.2.1, o.2.2.2.2.2.2.1, o.2.2.2.2.2.2.2) = _ from refVIs_ok (oVal o)]
  simp only [Option.bind_some]
  cases nameB o.2.1 with
  | false => rfl
  | true =>
    rw [Bool.not_true, cond_false]
    rcases Int.lt_or_le o.1 1 with g | g
    · rw [if_yes g]
      simp only [beq_false_of_ne (show o.1 ≠ 1 by omega), beq_false_of_ne (show o.1 ≠ 2 by omega), beq_false_of_ne (show o.1 ≠ 3 by omega), beq_false_of_ne (show o.1 ≠ 4 by omega), beq_false_of_ne (show o.1 ≠ 5 by omega), beq_false_of_ne (show o.1 ≠ 6 by omega), beq_false_of_ne (show o.1 ≠ 7 by omega), beq_false_of_ne (show o.1 ≠ 8 by omega), beq_false_of_ne (show o.1 ≠ 9 by omega), beq_false_of_ne (show o.1 ≠ 10 by omega), beq_false_of_ne (show o.1 ≠ 11 by omega), beq_false_of_ne (show o.1 ≠ 12 by omega)]
      rfl
    · rw [if_no (by omega)]
      rcases Int.lt_or_le 12 o.1 with g2 | g2
      · rw [if_yes (by omega)]
        simp only [beq_false_of_ne (show o.1 ≠ 1 by omega), beq_false_of_ne (show o.1 ≠ 2 by omega), beq_false_of_ne (show o.1 ≠ 3 by omega), beq_false_of_ne (show o.1 ≠ 4 by omega), beq_false_of_ne (show o.1 ≠ 5 by omega), beq_false_of_ne (show o.1 ≠ 6 by omega), beq_false_of_ne (show o.1 ≠ 7 by omega), beq_false_of_ne (show o.1 ≠ 8 by omega), beq_false_of_ne (show o.1 ≠ 9 by omega), beq_false_of_ne (show o.1 ≠ 10 by omega), beq_false_of_ne (show o.1 ≠ 11 by omega), beq_false_of_ne (show o.1 ≠ 12 by omega)]
        rfl
      · rw [if_no (by omega)]
        have : o.1 = 1 ∨ o.1 = 2 ∨ o.1 = 3 ∨ o.1 = 4 ∨ o.1 = 5 ∨ o.1 = 6 ∨ o.1 = 7 ∨ o.1 = 8 ∨ o.1 = 9 ∨ o.1 = 10 ∨ o.1 = 11 ∨ o.1 = 12 := by omega
        rcases this with e | e | e | e | e | e | e | e | e | e | e | e <;> rw [e] <;> first
          | rfl
          | (cases nameB o.2.2.1 <;> cases nameB o.2.2.2.1 <;> rfl)
          | (cases nameB (oKey o) <;> rfl)
          | (cases nameB (oKey o) <;> cases valueB (oVal o) <;> rfl)

/-- What becomes of labels and properties by an op. -/
def turnT (a : List ByteArray) (l : List TProp) (o : TOp) : List ByteArray × List TProp × Int :=
  if o.1 = 5 ∨ o.1 = 7 then (if (labelT a (oKey o)).2 = 0 then ((labelT a (oKey o)).1, l, 0) else ([], [], (labelT a (oKey o)).2))
  else if o.1 = 6 ∨ o.1 = 8 then (if (unlabelT a (oKey o)).2 = 0 then ((unlabelT a (oKey o)).1, l, 0) else ([], [], (unlabelT a (oKey o)).2))
  else if o.1 = 9 ∨ o.1 = 11 then (if (setT l (oKey o) (oVal o)).2 = 0 then (a, (setT l (oKey o) (oVal o)).1, 0) else ([], [], (setT l (oKey o) (oVal o)).2))
  else if o.1 = 10 ∨ o.1 = 12 then (if (unsetT l (oKey o)).2 = 0 then (a, (unsetT l (oKey o)).1, 0) else ([], [], (unsetT l (oKey o)).2))
  else ([], [], 2)

theorem cut_small {α : Type} (l : List α) (k : Nat) (h : l.length ≤ 1000) : (cutL l k).length ≤ 1001 := by simp [cutL]; omega
theorem lay_small {α : Type} (l : List α) (k : Nat) (x : α) (h : l.length ≤ 1000) : (layL l k x).length ≤ 2002 := by simp [layL]; omega
theorem labelT_len (a : List ByteArray) (s : ByteArray) (h : a.length ≤ 1000) : (labelT a s).1.length ≤ 2002 := by
  unfold labelT; split; split; simp; split; simp; exact lay_small _ _ _ h; simp
theorem unlabelT_len (a : List ByteArray) (s : ByteArray) (h : a.length ≤ 1000) : (unlabelT a s).1.length ≤ 2002 := by
  unfold unlabelT; split
  · have := cut_small a (lb a s) h; simp only; omega
  · simp
theorem setT_len (l : List TProp) (s : ByteArray) (v : TValue) (h : l.length ≤ 1000) : (setT l s v).1.length ≤ 2002 := by
  unfold setT; split; split; simp; omega; split; simp; exact lay_small _ _ _ h; simp
theorem unsetT_len (l : List TProp) (s : ByteArray) (h : l.length ≤ 1000) : (unsetT l s).1.length ≤ 2002 := by
  unfold unsetT; split
  · have := cut_small l (lb (pids l) s) h; simp only; omega
  · simp
theorem turn_end (a : List ByteArray) (l : List TProp) (o : TOp) (a' : List ByteArray) (l' : List TProp) (e : Int) (ha : a'.length ≤ 2002) (hl : l'.length ≤ 2002) : V.graph_Turn.j111 a l o a' l' e = some (if e = 0 then (a', l', 0) else ([], [], e)) := by
  refine V.graph_Turn.j111.of _ _ _ _ _ _ ?_
  unfold F.graph_Turn.j111.B
  by_cases h : e = 0
  · subst h
    refine V.graph_Turn.j1111.of _ _ _ _ _ ?_
    unfold F.graph_Turn.j1111.B
    rw [cloneT_ok _ (by unfold nmax; omega), cloneP_ok _ (by unfold nmax; omega)]
    rfl
  · simp [Bool.cond_eq_ite, h]
theorem Turn_ok (a : List ByteArray) (l : List TProp) (o : TOp) (h : LP a l) (ho : okOp o) : V.graph_Turn a l o = some (turnT a l o) := by
  have na := h.na
  have nl := h.nl
  have t4 : ∀ x : Bool, V.graph_Turn.j110101111111 a l o x = some (if x then (if (unsetT l (oKey o)).2 = 0 then (a, (unsetT l (oKey o)).1, 0) else ([], [], (unsetT l (oKey o)).2)) else ([], [], 2)) := fun x => by
    refine V.graph_Turn.j110101111111.of _ _ _ _ ?_
    unfold F.graph_Turn.j110101111111.B
    rw [Unset_ok l _ h.ul (by omega), Option.bind_some, turn_end _ _ _ _ _ _ (by omega) (unsetT_len l _ (by omega)), turn_end _ _ _ _ _ _ (by omega) (by omega)]
    cases x <;> rfl
  have t3 : ∀ x : Bool, V.graph_Turn.j1101011111 a l o x = some (if x then (if (setT l (oKey o) (oVal o)).2 = 0 then (a, (setT l (oKey o) (oVal o)).1, 0) else ([], [], (setT l (oKey o) (oVal o)).2)) else if o.1 = 10 ∨ o.1 = 12 then (if (unsetT l (oKey o)).2 = 0 then (a, (unsetT l (oKey o)).1, 0) else ([], [], (unsetT l (oKey o)).2)) else ([], [], 2)) := fun x => by
    refine V.graph_Turn.j1101011111.of _ _ _ _ ?_
    unfold F.graph_Turn.j1101011111.B
    rw [show V.elem_Set l o.2.2.2.2.1 (o.2.2.2.2.2.1, o.2.2.2.2.2.2.1, o.2.2.2.2.2.2.2) = _ from Set_ok l (oKey o) (oVal o) h.ul (by omega) ho.key, Option.bind_some, turn_end _ _ _ _ _ _ (by omega) (setT_len l _ _ (by omega)), t4, t4]
    cases x with
    | true => rfl
    | false => by_cases e : o.1 = 10 <;> by_cases e' : o.1 = 12 <;> simp [e, e']
  have t2 : ∀ x : Bool, V.graph_Turn.j11010111 a l o x = some (if x then (if (unlabelT a (oKey o)).2 = 0 then ((unlabelT a (oKey o)).1, l, 0) else ([], [], (unlabelT a (oKey o)).2)) else if o.1 = 9 ∨ o.1 = 11 then (if (setT l (oKey o) (oVal o)).2 = 0 then (a, (setT l (oKey o) (oVal o)).1, 0) else ([], [], (setT l (oKey o) (oVal o)).2)) else if o.1 = 10 ∨ o.1 = 12 then (if (unsetT l (oKey o)).2 = 0 then (a, (unsetT l (oKey o)).1, 0) else ([], [], (unsetT l (oKey o)).2)) else ([], [], 2)) := fun x => by
    refine V.graph_Turn.j11010111.of _ _ _ _ ?_
    unfold F.graph_Turn.j11010111.B
    rw [Unlabel_ok a _ h.ua (by omega), Option.bind_some, turn_end _ _ _ _ _ _ (unlabelT_len a _ (by omega)) (by omega), t3, t3]
    cases x with
    | true => rfl
    | false => by_cases e : o.1 = 9 <;> by_cases e' : o.1 = 11 <;> simp [e, e']
  have t1 : ∀ x : Bool, V.graph_Turn.j110101 a l o x = some (if x then (if (labelT a (oKey o)).2 = 0 then ((labelT a (oKey o)).1, l, 0) else ([], [], (labelT a (oKey o)).2)) else if o.1 = 6 ∨ o.1 = 8 then (if (unlabelT a (oKey o)).2 = 0 then ((unlabelT a (oKey o)).1, l, 0) else ([], [], (unlabelT a (oKey o)).2)) else if o.1 = 9 ∨ o.1 = 11 then (if (setT l (oKey o) (oVal o)).2 = 0 then (a, (setT l (oKey o) (oVal o)).1, 0) else ([], [], (setT l (oKey o) (oVal o)).2)) else if o.1 = 10 ∨ o.1 = 12 then (if (unsetT l (oKey o)).2 = 0 then (a, (unsetT l (oKey o)).1, 0) else ([], [], (unsetT l (oKey o)).2)) else ([], [], 2)) := fun x => by
    refine V.graph_Turn.j110101.of _ _ _ _ ?_
    unfold F.graph_Turn.j110101.B
    rw [Label_ok a _ h.ua (by omega) ho.key, Option.bind_some, turn_end _ _ _ _ _ _ (labelT_len a _ (by omega)) (by omega), t2, t2]
    cases x with
    | true => rfl
    | false => by_cases e : o.1 = 6 <;> by_cases e' : o.1 = 8 <;> simp [e, e']
  refine V.graph_Turn.of _ _ _ ?_
  unfold F.graph_Turn.B turnT
  rw [t1, t1]
  by_cases e : o.1 = 5 <;> by_cases e' : o.1 = 7 <;> simp [e, e']
theorem bif_ne {α : Type} (e : Int) (x y : α) : (bif (e != 0) then x else y) = if e = 0 then y else x := by
  by_cases h : e = 0 <;> simp [h, Bool.cond_eq_ite]
theorem bif_eq {α : Type} (e f : Int) (x y : α) : (bif (e == f) then x else y) = if e = f then x else y := by
  by_cases h : e = f <;> simp [h, Bool.cond_eq_ite]
theorem refTurn_ok (a : List ByteArray) (l : List TProp) (o : TOp) (h : LP a l) (ho : okOp o) : V.pleachref26_Turn a l o = some (turnT a l o) := by
  have na := h.na
  have nl := h.nl
  refine V.pleachref26_Turn.of _ _ _ ?_
  unfold F.pleachref26_Turn.B turnT
  rw [refLabel_ok a _ h.ua (by omega) ho.key, refUnlabel_ok a _ h.ua (by omega), show V.pleachref25_Set l o.2.2.2.2.1 (o.2.2.2.2.2.1, o.2.2.2.2.2.2.1, o.2.2.2.2.2.2.2) = _ from refSet_ok l (oKey o) (oVal o) h.ul (by omega) ho.key, refUnset_ok l _ h.ul (by omega)]
  simp only [Option.bind_some, bif_ne, bif_eq]
  by_cases e5 : o.1 = 5
  · rw [if_pos e5, if_pos (show o.1 = 5 ∨ o.1 = 7 from .inl e5)]; split <;> rename_i g <;> simp [g]
  rw [if_neg e5]
  by_cases e7 : o.1 = 7
  · rw [if_pos e7, if_pos (show o.1 = 5 ∨ o.1 = 7 from .inr e7)]; split <;> rename_i g <;> simp [g]
  rw [if_neg e7, if_neg (show ¬ (o.1 = 5 ∨ o.1 = 7) by omega)]
  by_cases e6 : o.1 = 6
  · rw [if_pos e6, if_pos (show o.1 = 6 ∨ o.1 = 8 from .inl e6)]; split <;> rename_i g <;> simp [g]
  rw [if_neg e6]
  by_cases e8 : o.1 = 8
  · rw [if_pos e8, if_pos (show o.1 = 6 ∨ o.1 = 8 from .inr e8)]; split <;> rename_i g <;> simp [g]
  rw [if_neg e8, if_neg (show ¬ (o.1 = 6 ∨ o.1 = 8) by omega)]
  by_cases e9 : o.1 = 9
  · rw [if_pos e9, if_pos (show o.1 = 9 ∨ o.1 = 11 from .inl e9)]; split <;> rename_i g <;> simp [g]
  rw [if_neg e9]
  by_cases e11 : o.1 = 11
  · rw [if_pos e11, if_pos (show o.1 = 9 ∨ o.1 = 11 from .inr e11)]; split <;> rename_i g <;> simp [g]
  rw [if_neg e11, if_neg (show ¬ (o.1 = 9 ∨ o.1 = 11) by omega)]
  by_cases e10 : o.1 = 10
  · rw [if_pos e10, if_pos (show o.1 = 10 ∨ o.1 = 12 from .inl e10)]; split <;> rename_i g <;> simp [g]
  rw [if_neg e10]
  by_cases e12 : o.1 = 12
  · rw [if_pos e12, if_pos (show o.1 = 10 ∨ o.1 = 12 from .inr e12)]; split <;> rename_i g <;> simp [g]
  rw [if_neg e12, if_neg (show ¬ (o.1 = 10 ∨ o.1 = 12) by omega)]

/-- Few ops: that is told of any. -/
theorem FewOps_l (l : List TOp) (hl : l.length ≤ 140737488351232) : ∀ (d i : Nat) (x : Int), i + d = l.length → ∃ b, V.pleachref26_FewOps.l11010 l x (i : Int) = some b ∧ (b = true → l.length ≤ 70)
  | 0, i, x, h => by
    have e : V.pleachref26_FewOps.l11010 l x (i : Int) = some (if l.length ≤ 70 then decide (x ≤ 5000) else false) := by
      refine V.pleachref26_FewOps.l11010.of _ _ _ ?_
      unfold F.pleachref26_FewOps.l11010.B
      rw [if_out (by omega)]
      by_cases g : l.length ≤ 70
      · rw [if_yes (by omega), if_pos g]
      · rw [if_no (by omega), if_neg g]
    refine ⟨_, e, fun h => ?_⟩
    split at h
    · assumption
    · cases h
  | d + 1, i, x, h => by
    have hi : i < l.length := by omega
    by_cases g : i ≤ 70
    · obtain ⟨b, hb, q⟩ := FewOps_l l hl d (i + 1) (w64 ((w64 ((w64 ((w64 ((w64 (x + cut5 (rd sOp l i).2.1)) + cut5 (rd sOp l i).2.2.1)) + cut5 (rd sOp l i).2.2.2.1)) + cut5 (rd sOp l i).2.2.2.2.1)) + cut5 (rd sOp l i).2.2.2.2.2.2.2)) (by omega)
      refine ⟨b, V.pleachref26_FewOps.l11010.of _ _ _ ?_, q⟩
      unfold F.pleachref26_FewOps.l11010.B
      rw [if_in hi, if_yes (by omega : (i : Int) ≤ 70), guard_in hi, guard_in hi, guard_in hi, guard_in hi, guard_in hi, nat_cast, w64_up hi hl]
      exact hb
    · have e : V.pleachref26_FewOps.l11010 l x (i : Int) = some false := by
        refine V.pleachref26_FewOps.l11010.of _ _ _ ?_
        unfold F.pleachref26_FewOps.l11010.B
        rw [if_in hi, if_no (by omega : ¬ (i : Int) ≤ 70), if_no (by omega)]
      exact ⟨_, e, fun h => by cases h⟩
theorem FewOps_ok (l : List TOp) (hl : l.length ≤ 140737488351232) : ∃ b, V.pleachref26_FewOps l = some b ∧ (b = true → l.length ≤ 70) := by
  obtain ⟨b, h, q⟩ := FewOps_l l hl l.length 0 0 (by omega)
  exact ⟨b, V.pleachref26_FewOps.of _ h, q⟩

theorem gd_op {o : TOp} (h : Gd sOp o) : okOp o := ⟨h.2.1, h.2.2.1, h.2.2.2.1, h.2.2.2.2.1, h.2.2.2.2.2.2.2, gd_i64 h.2.2.2.2.2.2.1⟩
theorem OfEdge_ok (k : Int) : V.graph_OfEdge k = some (k == 7 || k == 8 || k == 11 || k == 12) := by
  refine V.graph_OfEdge.of _ ?_
  unfold F.graph_OfEdge.B
  cases k == 7 <;> cases k == 8 <;> cases k == 11 <;> cases k == 12 <;> rfl

end Go.Proofs.YtdblhdpnllckhaaGreat.AE
end
section
set_option linter.unusedVariables false
set_option linter.unusedSimpArgs false
set_option maxRecDepth 20000
namespace Go.Proofs.YtdblhdpnllckhaaGreat.AE
open Go

section
variable {α : Type} {l : List α} {k : Nat} {x y : α}
theorem mem_lay : y ∈ layL l k x ↔ y ∈ l ∨ y = x := by
  have e : y ∈ l ↔ y ∈ l.take k ∨ y ∈ l.drop k := by rw [← List.mem_append, List.take_append_drop]
  unfold layL
  rw [e, List.mem_append, List.mem_append, List.mem_singleton]
  constructor
  · rintro (h | h | h)
    · exact .inl (.inl h)
    · exact .inr h
    · exact .inl (.inr h)
  · rintro ((h | h) | h)
    · exact .inl h
    · exact .inr (.inr h)
    · exact .inr (.inl h)
theorem cut_sub (l : List α) (k : Nat) : (cutL l k).Sublist l := by
  unfold cutL
  conv => rhs; rw [← List.take_append_drop k l]
  refine List.Sublist.append (List.Sublist.refl _) ?_
  rw [show l.drop (k + 1) = (l.drop k).drop 1 by rw [List.drop_drop]]
  exact List.drop_sublist 1 _
theorem mem_cut (h : y ∈ cutL l k) : y ∈ l := (cut_sub l k).subset h
theorem mem_cut_other (hk : k < l.length) (h : y ∈ l) (hn : y ≠ l[k]) : y ∈ cutL l k := by
  have e : l = l.take k ++ (l[k] :: l.drop (k + 1)) := by rw [← List.drop_eq_getElem_cons hk, List.take_append_drop]
  rw [e, List.mem_append, List.mem_cons] at h
  unfold cutL
  rw [List.mem_append]
  rcases h with h | h | h
  · exact .inl h
  · exact absurd h hn
  · exact .inr h
theorem map_lay {β : Type} (f : α → β) : (layL l k x).map f = layL (l.map f) k (f x) := by simp [layL, List.map_take, List.map_drop]
theorem map_cut {β : Type} (f : α → β) : (cutL l k).map f = cutL (l.map f) k := by simp [cutL, List.map_take, List.map_drop]
end
theorem up_cut {ks : List ByteArray} (hu : Up ks) (k : Nat) : Up (cutL ks k) := List.Pairwise.sublist (cut_sub ks k) hu
theorem up_lay {ks : List ByteArray} {x : ByteArray} (hu : Up ks) (h : has ks x = false) : Up (layL ks (lb ks x) x) := by
  have hn : ∀ y ∈ ks, y ≠ x := fun y hy e => by
    have := has_iff.2 (e ▸ hy)
    rw [h] at this; cases this
  have hs := hu
  unfold Up at hs
  rw [← List.take_append_drop (lb ks x) ks, List.pairwise_append] at hs
  have ht : ∀ a ∈ ks.take (lb ks x), strLt a x = true := fun a ha => by
    obtain ⟨i, hi, rfl⟩ := List.getElem_of_mem ha
    rw [List.getElem_take]
    rw [List.length_take] at hi
    exact (lb_lt hu x (by omega)).2 (by omega)
  have hd : ∀ b ∈ ks.drop (lb ks x), strLt x b = true := fun b hb => by
    obtain ⟨i, hi, rfl⟩ := List.getElem_of_mem hb
    rw [List.getElem_drop]
    rw [List.length_drop] at hi
    refine lt_total ?_ (hn _ (List.getElem_mem _))
    cases hq : strLt (ks[lb ks x + i]'(by omega)) x with
    | false => rfl
    | true => have := (lb_lt hu x (by omega)).1 hq; omega
  unfold Up layL
  rw [List.pairwise_append]
  refine ⟨hs.1, ?_, fun a ha b hb => ?_⟩
  · rw [List.singleton_append, List.pairwise_cons]
    exact ⟨hd, hs.2.1⟩
  · rw [List.mem_append, List.mem_singleton] at hb
    rcases hb with rfl | hb
    · exact ht a ha
    · exact hs.2.2 a ha b hb
theorem has_lb {ks : List ByteArray} {x : ByteArray} (hu : Up ks) (h : has ks x = true) : ∃ hk : lb ks x < ks.length, ks[lb ks x] = x := (met_iff hu x).1 (has_iff.1 h)

/-! ### Labels and properties -/

theorem rest_names {a : List ByteArray} {l : List TProp} (h : restN a l = 0) : (∀ s ∈ a, nameB s = true) ∧ ∀ p ∈ l, nameB p.1 = true ∧ valueB p.2 = true := by
  obtain ⟨h1, h2, h3⟩ := restN_zero h
  refine ⟨fun s hs => ?_, fun p hp => ?_⟩
  · obtain ⟨i, hi, rfl⟩ := List.getElem_of_mem hs
    have := (rowN_zero h2 hi).1
    rwa [rd_get (e := .str) hi] at this
  · obtain ⟨i, hi, rfl⟩ := List.getElem_of_mem hp
    have := propsN_zero h3 hi
    rw [rd_get (e := sProp) hi] at this
    exact ⟨this.1, this.2.1⟩
theorem restN_of {a : List ByteArray} {l : List TProp} (h : LP a l) (ha : ∀ s ∈ a, nameB s = true) (hl : ∀ p ∈ l, nameB p.1 = true ∧ valueB p.2 = true) : restN a l = 0 := by
  have r : rowN a = 0 := scanI_none _ _ fun j _ hj => by
    have hj' : j < a.length := by omega
    unfold textStep
    rw [if_neg (by rw [ha _ (rd_mem (e := .str) hj')]; simp), if_neg]
    rintro ⟨h0, h1⟩
    have := h.ua.lt (i := j - 1) (j := j) (by omega) hj'
    rw [rd_get (e := .str) hj', rd_get (e := .str) (by omega : j - 1 < a.length), this] at h1
    cases h1
  have p : propsN l = 0 := by
    unfold propsN
    rw [if_neg (by have := h.nl; omega)]
    refine scanI_none _ _ fun j _ hj => ?_
    have hj' : j < l.length := by omega
    have m := hl _ (rd_mem (e := sProp) hj')
    unfold propStep
    rw [if_neg (by rw [m.1, m.2]; simp), if_neg]
    rintro ⟨h0, h1⟩
    have := h.ul.lt (i := j - 1) (j := j) (by omega) (by simpa using hj')
    rw [← pids_get hj', ← pids_get (by omega : j - 1 < l.length), h1] at this
    cases this
  unfold restN
  rw [if_neg (by have := h.na; omega), if_pos r, p]

/-- Labels and properties that may be, behind an op. -/
theorem turn_good {a : List ByteArray} {l : List TProp} {o : TOp} (h : restN a l = 0) (ha : okTexts a) (hl : okProps l) (ho : okOp o) (ht : (turnT a l o).2.2 = 0) : restN (turnT a l o).1 (turnT a l o).2.1 = 0 ∧ okTexts (turnT a l o).1 ∧ okProps (turnT a l o).2.1 := by
  have lp := LP.of h
  obtain ⟨na, nl⟩ := rest_names h
  unfold turnT at ht ⊢
  split at ht
  · rename_i g
    simp only [g, if_true]
    split at ht
    · rename_i g2
      simp only [g2, if_true]
      unfold labelT at g2 ⊢
      split at g2
      · rename_i k1
        simp only [k1, if_true]
        split at g2
        · cases g2
        · rename_i k2
          simp only [k2, Bool.false_eq_true, if_false]
          split at g2
          · cases g2
          · rename_i k3
            have hn : has a (oKey o) = false := by simpa using k2
            simp only [k3, if_false]
            refine ⟨restN_of ⟨by rw [layL_len _ _ (lb_len _)]; omega, lp.nl, up_lay lp.ua hn, lp.ul⟩ (fun s hs => ?_) nl, ⟨by rw [layL_len _ _ (lb_len _)]; omega, fun s hs => ?_⟩, hl⟩
            · rcases mem_lay.1 hs with hs | rfl
              · exact na s hs
              · exact k1
            · rcases mem_lay.1 hs with hs | rfl
              · exact ha.2 s hs
              · exact ho.key
      · cases g2
    · rename_i g2
      simp only at ht
      exact absurd ht g2
  · split at ht
    · rename_i g0 g
      simp only [g0, g, if_true, if_false]
      split at ht
      · rename_i g2
        simp only [g2, if_true]
        unfold unlabelT at g2 ⊢
        split at g2
        · rename_i k1
          simp only [k1, if_true]
          have hc := (cut_sub a (lb a (oKey o))).length_le
          have := lp.na
          exact ⟨restN_of ⟨by omega, lp.nl, up_cut lp.ua _, lp.ul⟩ (fun s hs => na s (mem_cut hs)) nl, ⟨by omega, fun s hs => ha.2 s (mem_cut hs)⟩, hl⟩
        · cases g2
      · rename_i g2
        simp only at ht
        exact absurd ht g2
    · split at ht
      · rename_i g0 g1 g
        simp only [g0, g1, g, if_true, if_false]
        split at ht
        · rename_i g2
          simp only [g2, if_true]
          unfold setT at g2 ⊢
          split at g2
          · rename_i k1
            simp only [k1, if_true]
            have k1' := k1
            rw [Bool.and_eq_true] at k1'
            have okp : ((oKey o, oVal o) : TProp).1.size ≤ 140737488351232 ∧ ((oKey o, oVal o) : TProp).2.2.2.size ≤ 140737488351232 ∧ -9223372036854775808 ≤ ((oKey o, oVal o) : TProp).2.2.1 ∧ ((oKey o, oVal o) : TProp).2.2.1 ≤ 9223372036854775807 := ⟨ho.key, ho.vs, ho.vn⟩
            split at g2
            · rename_i k2
              simp only [k2, if_true]
              obtain ⟨hk, hkey⟩ := has_lb lp.ul k2
              have e : pids (l.set (lb (pids l) (oKey o)) (oKey o, oVal o)) = pids l := by
                show (l.set (lb (pids l) (oKey o)) (oKey o, oVal o)).map (fun p => p.1) = _
                rw [List.map_set]
                show (pids l).set (lb (pids l) (oKey o)) (oKey o) = _
                conv => lhs; rhs; rw [← hkey]
                exact List.set_getElem_self hk
              refine ⟨restN_of ⟨lp.na, by rw [List.length_set]; exact lp.nl, lp.ua, by rw [e]; exact lp.ul⟩ na (fun p hp => ?_), ha, ⟨by rw [List.length_set]; exact hl.1, fun p hp => ?_⟩⟩
              · rcases List.mem_or_eq_of_mem_set hp with hp | rfl
                · exact nl p hp
                · exact k1'
              · rcases List.mem_or_eq_of_mem_set hp with hp | rfl
                · exact hl.2 p hp
                · exact okp
            · rename_i k2
              simp only [k2, Bool.false_eq_true, if_false]
              split at g2
              · cases g2
              · rename_i k3
                have hn : has (pids l) (oKey o) = false := by simpa using k2
                simp only [k3, if_false]
                have e : pids (layL l (lb (pids l) (oKey o)) (oKey o, oVal o)) = layL (pids l) (lb (pids l) (oKey o)) (oKey o) := map_lay _
                refine ⟨restN_of ⟨lp.na, by rw [layL_len _ _ (plb_len _)]; omega, lp.ua, by rw [e]; exact up_lay lp.ul hn⟩ na (fun p hp => ?_), ha, ⟨by rw [layL_len _ _ (plb_len _)]; omega, fun p hp => ?_⟩⟩
                · rcases mem_lay.1 hp with hp | rfl
                  · exact nl p hp
                  · exact k1'
                · rcases mem_lay.1 hp with hp | rfl
                  · exact hl.2 p hp
                  · exact okp
          · cases g2
        · rename_i g2
          simp only at ht
          exact absurd ht g2
      · split at ht
        · rename_i g0 g1 g3 g
          simp only [g0, g1, g3, g, if_true, if_false]
          split at ht
          · rename_i g2
            simp only [g2, if_true]
            unfold unsetT at g2 ⊢
            split at g2
            · rename_i k1
              simp only [k1, if_true]
              have hc := (cut_sub l (lb (pids l) (oKey o))).length_le
              have := lp.nl
              have e : pids (cutL l (lb (pids l) (oKey o))) = cutL (pids l) (lb (pids l) (oKey o)) := map_cut _
              exact ⟨restN_of ⟨lp.na, by omega, lp.ua, by rw [e]; exact up_cut lp.ul _⟩ na (fun p hp => nl p (mem_cut hp)), ha, ⟨by omega, fun p hp => hl.2 p (mem_cut hp)⟩⟩
            · cases g2
          · rename_i g2
            simp only at ht
            exact absurd ht g2
        · cases ht

/-! ### One op -/

structure Fine (g : TGraph) : Prop where
  good : Good26 g
  ok : okGraph g

def touched (es : List TEdge) (x : ByteArray) : Bool := es.any fun e => strEq e.2.1 x || strEq e.2.2.1 x
def turnN (g : TGraph) (k : Nat) (t : List ByteArray × List TProp × Int) : TGraph × Int := if t.2.2 = 0 then ((g.1.set k ((rd sNode g.1 k).1, t.1, t.2.1), g.2), 0) else (g, t.2.2)
def turnE (g : TGraph) (k : Nat) (t : List ByteArray × List TProp × Int) : TGraph × Int := if t.2.2 = 0 then ((g.1, g.2.set k ((rd sEdge g.2 k).1, (rd sEdge g.2 k).2.1, (rd sEdge g.2 k).2.2.1, t.1, t.2.1)), 0) else (g, t.2.2)
def oneT (g : TGraph) (o : TOp) : TGraph × Int :=
  if rightB o = false then (g, 2)
  else if o.1 = 1 then (if has (ids g.1) o.2.1 then (g, 10) else if g.1.length ≥ 500 then (g, 5) else ((layL g.1 (lb (ids g.1) o.2.1) (o.2.1, [], []), g.2), 0))
  else if o.1 = 2 then (if has (ids g.1) o.2.1 = false then (g, 9) else if touched g.2 o.2.1 then (g, 11) else ((cutL g.1 (lb (ids g.1) o.2.1), g.2), 0))
  else if o.1 = 3 then (if has (eids g.2) o.2.1 then (g, 10) else if has (ids g.1) o.2.2.1 = false ∨ has (ids g.1) o.2.2.2.1 = false then (g, 9) else if g.2.length ≥ 1000 then (g, 5) else ((g.1, layL g.2 (lb (eids g.2) o.2.1) (o.2.1, o.2.2.1, o.2.2.2.1, [], [])), 0))
  else if o.1 = 4 then (if has (eids g.2) o.2.1 = false then (g, 9) else ((g.1, cutL g.2 (lb (eids g.2) o.2.1)), 0))
  else if o.1 = 7 ∨ o.1 = 8 ∨ o.1 = 11 ∨ o.1 = 12 then (if has (eids g.2) o.2.1 = false then (g, 9) else turnE g (lb (eids g.2) o.2.1) (turnT (rd sEdge g.2 (lb (eids g.2) o.2.1)).2.2.2.1 (rd sEdge g.2 (lb (eids g.2) o.2.1)).2.2.2.2 o))
  else (if has (ids g.1) o.2.1 = false then (g, 9) else turnN g (lb (ids g.1) o.2.1) (turnT (rd sNode g.1 (lb (ids g.1) o.2.1)).2.1 (rd sNode g.1 (lb (ids g.1) o.2.1)).2.2 o))

theorem nodeN_of {n : TNode} (h : nameB n.1 = true) (hr : restN n.2.1 n.2.2 = 0) : nodeN n = 0 := by unfold nodeN; rw [h]; exact hr
theorem edgeN_of {x : TEdge} (h1 : nameB x.1 = true) (h2 : nameB x.2.1 = true) (h3 : nameB x.2.2.1 = true) (hr : restN x.2.2.2.1 x.2.2.2.2 = 0) : edgeN x = 0 := by unfold edgeN; rw [h1, h2, h3]; exact hr
theorem nodeN_parts {n : TNode} (h : nodeN n = 0) : nameB n.1 = true ∧ restN n.2.1 n.2.2 = 0 := by
  unfold nodeN at h
  split at h
  · rename_i g; exact ⟨g, h⟩
  · cases h
theorem edgeN_parts {x : TEdge} (h : edgeN x = 0) : nameB x.1 = true ∧ nameB x.2.1 = true ∧ nameB x.2.2.1 = true ∧ restN x.2.2.2.1 x.2.2.2.2 = 0 := by
  unfold edgeN at h
  split at h
  · rename_i g
    simp only [Bool.and_eq_true] at g
    exact ⟨g.1.1, g.1.2, g.2, h⟩
  · cases h
theorem rest_nil : restN [] [] = 0 := rfl

theorem rightB_id {o : TOp} (h : rightB o = true) : nameB o.2.1 = true := by
  unfold rightB at h
  rw [Bool.and_eq_true] at h
  exact h.1
theorem rightB_ends {o : TOp} (h : rightB o = true) (h3 : o.1 = 3) : nameB o.2.2.1 = true ∧ nameB o.2.2.2.1 = true := by
  unfold rightB at h
  rw [h3, Bool.and_eq_true] at h
  simpa using h.2

theorem one_fine {g : TGraph} {o : TOp} (hg : Fine g) (ho : okOp o) (h : (oneT g o).2 = 0) : Fine (oneT g o).1 := by
  obtain ⟨⟨ns, es, nodes, edges, nup, eup, fr, to⟩, ok⟩ := hg
  have oks : ∀ {l : List TNode} {m : List TEdge}, l.length ≤ 500 → m.length ≤ 1000 → (∀ n ∈ l, okNode n) → (∀ x ∈ m, okEdge x) → okGraph (l, m) := fun {l m} h1 h2 h3 h4 => ⟨(show l.length ≤ 70368744177616 by omega), (show m.length ≤ 70368744177616 by omega), h3, h4⟩
  unfold oneT at h ⊢
  split at h
  · cases h
  rename_i r
  have r : rightB o = true := by simpa using r
  simp only [r, Bool.true_eq_false, if_false]
  have hid := rightB_id r
  split at h
  · rename_i k
    simp only [k, if_true]
    split at h
    · cases h
    rename_i m
    simp only [m, Bool.false_eq_true, if_false]
    split at h
    · cases h
    rename_i q
    simp only [q, if_false]
    have hn : has (ids g.1) o.2.1 = false := by simpa using m
    have e : ids (layL g.1 (lb (ids g.1) o.2.1) (o.2.1, [], [])) = layL (ids g.1) (lb (ids g.1) o.2.1) o.2.1 := map_lay _
    have hl : (layL g.1 (lb (ids g.1) o.2.1) ((o.2.1, [], []) : TNode)).length ≤ 500 := by rw [layL_len _ _ (by simpa using lb_le (ids g.1) o.2.1)]; omega
    refine ⟨⟨hl, es, fun n hn => ?_, edges, by rw [e]; exact up_lay nup hn, eup, fun x hx => ?_, fun x hx => ?_⟩, oks hl es (fun n hn => ?_) ok.e⟩
    · rcases mem_lay.1 hn with hn | rfl
      · exact nodes n hn
      · exact nodeN_of hid rest_nil
    · rw [e]; exact mem_lay.2 (.inl (fr x hx))
    · rw [e]; exact mem_lay.2 (.inl (to x hx))
    · rcases mem_lay.1 hn with hn | rfl
      · exact ok.n n hn
      · exact ⟨ho.id, ⟨by simp, by simp⟩, ⟨by simp, by simp⟩⟩
  rename_i k1
  simp only [k1, if_false]
  split at h
  · rename_i k
    simp only [k, if_true]
    split at h
    · cases h
    rename_i m
    simp only [m, Bool.true_eq_false, if_false]
    split at h
    · cases h
    rename_i q
    simp only [q, Bool.false_eq_true, if_false]
    have hm : has (ids g.1) o.2.1 = true := by simpa using m
    have hq : touched g.2 o.2.1 = false := by simpa using q
    obtain ⟨hk, hkey⟩ := has_lb nup hm
    have e : ids (cutL g.1 (lb (ids g.1) o.2.1)) = cutL (ids g.1) (lb (ids g.1) o.2.1) := map_cut _
    have hl : (cutL g.1 (lb (ids g.1) o.2.1)).length ≤ 500 := by have := (cut_sub g.1 (lb (ids g.1) o.2.1)).length_le; omega
    have free : ∀ x ∈ g.2, x.2.1 ≠ o.2.1 ∧ x.2.2.1 ≠ o.2.1 := fun x hx => by
      unfold touched at hq
      rw [List.any_eq_false] at hq
      have := hq x hx
      simp only [Bool.or_eq_true, not_or] at this
      exact ⟨fun e => this.1 (strEq_iff.2 e), fun e => this.2 (strEq_iff.2 e)⟩
    refine ⟨⟨hl, es, fun n hn => nodes n (mem_cut hn), edges, by rw [e]; exact up_cut nup _, eup, fun x hx => ?_, fun x hx => ?_⟩, oks hl es (fun n hn => ok.n n (mem_cut hn)) ok.e⟩
    · rw [e]; exact mem_cut_other hk (fr x hx) (by rw [hkey]; exact (free x hx).1)
    · rw [e]; exact mem_cut_other hk (to x hx) (by rw [hkey]; exact (free x hx).2)
  rename_i k2
  simp only [k2, if_false]
  split at h
  · rename_i k
    simp only [k, if_true]
    split at h
    · cases h
    rename_i m
    simp only [m, Bool.false_eq_true, if_false]
    split at h
    · cases h
    rename_i q
    simp only [q, if_false]
    split at h
    · cases h
    rename_i q2
    simp only [q2, if_false]
    have hm : has (eids g.2) o.2.1 = false := by simpa using m
    have hf : has (ids g.1) o.2.2.1 = true ∧ has (ids g.1) o.2.2.2.1 = true := by simpa using q
    obtain ⟨n1, n2⟩ := rightB_ends r k
    have e : eids (layL g.2 (lb (eids g.2) o.2.1) (o.2.1, o.2.2.1, o.2.2.2.1, [], [])) = layL (eids g.2) (lb (eids g.2) o.2.1) o.2.1 := map_lay _
    have hl : (layL g.2 (lb (eids g.2) o.2.1) ((o.2.1, o.2.2.1, o.2.2.2.1, [], []) : TEdge)).length ≤ 1000 := by rw [layL_len _ _ (by simpa using lb_le (eids g.2) o.2.1)]; omega
    refine ⟨⟨ns, hl, nodes, fun n hn => ?_, nup, by rw [e]; exact up_lay eup hm, fun x hx => ?_, fun x hx => ?_⟩, oks ns hl ok.n (fun n hn => ?_)⟩
    · rcases mem_lay.1 hn with hn | rfl
      · exact edges n hn
      · exact edgeN_of hid n1 n2 rest_nil
    · rcases mem_lay.1 hx with hx | rfl
      · exact fr x hx
      · exact has_iff.1 hf.1
    · rcases mem_lay.1 hx with hx | rfl
      · exact to x hx
      · exact has_iff.1 hf.2
    · rcases mem_lay.1 hn with hn | rfl
      · exact ok.e n hn
      · exact ⟨ho.id, ho.fr, ho.to, ⟨by simp, by simp⟩, ⟨by simp, by simp⟩⟩
  rename_i k3
  simp only [k3, if_false]
  split at h
  · rename_i k
    simp only [k, if_true]
    split at h
    · cases h
    rename_i m
    simp only [m, Bool.true_eq_false, if_false]
    have e : eids (cutL g.2 (lb (eids g.2) o.2.1)) = cutL (eids g.2) (lb (eids g.2) o.2.1) := map_cut _
    have hl : (cutL g.2 (lb (eids g.2) o.2.1)).length ≤ 1000 := by have := (cut_sub g.2 (lb (eids g.2) o.2.1)).length_le; omega
    exact ⟨⟨ns, hl, nodes, fun n hn => edges n (mem_cut hn), nup, by rw [e]; exact up_cut eup _, fun x hx => fr x (mem_cut hx), fun x hx => to x (mem_cut hx)⟩, oks ns hl ok.n (fun n hn => ok.e n (mem_cut hn))⟩
  rename_i k4
  simp only [k4, if_false]
  split at h
  · rename_i k
    simp only [k, if_true]
    split at h
    · cases h
    rename_i m
    simp only [m, Bool.true_eq_false, if_false]
    have hm : has (eids g.2) o.2.1 = true := by simpa using m
    have hk : lb (eids g.2) o.2.1 < g.2.length := by simpa using (has_lb eup hm).1
    have mem := rd_mem (e := sEdge) hk
    obtain ⟨p1, p2, p3, p4⟩ := edgeN_parts (edges _ mem)
    have okx := ok.e _ mem
    unfold turnE at h ⊢
    split at h
    · rename_i t
      simp only [t, if_true]
      obtain ⟨t1, t2, t3⟩ := turn_good p4 okx.la okx.pr ho t
      generalize turnT (rd sEdge g.2 (lb (eids g.2) o.2.1)).2.2.2.1 (rd sEdge g.2 (lb (eids g.2) o.2.1)).2.2.2.2 o = tt at t1 t2 t3
      have e : eids (g.2.set (lb (eids g.2) o.2.1) ((rd sEdge g.2 (lb (eids g.2) o.2.1)).1, (rd sEdge g.2 (lb (eids g.2) o.2.1)).2.1, (rd sEdge g.2 (lb (eids g.2) o.2.1)).2.2.1, tt.1, tt.2.1)) = eids g.2 := by
        show (g.2.set _ _).map (fun x => x.1) = _
        rw [List.map_set]
        show (eids g.2).set _ (rd sEdge g.2 (lb (eids g.2) o.2.1)).1 = _
        rw [eids_get hk]
        exact List.set_getElem_self _
      have hl : (g.2.set (lb (eids g.2) o.2.1) ((rd sEdge g.2 (lb (eids g.2) o.2.1)).1, (rd sEdge g.2 (lb (eids g.2) o.2.1)).2.1, (rd sEdge g.2 (lb (eids g.2) o.2.1)).2.2.1, tt.1, tt.2.1)).length ≤ 1000 := by rw [List.length_set]; exact es
      refine ⟨⟨ns, hl, nodes, fun x hx => ?_, nup, by rw [e]; exact eup, fun x hx => ?_, fun x hx => ?_⟩, oks ns hl ok.n (fun x hx => ?_)⟩ <;> rcases List.mem_or_eq_of_mem_set hx with hx | rfl
      · exact edges x hx
      · exact edgeN_of p1 p2 p3 t1
      · exact fr x hx
      · have := fr _ mem; exact this
      · exact to x hx
      · have := to _ mem; exact this
      · exact ok.e x hx
      · exact ⟨okx.id, okx.fr, okx.to, t2, t3⟩
    · rename_i t
      simp only at h
      exact absurd h t
  rename_i k5
  simp only [k5, if_false]
  split at h
  · cases h
  rename_i m
  simp only [m, Bool.true_eq_false, if_false]
  have hm : has (ids g.1) o.2.1 = true := by simpa using m
  have hk : lb (ids g.1) o.2.1 < g.1.length := by simpa using (has_lb nup hm).1
  have mem := rd_mem (e := sNode) hk
  obtain ⟨p1, p4⟩ := nodeN_parts (nodes _ mem)
  have okx := ok.n _ mem
  unfold turnN at h ⊢
  split at h
  · rename_i t
    simp only [t, if_true]
    obtain ⟨t1, t2, t3⟩ := turn_good p4 okx.la okx.pr ho t
    generalize turnT (rd sNode g.1 (lb (ids g.1) o.2.1)).2.1 (rd sNode g.1 (lb (ids g.1) o.2.1)).2.2 o = tt at t1 t2 t3
    have e : ids (g.1.set (lb (ids g.1) o.2.1) ((rd sNode g.1 (lb (ids g.1) o.2.1)).1, tt.1, tt.2.1)) = ids g.1 := by
      show (g.1.set _ _).map (fun x => x.1) = _
      rw [List.map_set]
      show (ids g.1).set _ (rd sNode g.1 (lb (ids g.1) o.2.1)).1 = _
      rw [ids_get hk]
      exact List.set_getElem_self _
    have hl : (g.1.set (lb (ids g.1) o.2.1) ((rd sNode g.1 (lb (ids g.1) o.2.1)).1, tt.1, tt.2.1)).length ≤ 500 := by rw [List.length_set]; exact ns
    refine ⟨⟨hl, es, fun x hx => ?_, edges, by rw [e]; exact nup, eup, fun x hx => by rw [e]; exact fr x hx, fun x hx => by rw [e]; exact to x hx⟩, oks hl es (fun x hx => ?_) ok.e⟩ <;> rcases List.mem_or_eq_of_mem_set hx with hx | rfl
    · exact nodes x hx
    · exact nodeN_of p1 t1
    · exact ok.n x hx
    · exact ⟨okx.id, t2, t3⟩
  · rename_i t
    simp only at h
    exact absurd h t

/-- Ops one by one. -/
def applyT : List TOp → Nat → TGraph → TGraph × Int × Int
  | [], _, g => (g, 0, 0)
  | o :: r, i, g => if (oneT g o).2 = 0 then applyT r (i + 1) (oneT g o).1 else (([], []), (i : Int), (oneT g o).2)

end Go.Proofs.YtdblhdpnllckhaaGreat.AE
end
section
set_option linter.unusedVariables false
set_option linter.unusedSimpArgs false
set_option maxRecDepth 20000
namespace Go.Proofs.YtdblhdpnllckhaaGreat.AE
open Go

theorem rd_set {e : Sh} {l : List (den e)} {k : Nat} (h : k < l.length) (x : den e) : rd e (l.set k x) k = x := by
  rw [rd_get (by rw [List.length_set]; exact h), List.getElem_set_self]

theorem goes1_ok (e : TEdge) (o : TOp) : V.graph_change_goes_1 e o = some (strEq e.2.1 o.2.1 || strEq e.2.2.1 o.2.1, o) := by
  refine V.graph_change_goes_1.of _ _ ?_
  unfold F.graph_change_goes_1.B
  cases strEq e.2.1 o.2.1 <;> rfl
theorem Index_l (es : List TEdge) (hb : es.length ≤ 1000) (o : TOp) : ∀ d i : Nat, i + d = es.length → ∃ k : Int, V.slices_IndexFunc_apiEdgeapiEdge_by_graph_change_goes_1.l1010 es o (i : Int) o.1 o.2.1 o.2.2.1 o.2.2.2.1 o.2.2.2.2.1 o.2.2.2.2.2.1 o.2.2.2.2.2.2.1 o.2.2.2.2.2.2.2 = some (k, o) ∧ decide (k ≥ 0) = touched (es.drop i) o.2.1
  | 0, i, h => by
    refine ⟨-1, ?_, by rw [List.drop_eq_nil_of_le (by omega)]; rfl⟩
    refine V.slices_IndexFunc_apiEdgeapiEdge_by_graph_change_goes_1.l1010.of _ _ _ _ _ _ _ _ _ _ _ ?_
    unfold F.slices_IndexFunc_apiEdgeapiEdge_by_graph_change_goes_1.l1010.B
    rw [if_out (by omega)]
  | d + 1, i, h => by
    have hi : i < es.length := by omega
    have eo : (o.1, o.2.1, o.2.2.1, o.2.2.2.1, o.2.2.2.2.1, o.2.2.2.2.2.1, o.2.2.2.2.2.2.1, o.2.2.2.2.2.2.2) = o := rfl
    obtain ⟨k, h1, h2⟩ := Index_l es hb o d (i + 1) (by omega)
    rw [drop_rd (e := sEdge) hi]
    cases hc : (strEq (rd sEdge es i).2.1 o.2.1 || strEq (rd sEdge es i).2.2.1 o.2.1) with
    | true =>
      refine ⟨i, ?_, ?_⟩
      · refine V.slices_IndexFunc_apiEdgeapiEdge_by_graph_change_goes_1.l1010.of _ _ _ _ _ _ _ _ _ _ _ ?_
        unfold F.slices_IndexFunc_apiEdgeapiEdge_by_graph_change_goes_1.l1010.B
        rw [if_in hi, guard_in hi, nat_cast, eo, goes1_ok, Option.bind_some]
        show (bif (strEq (rd sEdge es i).2.1 o.2.1 || strEq (rd sEdge es i).2.2.1 o.2.1) then _ else _) = _
        rw [hc]; rfl
      · unfold touched
        rw [List.any_cons, hc]
        simp
    | false =>
      refine ⟨k, ?_, ?_⟩
      · refine V.slices_IndexFunc_apiEdgeapiEdge_by_graph_change_goes_1.l1010.of _ _ _ _ _ _ _ _ _ _ _ ?_
        unfold F.slices_IndexFunc_apiEdgeapiEdge_by_graph_change_goes_1.l1010.B
        rw [if_in hi, guard_in hi, nat_cast, eo, goes1_ok, Option.bind_some, w64_up hi (by omega)]
        show (bif (strEq (rd sEdge es i).2.1 o.2.1 || strEq (rd sEdge es i).2.2.1 o.2.1) then _ else _) = _
        rw [hc]; exact h1
      · rw [h2]
        unfold touched
        rw [List.any_cons, hc]
        rfl
theorem Contains_ok (es : List TEdge) (hb : es.length ≤ 1000) (o : TOp) : V.slices_ContainsFunc_apiEdgeapiEdge_by_graph_change_goes_1 es o = some (touched es o.2.1, o) := by
  obtain ⟨k, h1, h2⟩ := Index_l es hb o es.length 0 (by omega)
  have eo : (o.1, o.2.1, o.2.2.1, o.2.2.2.1, o.2.2.2.2.1, o.2.2.2.2.2.1, o.2.2.2.2.2.2.1, o.2.2.2.2.2.2.2) = o := rfl
  refine V.slices_ContainsFunc_apiEdgeapiEdge_by_graph_change_goes_1.of _ _ ?_
  unfold F.slices_ContainsFunc_apiEdgeapiEdge_by_graph_change_goes_1.B
  have h3 : V.slices_IndexFunc_apiEdgeapiEdge_by_graph_change_goes_1 es o = some (k, o) := V.slices_IndexFunc_apiEdgeapiEdge_by_graph_change_goes_1.of _ _ h1
  rw [eo, h3, Option.bind_some]
  show some (decide (k ≥ 0), o) = _
  rw [h2, List.drop_zero]

theorem comes_ok (g : TGraph) (o : TOp) (hg : Fine g) (hr : rightB o = true) (hk : o.1 = 1 ∨ o.1 = 3) : V.graph_change_comes g o = some ((oneT g o).2, (oneT g o).1) := by
  have ns := hg.good.ns
  have es := hg.good.es
  refine V.graph_change_comes.of _ _ ?_
  unfold F.graph_change_comes.B oneT
  rw [show ((g.1, g.2) : TGraph) = g from rfl, node_ok g _ hg.good.nup (by omega), node_ok g _ hg.good.nup (by omega), node_ok g _ hg.good.nup (by omega), edge_ok g _ hg.good.eup (by omega)]
  simp only [Option.bind_some, meet_self, bif_eq, hr, Bool.true_eq_false, if_false]
  rcases hk with e | e
  · rw [if_pos e, if_pos e]
    cases hm : has (ids g.1) o.2.1 with
    | true => rfl
    | false =>
      show (bif decide ((g.1.length : Int) ≥ 500) then some (5, g.1, g.2) else ((V.slices_Insert_apiNodeapiNode g.1 (lb (ids g.1) o.2.1 : Int) [(o.2.1, [], [])]).bind fun t1 => some (0, t1, g.2))) = _
      rw [insN_ok _ _ (by simpa using lb_le (ids g.1) o.2.1) (by unfold nmax; omega), Option.bind_some]
      by_cases h5 : g.1.length ≥ 500
      · rw [if_yes (by omega)]; simp [h5]
      · rw [if_no (by omega)]; simp [h5]
  · rw [if_neg (by omega), if_neg (by omega), if_neg (by omega), if_pos e]
    cases hm : has (eids g.2) o.2.1 with
    | true => rfl
    | false =>
      cases hf : has (ids g.1) o.2.2.1 with
      | false => simp
      | true =>
        cases ht : has (ids g.1) o.2.2.2.1 with
        | false => simp
        | true =>
          show (bif decide ((g.2.length : Int) ≥ 1000) then some (5, g.1, g.2) else ((V.slices_Insert_apiEdgeapiEdge g.2 (lb (eids g.2) o.2.1 : Int) [(o.2.1, o.2.2.1, o.2.2.2.1, [], [])]).bind fun t6 => some (0, g.1, t6))) = _
          rw [insE_ok _ _ (by simpa using lb_le (eids g.2) o.2.1) (by unfold nmax; omega), Option.bind_some]
          by_cases h5 : g.2.length ≥ 1000
          · rw [if_yes (by omega)]; simp [h5]
          · rw [if_no (by omega)]; simp [h5]
theorem goes_ok (g : TGraph) (o : TOp) (hg : Fine g) (hr : rightB o = true) (hk : o.1 = 2 ∨ o.1 = 4) : V.graph_change_goes g o = some ((oneT g o).2, (oneT g o).1) := by
  have ns := hg.good.ns
  have es := hg.good.es
  refine V.graph_change_goes.of _ _ ?_
  unfold F.graph_change_goes.B oneT
  rw [show ((g.1, g.2) : TGraph) = g from rfl, show (o.1, o.2.1, o.2.2.1, o.2.2.2.1, o.2.2.2.2.1, o.2.2.2.2.2.1, o.2.2.2.2.2.2.1, o.2.2.2.2.2.2.2) = o from rfl, node_ok g _ hg.good.nup (by omega), edge_ok g _ hg.good.eup (by omega), Contains_ok g.2 es o]
  simp only [Option.bind_some, bif_eq, hr, Bool.true_eq_false, if_false]
  rcases hk with e | e
  · rw [if_neg (by omega), if_neg (by omega), if_pos e]
    cases hm : has (ids g.1) o.2.1 with
    | false => rfl
    | true =>
      have hl : lb (ids g.1) o.2.1 < g.1.length := by simpa using (has_lb hg.good.nup hm).1
      rw [w64_up hl (by omega), delN_ok g.1 hl, Option.bind_some]
      cases touched g.2 o.2.1 <;> rfl
  · rw [if_pos e, if_neg (by omega), if_neg (by omega), if_neg (by omega), if_pos e]
    cases hm : has (eids g.2) o.2.1 with
    | false => rfl
    | true =>
      have hl : lb (eids g.2) o.2.1 < g.2.length := by simpa using (has_lb hg.good.eup hm).1
      rw [w64_up hl (by omega), delE_ok g.2 hl]
      rfl
theorem turns_ok (g : TGraph) (o : TOp) (hg : Fine g) (ho : okOp o) (hr : rightB o = true) (hk : ¬ o.1 = 1 ∧ ¬ o.1 = 2 ∧ ¬ o.1 = 3 ∧ ¬ o.1 = 4) : V.graph_change_turns g o = some ((oneT g o).2, (oneT g o).1) := by
  have ns := hg.good.ns
  have es := hg.good.es
  refine V.graph_change_turns.of _ _ ?_
  unfold F.graph_change_turns.B oneT
  rw [show ((g.1, g.2) : TGraph) = g from rfl, show (o.1, o.2.1, o.2.2.1, o.2.2.2.1, o.2.2.2.2.1, o.2.2.2.2.2.1, o.2.2.2.2.2.2.1, o.2.2.2.2.2.2.2) = o from rfl, OfEdge_ok, node_ok g _ hg.good.nup (by omega), edge_ok g _ hg.good.eup (by omega)]
  simp only [Option.bind_some, hr, Bool.true_eq_false, if_false]
  rw [if_neg hk.1, if_neg hk.2.1, if_neg hk.2.2.1, if_neg hk.2.2.2]
  have hd : (o.1 == 7 || o.1 == 8 || o.1 == 11 || o.1 == 12) = decide (o.1 = 7 ∨ o.1 = 8 ∨ o.1 = 11 ∨ o.1 = 12) := by
    rw [Bool.eq_iff_iff]; simp [or_assoc]
  rw [hd]
  by_cases he : o.1 = 7 ∨ o.1 = 8 ∨ o.1 = 11 ∨ o.1 = 12
  · rw [if_yes he, if_pos he]
    cases hm : has (eids g.2) o.2.1 with
    | false => rfl
    | true =>
      have hl : lb (eids g.2) o.2.1 < g.2.length := by simpa using (has_lb hg.good.eup hm).1
      have mem := rd_mem (e := sEdge) hl
      have lp := LP.of (edgeN_parts (hg.good.edges _ mem)).2.2.2
      rw [Bool.not_true, cond_false, guard_in hl, guard_in hl, nat_cast, Turn_ok _ _ o lp ho, Option.bind_some, guard_in hl, bif_eq]
      unfold turnE
      simp only [Bool.true_eq_false, if_false]
      generalize turnT (rd sEdge g.2 (lb (eids g.2) o.2.1)).2.2.2.1 (rd sEdge g.2 (lb (eids g.2) o.2.1)).2.2.2.2 o = t
      by_cases h0 : t.2.2 = 0
      · rw [if_pos h0, if_pos h0, guard_in (by rw [List.length_set]; exact hl), rd_set hl, List.set_set, h0]
      · rw [if_neg h0, if_neg h0]
  · rw [if_no he, if_neg he]
    cases hm : has (ids g.1) o.2.1 with
    | false => rfl
    | true =>
      have hl : lb (ids g.1) o.2.1 < g.1.length := by simpa using (has_lb hg.good.nup hm).1
      have mem := rd_mem (e := sNode) hl
      have lp := LP.of (nodeN_parts (hg.good.nodes _ mem)).2
      rw [Bool.not_true, cond_false, guard_in hl, guard_in hl, nat_cast, Turn_ok _ _ o lp ho, Option.bind_some, guard_in hl, bif_eq]
      unfold turnN
      simp only [Bool.true_eq_false, if_false]
      generalize turnT (rd sNode g.1 (lb (ids g.1) o.2.1)).2.1 (rd sNode g.1 (lb (ids g.1) o.2.1)).2.2 o = t
      by_cases h0 : t.2.2 = 0
      · rw [if_pos h0, if_pos h0, guard_in (by rw [List.length_set]; exact hl), rd_set hl, List.set_set, h0]
      · rw [if_neg h0, if_neg h0]
theorem do_ok (g : TGraph) (o : TOp) (hg : Fine g) (ho : okOp o) : V.graph_change_do g o = some ((oneT g o).2, (oneT g o).1) := by
  refine V.graph_change_do.of _ _ ?_
  unfold F.graph_change_do.B
  rw [show ((g.1, g.2) : TGraph) = g from rfl, show (o.1, o.2.1, o.2.2.1, o.2.2.2.1, o.2.2.2.2.1, o.2.2.2.2.2.1, o.2.2.2.2.2.2.1, o.2.2.2.2.2.2.2) = o from rfl, Right_ok o ho, Option.bind_some]
  cases hr : rightB o with
  | false => simp [oneT, hr]
  | true =>
    simp only [bif_eq, bif_ne, if_true]
    by_cases e1 : o.1 = 1
    · rw [if_pos e1, if_pos e1, comes_ok g o hg hr (.inl e1)]; rfl
    · rw [if_neg e1]
      by_cases e3 : o.1 = 3
      · rw [if_pos e3, comes_ok g o hg hr (.inr e3)]; rfl
      · rw [if_neg e3]
        by_cases e2 : o.1 = 2
        · rw [if_pos e2, if_pos e2, goes_ok g o hg hr (.inl e2)]; rfl
        · rw [if_neg e2]
          by_cases e4 : o.1 = 4
          · rw [if_pos e4, goes_ok g o hg hr (.inr e4)]; rfl
          · rw [if_neg e4, turns_ok g o hg ho hr ⟨e1, e2, e3, e4⟩]; rfl

theorem Apply_l (G : TGraph) (ops : List TOp) (hops : ∀ o ∈ ops, okOp o) (hb : ops.length ≤ 1000) : ∀ (d i : Nat) (g : TGraph), i + d = ops.length → Fine g → V.graph_Apply.l111010 G ops (i : Int) g.1 g.2 = some (applyT (ops.drop i) i g)
  | 0, i, g, h, hg => by
    refine V.graph_Apply.l111010.of _ _ _ _ _ ?_
    unfold F.graph_Apply.l111010.B
    rw [if_out (by omega), List.drop_eq_nil_of_le (by omega)]
    rfl
  | d + 1, i, g, h, hg => by
    have hi : i < ops.length := by omega
    have ho := hops _ (rd_mem (e := sOp) hi)
    refine V.graph_Apply.l111010.of _ _ _ _ _ ?_
    unfold F.graph_Apply.l111010.B
    rw [if_in hi, guard_in hi, nat_cast, w64_up hi (by omega), drop_rd (e := sOp) hi]
    show ((V.graph_change_do g (rd sOp ops i)).bind fun t2 => (bif (t2.1 != 0) then (some (([], []), (i : Int), t2.1)) else V.graph_Apply.l111010 G ops ((i + 1 : Nat) : Int) t2.2.1 t2.2.2)) = _
    rw [do_ok g _ hg ho, Option.bind_some, bif_ne]
    unfold applyT
    by_cases h0 : (oneT g (rd sOp ops i)).2 = 0
    · rw [if_pos h0, if_pos h0]
      exact Apply_l G ops hops hb d (i + 1) _ (by omega) (one_fine hg ho h0)
    · rw [if_neg h0, if_neg h0]
theorem Apply_ok (g : TGraph) (ops : List TOp) (hok : okGraph g) (hs : Small g) (hops : ∀ o ∈ ops, okOp o) (hb : ops.length ≤ 1000) : V.graph_Apply g ops = some (if wrongN g = 0 then applyT ops 0 g else (([], []), 0, wrongN g)) := by
  refine V.graph_Apply.of _ _ ?_
  unfold F.graph_Apply.B
  rw [show ((g.1, g.2) : TGraph) = g from rfl, Check_ok g hok, Option.bind_some, bif_ne, Copy_ok g hs, Option.bind_some]
  by_cases h0 : wrongN g = 0
  · rw [if_pos h0, if_pos h0]
    exact Apply_l g ops hops hb ops.length 0 g (by omega) ⟨(good_iff g).1 h0, hok⟩
  · rw [if_neg h0, if_neg h0]

end Go.Proofs.YtdblhdpnllckhaaGreat.AE
end
section
set_option linter.unusedVariables false
set_option linter.unusedSimpArgs false
set_option maxRecDepth 20000
namespace Go.Proofs.YtdblhdpnllckhaaGreat.AE
open Go

theorem fine_zero : Fits gZ := ⟨by simp, by simp, by simp, by simp⟩
theorem Good26.fits' {g : TGraph} (h : Good26 g) : Fits g := ⟨by have := h.ns; omega, by have := h.es; omega, fun n hn => by have := nodeN_up (h.nodes n hn); omega, fun x hx => by have := edgeN_up (h.edges x hx); omega⟩
theorem apply_fits : ∀ (ops : List TOp) (i : Nat) (g : TGraph), Fine g → (∀ o ∈ ops, okOp o) → Fits (applyT ops i g).1
  | [], i, g, hg, _ => hg.good.fits'
  | o :: r, i, g, hg, ho => by
    unfold applyT
    by_cases h0 : (oneT g o).2 = 0
    · rw [if_pos h0]
      exact apply_fits r (i + 1) _ (one_fine hg (ho o (by simp)) h0) (fun o' h' => ho o' (by simp [h']))
    · rw [if_neg h0]; exact fine_zero
theorem gd_ops {l : List TOp} (h : Gd (.list sOp) l) : l.length ≤ 70368744177616 ∧ ∀ o ∈ l, okOp o := ⟨gd_len h (by decide), fun o ho => gd_op (h.2 o ho)⟩

end Go.Proofs.YtdblhdpnllckhaaGreat.AE
end
section
set_option linter.unusedVariables false
set_option linter.unusedSimpArgs false
set_option maxRecDepth 20000
namespace Go.Proofs.YtdblhdpnllckhaaGreat.AE
open Go

theorem cut_body {α : Type} (l : List α) {k : Nat} (hk : k < l.length) : (((l.take k ++ ((l.take ((l.length : Int).toNat)).drop (k + 1)) ++ l.drop (k + ((l.take ((l.length : Int).toNat)).drop (k + 1)).length)).take (k + ((l.take ((l.length : Int).toNat)).drop (k + 1)).length)).drop 0) = cutL l k := by
  have e4 : (l.take k ++ l.drop (k + 1)).length = k + (l.drop (k + 1)).length := by simp; omega
  simp only [nat_cast, List.take_length, List.drop_zero]
  rw [List.take_left' (l₁ := l.take k ++ l.drop (k + 1)) e4]
  rfl
theorem touched_len (es : List TEdge) (x : ByteArray) : decide ((es.filter fun e => strEq e.2.1 x).length + (es.filter fun e => strEq e.2.2.1 x).length > 0) = touched es x := by
  unfold touched
  induction es with
  | nil => rfl
  | cons e es ih =>
    rw [List.filter_cons, List.filter_cons, List.any_cons, ← ih]
    cases strEq e.2.1 x <;> cases strEq e.2.2.1 x <;> simp <;> omega

theorem addN_done (g : TGraph) (n : TNode) (hb : g.1.length ≤ 1000) : ∀ (d i : Nat) (acc : List TNode), i + d = g.1.length → acc.length ≤ i + 1 → V.pleachref26_addNode.l111010 g n true (i : Int) acc = some (acc ++ g.1.drop i, g.2)
  | 0, i, acc, h, ha => by
    refine V.pleachref26_addNode.l111010.of _ _ _ _ _ ?_
    unfold F.pleachref26_addNode.l111010.B
    rw [if_out (by omega), List.drop_eq_nil_of_le (by omega), List.append_nil]
    rfl
  | d + 1, i, acc, h, ha => by
    have hi : i < g.1.length := by omega
    refine V.pleachref26_addNode.l111010.of _ _ _ _ _ ?_
    unfold F.pleachref26_addNode.l111010.B
    rw [if_in hi, Bool.not_true, cond_false, guard_in hi, nat_cast, w64_up hi (by omega)]
    show guardK (decide (acc.length + 1 ≤ nmax)) (V.pleachref26_addNode.l111010 g n true ((i + 1 : Nat) : Int) (acc ++ [rd sNode g.1 i])) = _
    rw [guard_dec (by unfold nmax; omega), addN_done g n hb d (i + 1) _ (by omega) (by simp; omega), drop_rd (e := sNode) hi, List.append_assoc]
    rfl
theorem addN_l (g : TGraph) (n : TNode) (hu : Up (ids g.1)) (hb : g.1.length ≤ 1000) (hn : has (ids g.1) n.1 = false) : ∀ (d i : Nat), i + d = g.1.length → i ≤ lb (ids g.1) n.1 → V.pleachref26_addNode.l111010 g n false (i : Int) (g.1.take i) = some (layL g.1 (lb (ids g.1) n.1) n, g.2)
  | 0, i, h, hi => by
    have hlb : lb (ids g.1) n.1 ≤ g.1.length := by simpa using lb_le (ids g.1) n.1
    have e : lb (ids g.1) n.1 = i := by omega
    have hl : (g.1.take i).length = i := by rw [List.length_take]; omega
    refine V.pleachref26_addNode.l111010.of _ _ _ _ _ ?_
    unfold F.pleachref26_addNode.l111010.B
    rw [if_out (by omega), Bool.not_false, cond_true]
    show guardK (decide ((g.1.take i).length + 1 ≤ nmax)) (some (g.1.take i ++ [n], g.2)) = _
    rw [guard_dec (by rw [hl]; unfold nmax; omega), e]
    unfold layL
    rw [List.drop_eq_nil_of_le (by omega : g.1.length ≤ i)]
    simp
  | d + 1, i, h, hlt => by
    have hi : i < g.1.length := by omega
    have hl : (g.1.take i).length = i := by rw [List.length_take]; omega
    refine V.pleachref26_addNode.l111010.of _ _ _ _ _ ?_
    unfold F.pleachref26_addNode.l111010.B
    rw [if_in hi, Bool.not_false, cond_true, guard_in hi, nat_cast, lt_or, Bool.not_not, guard_in hi, guard_in hi, w64_up hi (by omega)]
    show (bif strLt n.1 (rd sNode g.1 i).1 then guardK (decide ((g.1.take i).length + 1 ≤ nmax)) (guardK (decide ((g.1.take i ++ [n]).length + 1 ≤ nmax)) (V.pleachref26_addNode.l111010 g n true ((i + 1 : Nat) : Int) (g.1.take i ++ [n] ++ [rd sNode g.1 i]))) else guardK (decide ((g.1.take i).length + 1 ≤ nmax)) (V.pleachref26_addNode.l111010 g n false ((i + 1 : Nat) : Int) (g.1.take i ++ [rd sNode g.1 i]))) = _
    rw [guard_dec (by rw [hl]; unfold nmax; omega), guard_dec (by simp only [List.length_append, hl, List.length_singleton]; unfold nmax; omega), guard_dec (by rw [hl]; unfold nmax; omega)]
    rcases Nat.eq_or_lt_of_le hlt with e | e
    · have hne : (ids g.1)[i]'(by simpa using hi) ≠ n.1 := fun q => by
        have := has_iff.2 (q ▸ List.getElem_mem _)
        rw [hn] at this; cases this
      have := past_lb (key := fun a : ByteArray => a) (l := ids g.1) (x := n.1) (by rw [List.map_id']; exact hu) (i := i) (by simpa using hi) (by rw [List.map_id']; omega) hne
      rw [ids_get hi, this, cond_true, addN_done g n hb d (i + 1) _ (by omega) (by simp only [List.length_append, hl, List.length_singleton]; omega), ← e]
      unfold layL
      have e2 : g.1.drop i = rd sNode g.1 i :: g.1.drop (i + 1) := drop_rd (e := sNode) hi
      rw [e2]
      simp
    · have := (lb_lt hu n.1 (i := i) (by simpa using hi)).2 e
      rw [ids_get hi, lt_asymm this, cond_false, ← take_rd (e := sNode) hi]
      exact addN_l g n hu hb hn d (i + 1) (by omega) e
theorem addN_ok (g : TGraph) (n : TNode) (hu : Up (ids g.1)) (hb : g.1.length ≤ 500) (hn : has (ids g.1) n.1 = false) : V.pleachref26_addNode g n = some (layL g.1 (lb (ids g.1) n.1) n, g.2) := by
  refine V.pleachref26_addNode.of _ _ ?_
  unfold F.pleachref26_addNode.B
  exact addN_l g n hu (by omega) hn g.1.length 0 (by omega) (by omega)
theorem addE_done (g : TGraph) (n : TEdge) (hb : g.2.length ≤ 1000) : ∀ (d i : Nat) (acc : List TEdge), i + d = g.2.length → acc.length ≤ i + 1 → V.pleachref26_addEdge.l111010 g n true (i : Int) acc = some (g.1, acc ++ g.2.drop i)
  | 0, i, acc, h, ha => by
    refine V.pleachref26_addEdge.l111010.of _ _ _ _ _ ?_
    unfold F.pleachref26_addEdge.l111010.B
    rw [if_out (by omega), List.drop_eq_nil_of_le (by omega), List.append_nil]
    rfl
  | d + 1, i, acc, h, ha => by
    have hi : i < g.2.length := by omega
    refine V.pleachref26_addEdge.l111010.of _ _ _ _ _ ?_
    unfold F.pleachref26_addEdge.l111010.B
    rw [if_in hi, Bool.not_true, cond_false, guard_in hi, nat_cast, w64_up hi (by omega)]
    show guardK (decide (acc.length + 1 ≤ nmax)) (V.pleachref26_addEdge.l111010 g n true ((i + 1 : Nat) : Int) (acc ++ [rd sEdge g.2 i])) = _
    rw [guard_dec (by unfold nmax; omega), addE_done g n hb d (i + 1) _ (by omega) (by simp; omega), drop_rd (e := sEdge) hi, List.append_assoc]
    rfl
theorem addE_l (g : TGraph) (n : TEdge) (hu : Up (eids g.2)) (hb : g.2.length ≤ 1000) (hn : has (eids g.2) n.1 = false) : ∀ (d i : Nat), i + d = g.2.length → i ≤ lb (eids g.2) n.1 → V.pleachref26_addEdge.l111010 g n false (i : Int) (g.2.take i) = some (g.1, layL g.2 (lb (eids g.2) n.1) n)
  | 0, i, h, hi => by
    have hlb : lb (eids g.2) n.1 ≤ g.2.length := by simpa using lb_le (eids g.2) n.1
    have e : lb (eids g.2) n.1 = i := by omega
    have hl : (g.2.take i).length = i := by rw [List.length_take]; omega
    refine V.pleachref26_addEdge.l111010.of _ _ _ _ _ ?_
    unfold F.pleachref26_addEdge.l111010.B
    rw [if_out (by omega), Bool.not_false, cond_true]
    show guardK (decide ((g.2.take i).length + 1 ≤ nmax)) (some (g.1, g.2.take i ++ [n])) = _
    rw [guard_dec (by rw [hl]; unfold nmax; omega), e]
    unfold layL
    rw [List.drop_eq_nil_of_le (by omega : g.2.length ≤ i)]
    simp
  | d + 1, i, h, hlt => by
    have hi : i < g.2.length := by omega
    have hl : (g.2.take i).length = i := by rw [List.length_take]; omega
    refine V.pleachref26_addEdge.l111010.of _ _ _ _ _ ?_
    unfold F.pleachref26_addEdge.l111010.B
    rw [if_in hi, Bool.not_false, cond_true, guard_in hi, nat_cast, lt_or, Bool.not_not, guard_in hi, guard_in hi, w64_up hi (by omega)]
    show (bif strLt n.1 (rd sEdge g.2 i).1 then guardK (decide ((g.2.take i).length + 1 ≤ nmax)) (guardK (decide ((g.2.take i ++ [n]).length + 1 ≤ nmax)) (V.pleachref26_addEdge.l111010 g n true ((i + 1 : Nat) : Int) (g.2.take i ++ [n] ++ [rd sEdge g.2 i]))) else guardK (decide ((g.2.take i).length + 1 ≤ nmax)) (V.pleachref26_addEdge.l111010 g n false ((i + 1 : Nat) : Int) (g.2.take i ++ [rd sEdge g.2 i]))) = _
    rw [guard_dec (by rw [hl]; unfold nmax; omega), guard_dec (by simp only [List.length_append, hl, List.length_singleton]; unfold nmax; omega), guard_dec (by rw [hl]; unfold nmax; omega)]
    rcases Nat.eq_or_lt_of_le hlt with e | e
    · have hne : (eids g.2)[i]'(by simpa using hi) ≠ n.1 := fun q => by
        have := has_iff.2 (q ▸ List.getElem_mem _)
        rw [hn] at this; cases this
      have := past_lb (key := fun a : ByteArray => a) (l := eids g.2) (x := n.1) (by rw [List.map_id']; exact hu) (i := i) (by simpa using hi) (by rw [List.map_id']; omega) hne
      rw [eids_get hi, this, cond_true, addE_done g n hb d (i + 1) _ (by omega) (by simp only [List.length_append, hl, List.length_singleton]; omega), ← e]
      unfold layL
      have e2 : g.2.drop i = rd sEdge g.2 i :: g.2.drop (i + 1) := drop_rd (e := sEdge) hi
      rw [e2]
      simp
    · have := (lb_lt hu n.1 (i := i) (by simpa using hi)).2 e
      rw [eids_get hi, lt_asymm this, cond_false, ← take_rd (e := sEdge) hi]
      exact addE_l g n hu hb hn d (i + 1) (by omega) e
theorem addE_ok (g : TGraph) (n : TEdge) (hu : Up (eids g.2)) (hb : g.2.length ≤ 1000) (hn : has (eids g.2) n.1 = false) : V.pleachref26_addEdge g n = some (g.1, layL g.2 (lb (eids g.2) n.1) n) := by
  refine V.pleachref26_addEdge.of _ _ ?_
  unfold F.pleachref26_addEdge.B
  exact addE_l g n hu (by omega) hn g.2.length 0 (by omega) (by omega)
theorem whole_ok (g : TGraph) (o : TOp) (hg : Fine g) (hr : rightB o = true) (hk : o.1 ≤ 4) : V.pleachref26_whole g o = some (oneT g o) := by
  have ns := hg.good.ns
  have es := hg.good.es
  have h1 : 1 ≤ o.1 := by
    rcases Int.lt_or_le o.1 1 with h | h
    · unfold rightB at hr
      simp only [beq_false_of_ne (show o.1 ≠ 1 by omega), beq_false_of_ne (show o.1 ≠ 2 by omega), beq_false_of_ne (show o.1 ≠ 3 by omega), beq_false_of_ne (show o.1 ≠ 4 by omega), beq_false_of_ne (show o.1 ≠ 5 by omega), beq_false_of_ne (show o.1 ≠ 6 by omega), beq_false_of_ne (show o.1 ≠ 7 by omega), beq_false_of_ne (show o.1 ≠ 8 by omega), beq_false_of_ne (show o.1 ≠ 9 by omega), beq_false_of_ne (show o.1 ≠ 10 by omega), beq_false_of_ne (show o.1 ≠ 11 by omega), beq_false_of_ne (show o.1 ≠ 12 by omega)] at hr
      simp at hr
    · exact h
  refine V.pleachref26_whole.of _ _ ?_
  unfold F.pleachref26_whole.B oneT
  rw [show ((g.1, g.2) : TGraph) = g from rfl, NodeAt_ok g _ (by omega), NodeAt_ok g _ (by omega), NodeAt_ok g _ (by omega), EdgeAt_ok g _ (by omega), atI_up hg.good.nup, atI_up hg.good.nup, atI_up hg.good.nup, atI_up hg.good.eup]
  simp only [Option.bind_some, bif_eq, hr, Bool.true_eq_false, if_false]
  by_cases e1 : o.1 = 1
  · rw [if_pos e1, if_pos e1]
    cases hm : has (ids g.1) o.2.1 with
    | true => simp only [if_true]; rw [if_yes (by omega)]
    | false =>
      simp only [Bool.false_eq_true, if_false]
      rw [if_no (by omega), addN_ok g _ hg.good.nup ns hm, Option.bind_some]
      by_cases h5 : g.1.length ≥ 500
      · rw [if_yes (by omega), if_pos h5]
      · rw [if_no (by omega), if_neg h5]
  · rw [if_neg e1, if_neg e1]
    by_cases e2 : o.1 = 2
    · rw [if_pos e2, if_pos e2]
      cases hm : has (ids g.1) o.2.1 with
      | false => simp only [Bool.false_eq_true, if_false, if_true]; rw [if_yes (by omega)]
      | true =>
        have hl : lb (ids g.1) o.2.1 < g.1.length := by simpa using (has_lb hg.good.nup hm).1
        simp only [if_true, Bool.true_eq_false, if_false]
        have hfl1 := List.length_filter_le (fun e : TEdge => strEq e.2.1 o.2.1) g.2
        have hfl2 := List.length_filter_le (fun e : TEdge => strEq e.2.2.1 o.2.1) g.2
        rw [if_no (by omega), refOut_ok g es, refInE_ok g es, Option.bind_some, Option.bind_some, w64_id (by omega) (by omega)]
        have ht := touched_len g.2 o.2.1
        cases htq : touched g.2 o.2.1 with
        | true =>
          rw [htq] at ht
          have := of_decide_eq_true ht
          rw [if_yes (by omega)]; rfl
        | false =>
          rw [htq] at ht
          have := of_decide_eq_false ht
          rw [if_no (by omega), V.pleachref26_nodes.of g (r := g.1) (by unfold F.pleachref26_nodes.B; rw [guard_dec (by unfold nmax; omega)]; rfl), Option.bind_some, w64_up hl (by omega)]
          simp only [nat_cast]
          rw [guard_of (by simp; omega), guard_of (by simp; omega), guard_dec (by simp; omega)]
          have := cut_body g.1 hl
          simp only [nat_cast] at this
          rw [this]
          rfl
    · rw [if_neg e2, if_neg e2]
      by_cases e3 : o.1 = 3
      · rw [if_pos e3, if_pos e3]
        cases hm : has (eids g.2) o.2.1 with
        | true => simp only [if_true]; rw [if_yes (by omega)]
        | false =>
          simp only [Bool.false_eq_true, if_false]
          rw [if_no (by omega), addE_ok g _ hg.good.eup es hm, Option.bind_some]
          cases hf : has (ids g.1) o.2.2.1 with
          | false => simp only [Bool.false_eq_true, if_false, true_or, if_true]; rw [if_yes (by omega)]
          | true =>
            cases ht : has (ids g.1) o.2.2.2.1 with
            | false => simp only [Bool.false_eq_true, Bool.true_eq_false, false_or, if_false, if_true]; rw [if_no (by omega), if_yes (by omega)]
            | true =>
              simp only [Bool.true_eq_false, false_or, if_true, if_false]
              rw [if_no (by omega), if_no (by omega)]
              by_cases h5 : g.2.length ≥ 1000
              · rw [if_yes (by omega), if_pos h5]
              · rw [if_no (by omega), if_neg h5]
      · rw [if_neg e3, if_neg e3, if_pos (by omega : o.1 = 4)]
        cases hm : has (eids g.2) o.2.1 with
        | false => simp only [Bool.false_eq_true, if_false, if_true]; rw [if_yes (by omega)]
        | true =>
          have hl : lb (eids g.2) o.2.1 < g.2.length := by simpa using (has_lb hg.good.eup hm).1
          simp only [if_true, Bool.true_eq_false, if_false]
          rw [if_no (by omega), V.pleachref26_edges.of g (r := g.2) (by unfold F.pleachref26_edges.B; rw [guard_dec (by unfold nmax; omega)]; rfl), Option.bind_some, w64_up hl (by omega)]
          simp only [nat_cast]
          rw [guard_of (by simp; omega), guard_of (by simp; omega), guard_dec (by simp; omega)]
          have := cut_body g.2 hl
          simp only [nat_cast] at this
          rw [this]
theorem One_e (g : TGraph) (o : TOp) (hg : Fine g) (ho : okOp o) : V.pleachref26_One.j11101 g o true = some (if has (eids g.2) o.2.1 = false then (g, 9) else turnE g (lb (eids g.2) o.2.1) (turnT (rd sEdge g.2 (lb (eids g.2) o.2.1)).2.2.2.1 (rd sEdge g.2 (lb (eids g.2) o.2.1)).2.2.2.2 o)) := by
  have es := hg.good.es
  refine V.pleachref26_One.j11101.of _ _ _ ?_
  unfold F.pleachref26_One.j11101.B
  rw [cond_true, show ((g.1, g.2) : TGraph) = g from rfl, EdgeAt_ok g _ (by omega), atI_up hg.good.eup, Option.bind_some]
  cases hm : has (eids g.2) o.2.1 with
  | false => simp only [Bool.false_eq_true, if_false, if_true]; rw [if_yes (by omega)]
  | true =>
    have hl : lb (eids g.2) o.2.1 < g.2.length := by simpa using (has_lb hg.good.eup hm).1
    have mem := rd_mem (e := sEdge) hl
    have lp := LP.of (edgeN_parts (hg.good.edges _ mem)).2.2.2
    simp only [if_true, Bool.true_eq_false, if_false]
    rw [if_no (by omega)]
    refine V.pleachref26_One.j11101011.of _ _ _ ?_
    unfold F.pleachref26_One.j11101011.B
    rw [show ((g.1, g.2) : TGraph) = g from rfl, V.pleachref26_edges.of g (r := g.2) (by unfold F.pleachref26_edges.B; rw [guard_dec (by unfold nmax; omega)]; rfl), Option.bind_some, guard_in hl, guard_in hl, nat_cast,
      show (o.1, o.2.1, o.2.2.1, o.2.2.2.1, o.2.2.2.2.1, o.2.2.2.2.2.1, o.2.2.2.2.2.2.1, o.2.2.2.2.2.2.2) = o from rfl, refTurn_ok _ _ o lp ho, Option.bind_some]
    refine V.pleachref26_One.j1110101111.of _ _ _ _ _ _ _ ?_
    unfold F.pleachref26_One.j1110101111.B turnE
    rw [bif_ne]
    generalize turnT (rd sEdge g.2 (lb (eids g.2) o.2.1)).2.2.2.1 (rd sEdge g.2 (lb (eids g.2) o.2.1)).2.2.2.2 o = t
    by_cases h0 : t.2.2 = 0
    · rw [if_pos h0, if_pos h0]
      refine V.pleachref26_One.j11101011111.of _ _ _ _ _ _ ?_
      unfold F.pleachref26_One.j11101011111.B
      rw [guard_in hl, nat_cast, guard_in (by rw [List.length_set]; exact hl), rd_set hl, List.set_set]
    · rw [if_neg h0, if_neg h0]
theorem One_n (g : TGraph) (o : TOp) (hg : Fine g) (ho : okOp o) : V.pleachref26_One.j11101 g o false = some (if has (ids g.1) o.2.1 = false then (g, 9) else turnN g (lb (ids g.1) o.2.1) (turnT (rd sNode g.1 (lb (ids g.1) o.2.1)).2.1 (rd sNode g.1 (lb (ids g.1) o.2.1)).2.2 o)) := by
  have ns := hg.good.ns
  refine V.pleachref26_One.j11101.of _ _ _ ?_
  unfold F.pleachref26_One.j11101.B
  rw [cond_false, show ((g.1, g.2) : TGraph) = g from rfl, NodeAt_ok g _ (by omega), atI_up hg.good.nup, Option.bind_some]
  cases hm : has (ids g.1) o.2.1 with
  | false => simp only [Bool.false_eq_true, if_false, if_true]; rw [if_yes (by omega)]
  | true =>
    have hl : lb (ids g.1) o.2.1 < g.1.length := by simpa using (has_lb hg.good.nup hm).1
    have mem := rd_mem (e := sNode) hl
    have lp := LP.of (nodeN_parts (hg.good.nodes _ mem)).2
    simp only [if_true, Bool.true_eq_false, if_false]
    rw [if_no (by omega), V.pleachref26_nodes.of g (r := g.1) (by unfold F.pleachref26_nodes.B; rw [guard_dec (by unfold nmax; omega)]; rfl), Option.bind_some, guard_in hl, guard_in hl, nat_cast,
      show (o.1, o.2.1, o.2.2.1, o.2.2.2.1, o.2.2.2.2.1, o.2.2.2.2.2.1, o.2.2.2.2.2.2.1, o.2.2.2.2.2.2.2) = o from rfl, refTurn_ok _ _ o lp ho, Option.bind_some, bif_ne]
    unfold turnN
    generalize turnT (rd sNode g.1 (lb (ids g.1) o.2.1)).2.1 (rd sNode g.1 (lb (ids g.1) o.2.1)).2.2 o = t
    by_cases h0 : t.2.2 = 0
    · rw [if_pos h0, if_pos h0, guard_in hl, guard_in (by rw [List.length_set]; exact hl), rd_set hl, List.set_set]
    · rw [if_neg h0, if_neg h0]
theorem One_ok (g : TGraph) (o : TOp) (hg : Fine g) (ho : okOp o) : V.pleachref26_One g o = some (oneT g o) := by
  refine V.pleachref26_One.of _ _ ?_
  unfold F.pleachref26_One.B
  rw [show ((g.1, g.2) : TGraph) = g from rfl, show (o.1, o.2.1, o.2.2.1, o.2.2.2.1, o.2.2.2.2.1, o.2.2.2.2.2.1, o.2.2.2.2.2.2.1, o.2.2.2.2.2.2.2) = o from rfl, refRight_ok o ho, Option.bind_some]
  cases hr : rightB o with
  | false => simp [oneT, hr]
  | true =>
    rw [Bool.not_true, cond_false]
    by_cases h4 : o.1 ≤ 4
    · rw [if_yes h4, whole_ok g o hg hr h4]; rfl
    · rw [if_no h4]
      unfold oneT
      simp only [hr, Bool.true_eq_false, if_false]
      rw [if_neg (by omega), if_neg (by omega), if_neg (by omega), if_neg (by omega)]
      simp only [bif_eq]
      have h12 : o.1 ≤ 12 := by
        rcases Int.lt_or_le 12 o.1 with h | h
        · unfold rightB at hr
          simp only [beq_false_of_ne (show o.1 ≠ 1 by omega), beq_false_of_ne (show o.1 ≠ 2 by omega), beq_false_of_ne (show o.1 ≠ 3 by omega), beq_false_of_ne (show o.1 ≠ 4 by omega), beq_false_of_ne (show o.1 ≠ 5 by omega), beq_false_of_ne (show o.1 ≠ 6 by omega), beq_false_of_ne (show o.1 ≠ 7 by omega), beq_false_of_ne (show o.1 ≠ 8 by omega), beq_false_of_ne (show o.1 ≠ 9 by omega), beq_false_of_ne (show o.1 ≠ 10 by omega), beq_false_of_ne (show o.1 ≠ 11 by omega), beq_false_of_ne (show o.1 ≠ 12 by omega)] at hr
          simp at hr
        · exact h
      by_cases e7 : o.1 = 7
      · rw [if_pos e7, One_e g o hg ho, if_pos (show o.1 = 7 ∨ o.1 = 8 ∨ o.1 = 11 ∨ o.1 = 12 by omega)]
      · rw [if_neg e7]
        by_cases e8 : o.1 = 8
        · rw [if_pos e8, One_e g o hg ho, if_pos (show o.1 = 7 ∨ o.1 = 8 ∨ o.1 = 11 ∨ o.1 = 12 by omega)]
        · rw [if_neg e8]
          by_cases e11 : o.1 ≥ 11
          · rw [decide_eq_true e11, One_e g o hg ho, if_pos (show o.1 = 7 ∨ o.1 = 8 ∨ o.1 = 11 ∨ o.1 = 12 by omega)]
          · rw [decide_eq_false e11, One_n g o hg ho, if_neg (show ¬ (o.1 = 7 ∨ o.1 = 8 ∨ o.1 = 11 ∨ o.1 = 12) by omega)]

theorem refApply_l (G : TGraph) (ops : List TOp) (hops : ∀ o ∈ ops, okOp o) (hb : ops.length ≤ 1000) : ∀ (d i : Nat) (g : TGraph), i + d = ops.length → Fine g → V.pleachref26_Apply.l111010 G ops (i : Int) g.1 g.2 = some (applyT (ops.drop i) i g)
  | 0, i, g, h, hg => by
    refine V.pleachref26_Apply.l111010.of _ _ _ _ _ ?_
    unfold F.pleachref26_Apply.l111010.B
    rw [if_out (by omega), List.drop_eq_nil_of_le (by omega)]
    rfl
  | d + 1, i, g, h, hg => by
    have hi : i < ops.length := by omega
    have ho := hops _ (rd_mem (e := sOp) hi)
    refine V.pleachref26_Apply.l111010.of _ _ _ _ _ ?_
    unfold F.pleachref26_Apply.l111010.B
    rw [if_in hi, guard_in hi, nat_cast, w64_up hi (by omega), drop_rd (e := sOp) hi, meet_self]
    show ((V.pleachref26_One g (rd sOp ops i)).bind fun t2 => (bif (t2.2 != 0) then (some (([], []), (i : Int), t2.2)) else V.pleachref26_Apply.l111010 G ops ((i + 1 : Nat) : Int) t2.1.1 t2.1.2)) = _
    rw [One_ok g _ hg ho, Option.bind_some, bif_ne]
    unfold applyT
    by_cases h0 : (oneT g (rd sOp ops i)).2 = 0
    · rw [if_pos h0, if_pos h0]
      exact refApply_l G ops hops hb d (i + 1) _ (by omega) (one_fine hg ho h0)
    · rw [if_neg h0, if_neg h0]
theorem refApply_ok (g : TGraph) (ops : List TOp) (hok : okGraph g) (hops : ∀ o ∈ ops, okOp o) (hb : ops.length ≤ 1000) : V.pleachref26_Apply g ops = some (if wrongN g = 0 then applyT ops 0 g else (([], []), 0, wrongN g)) := by
  refine V.pleachref26_Apply.of _ _ ?_
  unfold F.pleachref26_Apply.B
  rw [show ((g.1, g.2) : TGraph) = g from rfl, Wrong_ok g hok, Option.bind_some, bif_ne]
  by_cases h0 : wrongN g = 0
  · rw [if_pos h0, if_pos h0]
    exact refApply_l g ops hops hb ops.length 0 g (by omega) ⟨(good_iff g).1 h0, hok⟩
  · rw [if_neg h0, if_neg h0]

end Go.Proofs.YtdblhdpnllckhaaGreat.AE
end
