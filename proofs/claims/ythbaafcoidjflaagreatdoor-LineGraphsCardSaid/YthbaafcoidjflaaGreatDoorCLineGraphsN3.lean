/- The evaluator of the program's form, its soundness, the functions of the given program as it evaluates them, and laws on these. Conditions: as each theorem says. -/
import Derived.Test.YthbaafcoidjflaaGreatDoorCLineGraphsN2
import Derived.Test.YthbaafcoidjflaaGreatDoorProg
import Derived.Laws.BitsLemmas
import Derived.KernelRfl
import Derived.Test.YthbaafcoidjflaaGreatDoorRows
import Derived.WalkKit
import Derived.ProofKit
import Derived.OpenShut
import Derived.ShutString
import Derived.ChangeOld
import Derived.Below
import Derived.SizedLaws
import Derived.LaidMore
import Derived.Stop.Joined
import Derived.Stop.LaidErr
import Derived.Shelf.Vars
import Derived.Lay
import Derived.Test.YthbaafcoidjflaaGreatDoorTie
import Derived.Test.YthbaafcoidjflaaGreatDoorCards
import Derived.SevenTiedAt
section
set_option linter.unusedVariables false
set_option maxRecDepth 100000
namespace Go.Proofs.YthbaafcoidjflaaGreatDoor.AE
open Go
abbrev TValue : Type := Int × Int × ByteArray
abbrev sValue : Sh := (.prod (.int .i64) (.prod (.int .i64) .str))
abbrev TProp : Type := ByteArray × TValue
abbrev sProp : Sh := (.prod .str sValue)
abbrev TNode : Type := ByteArray × (List ByteArray) × List TProp
abbrev sNode : Sh := (.prod .str (.prod (.list .str) (.list sProp)))
abbrev sOp : Sh := (.prod (.int .i64) (.prod .str (.prod .str (.prod .str sProp))))
abbrev TEdge : Type := ByteArray × ByteArray × TNode
abbrev sEdge : Sh := (.prod .str (.prod .str sNode))
abbrev sCall : Sh := (.prod (.int .i64) (.prod .str (.prod .str (.prod .str (.prod .str (.prod (.list sOp) (.prod .str .str)))))))
abbrev TGraph : Type := (List TNode) × List TEdge
abbrev sGraph : Sh := (.prod (.list sNode) (.list sEdge))
def sgT : List (Nat × Sig) := [
  (6, { ps := [(.agg sGraph), (.sc (.list (.int .i64)))], vals := [.sc .bool] }),
  (8, { vals := [.sc .bool] }),
  (9, { ps := [(.agg sCall)], tup := true, vals := [.sc .str, .sc (.int .i64)], excl := [(8, [0])] }),
  (12, { ps := [(.agg sCall)], vals := [.sc (.int .i64)] }),
  (13, { tup := true, vals := [.agg sCall, .sc (.int .i64)], excl := [(3, [2]), (8, [4])] }),
  (16, { ps := [(.agg sGraph)], vals := [.sc .bool] }),
  (17, { ps := [(.sc (.list .str)), (.sc (.list .str))], vals := [.sc .bool] }),
  (18, { ps := [(.agg sGraph)], vals := [.own .str], coer := [(3, (.own .str))], excl := [(5, [1]), (10, [0])] }),
  (19, { ps := [(.agg sGraph)], vals := [.own .str], coer := [(3, (.own .str))], excl := [(5, [1]), (10, [0])] }),
  (20, { ps := [(.sc (.list (.int .i64)))], vals := [.sc .str], coer := [(3, (.own .str))] }),
  (21, { ps := [(.sc (.list (.int .i64)))], vals := [.sc .str] }),
  (23, { vals := [.sc .str] }),
  (24, { ps := [(.agg sCall)], vals := [.own .str] }),
  (25, { vals := [.sc .str] }),
  (26, { ps := [(.agg sOp)], vals := [.own .str] }),
  (27, joinSig),
  (38, { ps := [(.agg sValue)], vals := [.sc .str] }),
  (39, { ps := [(.agg sCall)], vals := [.sc .bool] }),
  (40, { vals := [.sc (.int .i64)] }),
  (41, { ps := [.raw, (.sc (.list .str))], tup := true, vals := [.agg sCall [5], .sc .bool], excl := [(7, [1]), (10, [1]), (12, [1]), (15, [1]), (23, [1]), (26, [1]), (28, [1])] }),
  (42, { ps := [(.agg sOp)], vals := [.sc (.int .i64)] }),
  (43, { ps := [(.agg sOp)], vals := [.agg sOp] }),
  (44, { ps := [(.agg sCall), (.agg sCall)], vals := [.sc .bool] }),
  (45, splitSig),
  (46, { vals := [.sc (.int .i64)] }),
  (47, { ps := [.raw, (.sc (.list .str))], tup := true, vals := [.agg sOp, .sc .bool], excl := [(9, [1]), (15, [1]), (16, [0])] }),
  (52, { ps := [(.sc (.list .str)), (.sc (.list sProp))], vals := [.sc (.int .i64)] }),
  (53, { ps := [(.sc (.list .str)), (.sc (.list sProp))], vals := [.sc .str] }),
  (54, { ps := [(.sc (.list .str)), (.sc (.list sProp))], vals := [.sc .str] }),
  (55, itoaSig),
  (56, { vals := [.sc .str] }),
  (58, { vals := [.sc .str] }),
  (59, { ps := [(.agg sValue)], vals := [.sc .str] }),
  (65, { ps := [(.agg sValue)], vals := [.sc .bool] }),
  (66, { vals := [.sc .bool] }),
  (67, { vals := [.sc .str] }),
  (68, { vals := [.sc .bool] }),
  (69, { vals := [.sc .bool] }),
  (70, { vals := [.sc .str] }),
  (71, { ps := [(.sc (.list sProp)), .raw, (.agg sValue)], tup := true, vals := [.own sProp, .sc (.int .i64)] }),
  (72, { ps := [(.sc (.list sOp)), (.sc (.list sOp))], vals := [.sc .bool] }),
  (74, { tup := true, vals := [.agg sValue, .sc (.int .i64)] }),
  (77, { vals := [.sc .str] }),
  (78, { vals := [.sc .str] }),
  (79, { ps := [(.agg sValue)], vals := [.sc (.int .i64)] }),
  (80, { vals := [.sc .bool] }),
  (81, { vals := [.sc .str], excl := [(5, [0])] }),
  (85, { tup := true, vals := [.sc (.int .i64), .sc .bool] }),
  (86, { ps := [(.sc (.list sProp))], vals := [.own sProp] }),
  (87, { ps := [(.sc (.list sProp)), .raw], tup := true, vals := [.sc (.int .i64), .sc .bool] }),
  (88, insSig sProp),
  (92, { tup := true, vals := [.agg sValue, .sc .bool], excl := [(11, [0])] }),
  (96, contSig 97 badR),
  (100, atoiSig),
  (101, { vals := [.sc .str] }),
  (102, { ps := [(.sc (.list sProp)), .raw, .raw], tup := true, vals := [.sc (.int .i64), .sc .bool] }),
  (103, { ps := [(.agg sProp), .raw], vals := [.sc (.int .i64)] }),
  (104, { vals := [.sc (.int .i64)] }),
  (111, { vals := [.sc .bool] }),
  (112, { tup := true, vals := [.sc .str, .sc .bool], coer := [(4, (.own (.int .u8)))] }),
  (121, { vals := [.sc .bool] }),
  (128, { vals := [.sc .bool] }),
  (129, { vals := [.sc (.int .u8)] })]
abbrev sg : FuncId → Sig := sigOf sgT
noncomputable def F.pleachref26_weight (K : Nat) (a0 : List ByteArray) (a1 : List TProp) : Option (Int) := evFn Tryz.prog sg K 52 [.sc (.list .str a0 false), .sc (.list sProp a1 false)] []
noncomputable def F.pleachref26_weight.at (K : Nat) (p ns : List Nat) (s : St) : Option (Int) := atFn Tryz.prog sg K 52 0 p ns s
noncomputable def F.pleachref26_weight.in (K : Nat) (H : List Nat → List Nat → St → Option (Int)) (p ns : List Nat) (s : St) : Option (Int) := inFn Tryz.prog sg K 52 0 [] H p ns s
theorem F.pleachref26_weight.in_eq K p ns s : F.pleachref26_weight.at K p ns s = F.pleachref26_weight.in K (F.pleachref26_weight.at K) p ns s := atFn_eq (P := Tryz.prog) (sg := sg) (K := K) (f := 52) (m := 0) [] p ns s
theorem F.pleachref26_weight.in_main K a0 a1 : F.pleachref26_weight (K + 1) a0 a1 = F.pleachref26_weight.in K (F.pleachref26_weight.at K) [] [] ⟨slots [.sc (.list .str a0 false), .sc (.list sProp a1 false)] 0, []⟩ := evFn_eq (P := Tryz.prog) (sg := sg) (K := K) (f := 52) (args := [.sc (.list .str a0 false), .sc (.list sProp a1 false)]) (σ := []) [] (by kernel_rfl)
def F.pleachref26_weight.l111010.st (a0 : List ByteArray) (a1 : List TProp) (x0 : Int) (x1 : Int) : St := ⟨[(0, vL .str a0), (1, vL sProp a1), (5, vI x0), (6, vI x1)], []⟩
noncomputable def F.pleachref26_weight.l111010 (K n0 : Nat) (a0 : List ByteArray) (a1 : List TProp) (x0 : Int) (x1 : Int) := F.pleachref26_weight.at K [1, 1, 1, 0, 1, 0] [n0] (F.pleachref26_weight.l111010.st a0 a1 x0 x1)
def F.pleachref26_weight.l1111010.st (a0 : List ByteArray) (a1 : List TProp) (x0 : Int) (x1 : Int) : St := ⟨[(1, vL sProp a1), (5, vI x0), (7, vI x1)], []⟩
noncomputable def F.pleachref26_weight.l1111010 (K n0 : Nat) (a0 : List ByteArray) (a1 : List TProp) (x0 : Int) (x1 : Int) := F.pleachref26_weight.at K [1, 1, 1, 1, 0, 1, 0] [n0] (F.pleachref26_weight.l1111010.st a0 a1 x0 x1)
noncomputable def F.pleachref26_weight.l111010.B (c0 : (List ByteArray) → (List TProp) → (Int) → (Int) → Option (Int)) (c1 : (List ByteArray) → (List TProp) → (Int) → (Int) → Option (Int)) (a0 : List ByteArray) (a1 : List TProp) (x0 : Int) (x1 : Int) : Option (Int) :=
    (bif (decide (x1 < (a0.length : Int))) then (guardK (decide (0 ≤ x1) && decide (x1 < (a0.length : Int))) (c0 a0 a1 (w64 (x0 + (if 5000 < ((rd .str a0 x1.toNat).size : Int) then 5000 else ((rd .str a0 x1.toNat).size : Int)))) (w64 (x1 + 1)))) else (c1 a0 a1 x0 0))
theorem F.pleachref26_weight.l111010.eq K n0 a0 a1 x0 x1 : F.pleachref26_weight.l111010 K (n0 + 1) a0 a1 x0 x1 = F.pleachref26_weight.l111010.B (F.pleachref26_weight.l111010 K n0) (F.pleachref26_weight.l1111010 K K) a0 a1 x0 x1 := (F.pleachref26_weight.in_eq K [1, 1, 1, 0, 1, 0] [n0 + 1] (F.pleachref26_weight.l111010.st a0 a1 x0 x1)).trans ((show ∀ H, F.pleachref26_weight.in K H [1, 1, 1, 0, 1, 0] [n0 + 1] (F.pleachref26_weight.l111010.st a0 a1 x0 x1) = F.pleachref26_weight.l111010.B (fun a0 a1 x0 x1 => H [1, 1, 1, 0, 1, 0] [n0] (F.pleachref26_weight.l111010.st a0 a1 x0 x1)) (fun a0 a1 x0 x1 => H [1, 1, 1, 1, 0, 1, 0] [K] (F.pleachref26_weight.l1111010.st a0 a1 x0 x1)) a0 a1 x0 x1 from by intro H; kernel_rfl) (F.pleachref26_weight.at K))
noncomputable def F.pleachref26_weight.l1111010.B (c0 : (List ByteArray) → (List TProp) → (Int) → (Int) → Option (Int)) (a0 : List ByteArray) (a1 : List TProp) (x0 : Int) (x1 : Int) : Option (Int) :=
    (bif (decide (x1 < (a1.length : Int))) then (guardK (decide (0 ≤ x1) && decide (x1 < (a1.length : Int))) (guardK (decide (0 ≤ x1) && decide (x1 < (a1.length : Int))) (c0 a0 a1 (w64 ((w64 (x0 + (if 5000 < (((rd sProp a1 x1.toNat).1).size : Int) then 5000 else (((rd sProp a1 x1.toNat).1).size : Int)))) + (if 5000 < (((((rd sProp a1 x1.toNat).2).2).2).size : Int) then 5000 else (((((rd sProp a1 x1.toNat).2).2).2).size : Int)))) (w64 (x1 + 1))))) else (some x0))
theorem F.pleachref26_weight.l1111010.eq K n0 a0 a1 x0 x1 : F.pleachref26_weight.l1111010 K (n0 + 1) a0 a1 x0 x1 = F.pleachref26_weight.l1111010.B (F.pleachref26_weight.l1111010 K n0) a0 a1 x0 x1 := (F.pleachref26_weight.in_eq K [1, 1, 1, 1, 0, 1, 0] [n0 + 1] (F.pleachref26_weight.l1111010.st a0 a1 x0 x1)).trans ((show ∀ H, F.pleachref26_weight.in K H [1, 1, 1, 1, 0, 1, 0] [n0 + 1] (F.pleachref26_weight.l1111010.st a0 a1 x0 x1) = F.pleachref26_weight.l1111010.B (fun a0 a1 x0 x1 => H [1, 1, 1, 1, 0, 1, 0] [n0] (F.pleachref26_weight.l1111010.st a0 a1 x0 x1)) a0 a1 x0 x1 from by intro H; kernel_rfl) (F.pleachref26_weight.at K))
noncomputable def F.pleachref26_weight.B (c0 : (List ByteArray) → (List TProp) → (Int) → (Int) → Option (Int)) (a0 : List ByteArray) (a1 : List TProp) : Option (Int) :=
    (bif (decide ((a0.length : Int) > 20)) then (some 100000) else (bif (decide ((a1.length : Int) > 20)) then (some 100000) else (c0 a0 a1 0 0)))
theorem F.pleachref26_weight.eq K a0 a1 : F.pleachref26_weight (K + 1) a0 a1 = F.pleachref26_weight.B (F.pleachref26_weight.l111010 K K) a0 a1 := (F.pleachref26_weight.in_main K a0 a1).trans ((show ∀ H, F.pleachref26_weight.in K H [] [] ⟨slots [.sc (.list .str a0 false), .sc (.list sProp a1 false)] 0, []⟩ = F.pleachref26_weight.B (fun a0 a1 x0 x1 => H [1, 1, 1, 0, 1, 0] [K] (F.pleachref26_weight.l111010.st a0 a1 x0 x1)) a0 a1 from by intro H; kernel_rfl) (F.pleachref26_weight.at K))
noncomputable def V.pleachref26_weight.l111010 (a0 : List ByteArray) (a1 : List TProp) (x0 : Int) (x1 : Int) := lim fun v => F.pleachref26_weight.l111010 (v 0) (v 1) a0 a1 x0 x1
noncomputable def V.pleachref26_weight.l1111010 (a0 : List ByteArray) (a1 : List TProp) (x0 : Int) (x1 : Int) := lim fun v => F.pleachref26_weight.l1111010 (v 0) (v 1) a0 a1 x0 x1
noncomputable def V.pleachref26_weight (a0 : List ByteArray) (a1 : List TProp) := lim fun v => F.pleachref26_weight (v 0) a0 a1
theorem V.pleachref26_weight.l111010.of a0 a1 x0 x1 {r} (h : F.pleachref26_weight.l111010.B V.pleachref26_weight.l111010 V.pleachref26_weight.l1111010 a0 a1 x0 x1 = some r) : V.pleachref26_weight.l111010 a0 a1 x0 x1 = some r :=
  App.to (App.step 1 (fun v => F.pleachref26_weight.l111010.eq (v 0) (v 1) a0 a1 x0 x1) (by unfold F.pleachref26_weight.l111010.B; repeat' first | apply App.guard | apply App.cond | exact App.lim | exact (App.enter 1 App.lim) | exact App.val | exact App.no | apply App.meet | apply App.ite | refine App.bind ?_ fun _ => ?_)) h
theorem V.pleachref26_weight.l1111010.of a0 a1 x0 x1 {r} (h : F.pleachref26_weight.l1111010.B V.pleachref26_weight.l1111010 a0 a1 x0 x1 = some r) : V.pleachref26_weight.l1111010 a0 a1 x0 x1 = some r :=
  App.to (App.step 1 (fun v => F.pleachref26_weight.l1111010.eq (v 0) (v 1) a0 a1 x0 x1) (by unfold F.pleachref26_weight.l1111010.B; repeat' first | apply App.guard | apply App.cond | exact App.lim | exact App.val | exact App.no | apply App.meet | apply App.ite | refine App.bind ?_ fun _ => ?_)) h
theorem V.pleachref26_weight.of a0 a1 {r} (h : F.pleachref26_weight.B V.pleachref26_weight.l111010 a0 a1 = some r) : V.pleachref26_weight a0 a1 = some r :=
  App.to (App.step 0 (fun v => F.pleachref26_weight.eq (v 0) a0 a1) (by unfold F.pleachref26_weight.B; repeat' first | apply App.guard | apply App.cond | exact App.lim | exact (App.enter 1 App.lim) | exact App.val | exact App.no | apply App.meet | apply App.ite | refine App.bind ?_ fun _ => ?_)) h
noncomputable def F.pleachref26_Few (K : Nat) (a0 : TGraph) : Option (Bool) := evFn Tryz.prog sg K 16 [.agg [.list sNode a0.1 false, .list sEdge a0.2 false]] []
noncomputable def F.pleachref26_Few.at (K : Nat) (p ns : List Nat) (s : St) : Option (Bool) := atFn Tryz.prog sg K 16 0 p ns s
noncomputable def F.pleachref26_Few.in (K : Nat) (H : List Nat → List Nat → St → Option (Bool)) (p ns : List Nat) (s : St) : Option (Bool) := inFn Tryz.prog sg K 16 0 [] H p ns s
theorem F.pleachref26_Few.in_eq K p ns s : F.pleachref26_Few.at K p ns s = F.pleachref26_Few.in K (F.pleachref26_Few.at K) p ns s := atFn_eq (P := Tryz.prog) (sg := sg) (K := K) (f := 16) (m := 0) [] p ns s
theorem F.pleachref26_Few.in_main K a0 : F.pleachref26_Few (K + 1) a0 = F.pleachref26_Few.in K (F.pleachref26_Few.at K) [] [] ⟨slots [.agg [.list sNode a0.1 false, .list sEdge a0.2 false]] 0, []⟩ := evFn_eq (P := Tryz.prog) (sg := sg) (K := K) (f := 16) (args := [.agg [.list sNode a0.1 false, .list sEdge a0.2 false]]) (σ := []) [] (by kernel_rfl)
def F.pleachref26_Few.l111010.st (a0 : TGraph) (x0 : Int) (x1 : Int) : St := ⟨[(1, .one (.sc (.ref 0 0))), (3, vI x0), (4, vI x1)], [.cells 42 [.list sNode a0.1 false, .list sEdge a0.2 false]]⟩
noncomputable def F.pleachref26_Few.l111010 (K n0 : Nat) (a0 : TGraph) (x0 : Int) (x1 : Int) := F.pleachref26_Few.at K [1, 1, 1, 0, 1, 0] [n0] (F.pleachref26_Few.l111010.st a0 x0 x1)
def F.pleachref26_Few.l1111010.st (a0 : TGraph) (x0 : Int) (x1 : Int) : St := ⟨[(1, .one (.sc (.ref 0 0))), (3, vI x0), (5, vI x1)], [.cells 42 [.list sNode a0.1 false, .list sEdge a0.2 false]]⟩
noncomputable def F.pleachref26_Few.l1111010 (K n0 : Nat) (a0 : TGraph) (x0 : Int) (x1 : Int) := F.pleachref26_Few.at K [1, 1, 1, 1, 0, 1, 0] [n0] (F.pleachref26_Few.l1111010.st a0 x0 x1)
noncomputable def F.pleachref26_Few.l111010.B (c0 : (List ByteArray) → (List TProp) → Option (Int)) (c1 : (TGraph) → (Int) → (Int) → Option (Bool)) (c2 : (TGraph) → (Int) → (Int) → Option (Bool)) (a0 : TGraph) (x0 : Int) (x1 : Int) : Option (Bool) :=
    (bif (decide (x1 < (a0.1.length : Int))) then (guardK (decide (0 ≤ x1) && decide (x1 < (a0.1.length : Int))) (guardK (decide (0 ≤ x1) && decide (x1 < (a0.1.length : Int))) (guardK (decide (0 ≤ x1) && decide (x1 < (a0.1.length : Int))) ((c0 (((rd sNode a0.1 x1.toNat).2).1) (((rd sNode a0.1 x1.toNat).2).2)).bind fun t0 => (c1 a0 (w64 ((w64 (x0 + (if 5000 < (((rd sNode a0.1 x1.toNat).1).size : Int) then 5000 else (((rd sNode a0.1 x1.toNat).1).size : Int)))) + t0)) (w64 (x1 + 1))))))) else (c2 a0 x0 0))
theorem F.pleachref26_Few.l111010.eq K n0 a0 x0 x1 : F.pleachref26_Few.l111010 K (n0 + 1) a0 x0 x1 = F.pleachref26_Few.l111010.B (F.pleachref26_weight K) (F.pleachref26_Few.l111010 K n0) (F.pleachref26_Few.l1111010 K K) a0 x0 x1 := (F.pleachref26_Few.in_eq K [1, 1, 1, 0, 1, 0] [n0 + 1] (F.pleachref26_Few.l111010.st a0 x0 x1)).trans ((show ∀ H, F.pleachref26_Few.in K H [1, 1, 1, 0, 1, 0] [n0 + 1] (F.pleachref26_Few.l111010.st a0 x0 x1) = F.pleachref26_Few.l111010.B (F.pleachref26_weight K) (fun a0 x0 x1 => H [1, 1, 1, 0, 1, 0] [n0] (F.pleachref26_Few.l111010.st a0 x0 x1)) (fun a0 x0 x1 => H [1, 1, 1, 1, 0, 1, 0] [K] (F.pleachref26_Few.l1111010.st a0 x0 x1)) a0 x0 x1 from by intro H; kernel_rfl) (F.pleachref26_Few.at K))
noncomputable def F.pleachref26_Few.l1111010.B (c0 : (List ByteArray) → (List TProp) → Option (Int)) (c1 : (TGraph) → (Int) → (Int) → Option (Bool)) (a0 : TGraph) (x0 : Int) (x1 : Int) : Option (Bool) :=
    (bif (decide (x1 < (a0.2.length : Int))) then (guardK (decide (0 ≤ x1) && decide (x1 < (a0.2.length : Int))) ((c0 (((((rd sEdge a0.2 x1.toNat).2).2).2).1) (((((rd sEdge a0.2 x1.toNat).2).2).2).2)).bind fun t1 => (c1 a0 (w64 ((w64 ((w64 ((w64 (x0 + (if 5000 < (((rd sEdge a0.2 x1.toNat).1).size : Int) then 5000 else (((rd sEdge a0.2 x1.toNat).1).size : Int)))) + (if 5000 < ((((rd sEdge a0.2 x1.toNat).2).1).size : Int) then 5000 else ((((rd sEdge a0.2 x1.toNat).2).1).size : Int)))) + (if 5000 < (((((rd sEdge a0.2 x1.toNat).2).2).1).size : Int) then 5000 else (((((rd sEdge a0.2 x1.toNat).2).2).1).size : Int)))) + t1)) (w64 (x1 + 1))))) else (some (decide (x0 ≤ 5000))))
theorem F.pleachref26_Few.l1111010.eq K n0 a0 x0 x1 : F.pleachref26_Few.l1111010 K (n0 + 1) a0 x0 x1 = F.pleachref26_Few.l1111010.B (F.pleachref26_weight K) (F.pleachref26_Few.l1111010 K n0) a0 x0 x1 := (F.pleachref26_Few.in_eq K [1, 1, 1, 1, 0, 1, 0] [n0 + 1] (F.pleachref26_Few.l1111010.st a0 x0 x1)).trans ((show ∀ H, F.pleachref26_Few.in K H [1, 1, 1, 1, 0, 1, 0] [n0 + 1] (F.pleachref26_Few.l1111010.st a0 x0 x1) = F.pleachref26_Few.l1111010.B (F.pleachref26_weight K) (fun a0 x0 x1 => H [1, 1, 1, 1, 0, 1, 0] [n0] (F.pleachref26_Few.l1111010.st a0 x0 x1)) a0 x0 x1 from by intro H; kernel_rfl) (F.pleachref26_Few.at K))
noncomputable def F.pleachref26_Few.B (c0 : (TGraph) → (Int) → (Int) → Option (Bool)) (a0 : TGraph) : Option (Bool) :=
    (bif (decide ((a0.1.length : Int) > 40)) then (some false) else (bif (decide ((a0.2.length : Int) > 60)) then (some false) else (c0 a0 0 0)))
theorem F.pleachref26_Few.eq K a0 : F.pleachref26_Few (K + 1) a0 = F.pleachref26_Few.B (F.pleachref26_Few.l111010 K K) a0 := (F.pleachref26_Few.in_main K a0).trans ((show ∀ H, F.pleachref26_Few.in K H [] [] ⟨slots [.agg [.list sNode a0.1 false, .list sEdge a0.2 false]] 0, []⟩ = F.pleachref26_Few.B (fun a0 x0 x1 => H [1, 1, 1, 0, 1, 0] [K] (F.pleachref26_Few.l111010.st a0 x0 x1)) a0 from by intro H; kernel_rfl) (F.pleachref26_Few.at K))
noncomputable def V.pleachref26_Few.l111010 (a0 : TGraph) (x0 : Int) (x1 : Int) := lim fun v => F.pleachref26_Few.l111010 (v 0) (v 1) a0 x0 x1
noncomputable def V.pleachref26_Few.l1111010 (a0 : TGraph) (x0 : Int) (x1 : Int) := lim fun v => F.pleachref26_Few.l1111010 (v 0) (v 1) a0 x0 x1
noncomputable def V.pleachref26_Few (a0 : TGraph) := lim fun v => F.pleachref26_Few (v 0) a0
theorem V.pleachref26_Few.l111010.of a0 x0 x1 {r} (h : F.pleachref26_Few.l111010.B V.pleachref26_weight V.pleachref26_Few.l111010 V.pleachref26_Few.l1111010 a0 x0 x1 = some r) : V.pleachref26_Few.l111010 a0 x0 x1 = some r :=
  App.to (App.step 1 (fun v => F.pleachref26_Few.l111010.eq (v 0) (v 1) a0 x0 x1) (by unfold F.pleachref26_Few.l111010.B; repeat' first | apply App.guard | apply App.cond | exact App.lim | exact (App.enter 1 App.lim) | exact App.val | exact App.no | apply App.meet | apply App.ite | refine App.bind ?_ fun _ => ?_)) h
theorem V.pleachref26_Few.l1111010.of a0 x0 x1 {r} (h : F.pleachref26_Few.l1111010.B V.pleachref26_weight V.pleachref26_Few.l1111010 a0 x0 x1 = some r) : V.pleachref26_Few.l1111010 a0 x0 x1 = some r :=
  App.to (App.step 1 (fun v => F.pleachref26_Few.l1111010.eq (v 0) (v 1) a0 x0 x1) (by unfold F.pleachref26_Few.l1111010.B; repeat' first | apply App.guard | apply App.cond | exact App.lim | exact App.val | exact App.no | apply App.meet | apply App.ite | refine App.bind ?_ fun _ => ?_)) h
theorem V.pleachref26_Few.of a0 {r} (h : F.pleachref26_Few.B V.pleachref26_Few.l111010 a0 = some r) : V.pleachref26_Few a0 = some r :=
  App.to (App.step 0 (fun v => F.pleachref26_Few.eq (v 0) a0) (by unfold F.pleachref26_Few.B; repeat' first | apply App.guard | apply App.cond | exact App.lim | exact (App.enter 1 App.lim) | exact App.val | exact App.no | apply App.meet | apply App.ite | refine App.bind ?_ fun _ => ?_)) h
noncomputable def F.value_Check (K : Nat) (a0 : TValue) : Option (Int) := evFn Tryz.prog sg K 79 [.agg [.val (.int .i64 a0.1), .val (.int .i64 a0.2.1), .val (.string a0.2.2)]] []
noncomputable def F.value_Check.B (a0 : TValue) : Option (Int) :=
    (bif (a0.1 == 1) then (bif (a0.2.1 == 0) then (bif (!(strEq a0.2.2 (⟨#[]⟩ : ByteArray))) then (some 2) else (some 0)) else (bif (a0.2.1 == 1) then (bif (!(strEq a0.2.2 (⟨#[]⟩ : ByteArray))) then (some 2) else (some 0)) else (some 2))) else (bif (a0.1 == 2) then (bif (!(strEq a0.2.2 (⟨#[]⟩ : ByteArray))) then (some 2) else (some 0)) else (bif (a0.1 == 3) then (bif (a0.2.1 == 0) then (bif (!(decide ((a0.2.2.size : Int) ≤ 64))) then (some 2) else (some 0)) else (some 2)) else (some 2))))
theorem F.value_Check.eq K a0 : F.value_Check (K + 1) a0 = F.value_Check.B a0 := by kernel_rfl
noncomputable def V.value_Check (a0 : TValue) := lim fun v => F.value_Check (v 0) a0
theorem V.value_Check.of a0 {r} (h : F.value_Check.B a0 = some r) : V.value_Check a0 = some r :=
  App.to (App.step 0 (fun v => F.value_Check.eq (v 0) a0) (by unfold F.value_Check.B; repeat' first | apply App.guard | apply App.cond | exact App.lim | exact App.val | exact App.no | apply App.meet | apply App.ite | refine App.bind ?_ fun _ => ?_)) h
noncomputable def F.strconv_Itoa (K : Nat) (a0 : Int) : Option (ByteArray) := evFn Tryz.prog sg K 55 [.sc (.val (.int .i64 a0))] []
noncomputable def F.strconv_Itoa.B (a0 : Int) : Option (ByteArray) :=
    (itoaB a0)
theorem F.strconv_Itoa.eq K a0 : F.strconv_Itoa (K + 1) a0 = F.strconv_Itoa.B a0 := by kernel_rfl
noncomputable def V.strconv_Itoa (a0 : Int) := lim fun v => F.strconv_Itoa (v 0) a0
theorem V.strconv_Itoa.of a0 {r} (h : F.strconv_Itoa.B a0 = some r) : V.strconv_Itoa a0 = some r :=
  App.to (App.step 0 (fun v => F.strconv_Itoa.eq (v 0) a0) App.const) h
noncomputable def F.strings_ContainsFunc_by_value_plain_1 (K : Nat) (a0 : ByteArray) : Option (Bool) := evFn Tryz.prog sg K 96 [.sc (.val (.string a0)), .sc (.fn 97 [])] []
noncomputable def F.strings_ContainsFunc_by_value_plain_1.B (a0 : ByteArray) : Option (Bool) :=
    (some (hasR badR a0))
theorem F.strings_ContainsFunc_by_value_plain_1.eq K a0 : F.strings_ContainsFunc_by_value_plain_1 (K + 1) a0 = F.strings_ContainsFunc_by_value_plain_1.B a0 := by kernel_rfl
noncomputable def V.strings_ContainsFunc_by_value_plain_1 (a0 : ByteArray) := lim fun v => F.strings_ContainsFunc_by_value_plain_1 (v 0) a0
theorem V.strings_ContainsFunc_by_value_plain_1.of a0 {r} (h : F.strings_ContainsFunc_by_value_plain_1.B a0 = some r) : V.strings_ContainsFunc_by_value_plain_1 a0 = some r :=
  App.to (App.step 0 (fun v => F.strings_ContainsFunc_by_value_plain_1.eq (v 0) a0) App.const) h
noncomputable def F.value_plain (K : Nat) (a0 : ByteArray) : Option (Bool) := evFn Tryz.prog sg K 80 [.sc (.val (.string a0))] []
noncomputable def F.value_plain.B (c0 : (ByteArray) → Option (Bool)) (a0 : ByteArray) : Option (Bool) :=
    ((c0 a0).bind fun t0 => (some (!t0)))
theorem F.value_plain.eq K a0 : F.value_plain (K + 1) a0 = F.value_plain.B (F.strings_ContainsFunc_by_value_plain_1 K) a0 := by kernel_rfl
noncomputable def V.value_plain (a0 : ByteArray) := lim fun v => F.value_plain (v 0) a0
theorem V.value_plain.of a0 {r} (h : F.value_plain.B V.strings_ContainsFunc_by_value_plain_1 a0 = some r) : V.value_plain a0 = some r :=
  App.to (App.step 0 (fun v => F.value_plain.eq (v 0) a0) (by unfold F.value_plain.B; repeat' first | apply App.guard | apply App.cond | exact App.lim | exact App.val | exact App.no | apply App.meet | apply App.ite | refine App.bind ?_ fun _ => ?_)) h
noncomputable def F.sha_Hex (K : Nat) (a0 : ByteArray) : Option (ByteArray) := evFn Tryz.prog sg K 81 [.sc (.val (.string a0))] []
noncomputable def F.sha_Hex.at (K : Nat) (p ns : List Nat) (s : St) : Option (ByteArray) := atFn Tryz.prog sg K 81 0 p ns s
noncomputable def F.sha_Hex.in (K : Nat) (H : List Nat → List Nat → St → Option (ByteArray)) (p ns : List Nat) (s : St) : Option (ByteArray) := inFn Tryz.prog sg K 81 0 [] H p ns s
theorem F.sha_Hex.in_eq K p ns s : F.sha_Hex.at K p ns s = F.sha_Hex.in K (F.sha_Hex.at K) p ns s := atFn_eq (P := Tryz.prog) (sg := sg) (K := K) (f := 81) (m := 0) [] p ns s
theorem F.sha_Hex.in_main K a0 : F.sha_Hex (K + 1) a0 = F.sha_Hex.in K (F.sha_Hex.at K) [] [] ⟨slots [.sc (.val (.string a0))] 0, []⟩ := evFn_eq (P := Tryz.prog) (sg := sg) (K := K) (f := 81) (args := [.sc (.val (.string a0))]) (σ := []) [] (by kernel_rfl)
def F.sha_Hex.l11010.st (a0 : ByteArray) (x0 : Int) (x1 : List Int) : St := ⟨[(0, vS a0), (3, .one (.sc (.own 0 none))), (10, vI (a0.size : Int)), (11, vI x0)], [.elems (.int .u8) x1]⟩
noncomputable def F.sha_Hex.l11010 (K n0 : Nat) (a0 : ByteArray) (x0 : Int) (x1 : List Int) := F.sha_Hex.at K [1, 1, 0, 1, 0] [n0] (F.sha_Hex.l11010.st a0 x0 x1)
noncomputable def F.sha_Hex.l11010.B (c0 : (ByteArray) → (Int) → (List Int) → Option (ByteArray)) (a0 : ByteArray) (x0 : Int) (x1 : List Int) : Option (ByteArray) :=
    (bif (decide (x0 < (a0.size : Int))) then (guardK (decide (0 ≤ x0) && decide (x0 < (a0.size : Int))) (guardK (decide (0 ≤ (Int.fdiv (byteAt a0 x0) (2 ^ 4))) && decide ((Int.fdiv (byteAt a0 x0) (2 ^ 4)) < ((⟨#[48, 49, 50, 51, 52, 53, 54, 55, 56, 57, 97, 98, 99, 100, 101, 102]⟩ : ByteArray).size : Int))) (guardK (decide (0 ≤ x0) && decide (x0 < (a0.size : Int))) (guardK (decide (0 ≤ (IntKind.wrap .u8 ((BitVec.ofInt 8 (byteAt a0 x0) &&& BitVec.ofInt 8 15).toNat : Int))) && decide ((IntKind.wrap .u8 ((BitVec.ofInt 8 (byteAt a0 x0) &&& BitVec.ofInt 8 15).toNat : Int)) < ((⟨#[48, 49, 50, 51, 52, 53, 54, 55, 56, 57, 97, 98, 99, 100, 101, 102]⟩ : ByteArray).size : Int))) (guardK (decide (x1.length + ([(byteAt (⟨#[48, 49, 50, 51, 52, 53, 54, 55, 56, 57, 97, 98, 99, 100, 101, 102]⟩ : ByteArray) (Int.fdiv (byteAt a0 x0) (2 ^ 4))), (byteAt (⟨#[48, 49, 50, 51, 52, 53, 54, 55, 56, 57, 97, 98, 99, 100, 101, 102]⟩ : ByteArray) (IntKind.wrap .u8 ((BitVec.ofInt 8 (byteAt a0 x0) &&& BitVec.ofInt 8 15).toNat : Int)))]).length ≤ nmax)) (c0 a0 (w64 (x0 + 1)) (x1 ++ [(byteAt (⟨#[48, 49, 50, 51, 52, 53, 54, 55, 56, 57, 97, 98, 99, 100, 101, 102]⟩ : ByteArray) (Int.fdiv (byteAt a0 x0) (2 ^ 4))), (byteAt (⟨#[48, 49, 50, 51, 52, 53, 54, 55, 56, 57, 97, 98, 99, 100, 101, 102]⟩ : ByteArray) (IntKind.wrap .u8 ((BitVec.ofInt 8 (byteAt a0 x0) &&& BitVec.ofInt 8 15).toNat : Int)))]))))))) else (some (bytesOf x1)))
theorem F.sha_Hex.l11010.eq K n0 a0 x0 x1 : F.sha_Hex.l11010 K (n0 + 1) a0 x0 x1 = F.sha_Hex.l11010.B (F.sha_Hex.l11010 K n0) a0 x0 x1 := (F.sha_Hex.in_eq K [1, 1, 0, 1, 0] [n0 + 1] (F.sha_Hex.l11010.st a0 x0 x1)).trans ((show ∀ H, F.sha_Hex.in K H [1, 1, 0, 1, 0] [n0 + 1] (F.sha_Hex.l11010.st a0 x0 x1) = F.sha_Hex.l11010.B (fun a0 x0 x1 => H [1, 1, 0, 1, 0] [n0] (F.sha_Hex.l11010.st a0 x0 x1)) a0 x0 x1 from by intro H; kernel_rfl) (F.sha_Hex.at K))
noncomputable def F.sha_Hex.B (c0 : (ByteArray) → (Int) → (List Int) → Option (ByteArray)) (a0 : ByteArray) : Option (ByteArray) :=
    (guardK (decide (0 ≤ (w64 (2 * (a0.size : Int)))) && decide ((w64 (2 * (a0.size : Int))) ≤ 17179869184)) (c0 a0 0 ([])))
theorem F.sha_Hex.eq K a0 : F.sha_Hex (K + 1) a0 = F.sha_Hex.B (F.sha_Hex.l11010 K K) a0 := (F.sha_Hex.in_main K a0).trans ((show ∀ H, F.sha_Hex.in K H [] [] ⟨slots [.sc (.val (.string a0))] 0, []⟩ = F.sha_Hex.B (fun a0 x0 x1 => H [1, 1, 0, 1, 0] [K] (F.sha_Hex.l11010.st a0 x0 x1)) a0 from by intro H; kernel_rfl) (F.sha_Hex.at K))
noncomputable def V.sha_Hex.l11010 (a0 : ByteArray) (x0 : Int) (x1 : List Int) := lim fun v => F.sha_Hex.l11010 (v 0) (v 1) a0 x0 x1
noncomputable def V.sha_Hex (a0 : ByteArray) := lim fun v => F.sha_Hex (v 0) a0
theorem V.sha_Hex.l11010.of a0 x0 x1 {r} (h : F.sha_Hex.l11010.B V.sha_Hex.l11010 a0 x0 x1 = some r) : V.sha_Hex.l11010 a0 x0 x1 = some r :=
  App.to (App.step 1 (fun v => F.sha_Hex.l11010.eq (v 0) (v 1) a0 x0 x1) (by unfold F.sha_Hex.l11010.B; repeat' first | apply App.guard | apply App.cond | exact App.lim | exact App.val | exact App.no | apply App.meet | apply App.ite | refine App.bind ?_ fun _ => ?_)) h
theorem V.sha_Hex.of a0 {r} (h : F.sha_Hex.B V.sha_Hex.l11010 a0 = some r) : V.sha_Hex a0 = some r :=
  App.to (App.step 0 (fun v => F.sha_Hex.eq (v 0) a0) (by unfold F.sha_Hex.B; repeat' first | apply App.guard | apply App.cond | exact App.lim | exact (App.enter 1 App.lim) | exact App.val | exact App.no | apply App.meet | apply App.ite | refine App.bind ?_ fun _ => ?_)) h
noncomputable def F.value_Show (K : Nat) (a0 : TValue) : Option (ByteArray) := evFn Tryz.prog sg K 59 [.agg [.val (.int .i64 a0.1), .val (.int .i64 a0.2.1), .val (.string a0.2.2)]] []
noncomputable def F.value_Show.B (c0 : (TValue) → Option (Int)) (c1 : (Int) → Option (ByteArray)) (c2 : (ByteArray) → Option (Bool)) (c3 : (ByteArray) → Option (ByteArray)) (a0 : TValue) : Option (ByteArray) :=
    ((c0 (a0.1, a0.2.1, a0.2.2)).bind fun t0 => (bif (t0 != 0) then (some (⟨#[]⟩ : ByteArray)) else (bif (a0.1 == 1) then (bif (a0.2.1 == 1) then (some (⟨#[116, 114, 117, 101]⟩ : ByteArray)) else (bif (a0.1 == 1) then (some (⟨#[102, 97, 108, 115, 101]⟩ : ByteArray)) else (bif (a0.1 == 2) then ((c1 a0.2.1).bind fun t1 => (some t1)) else ((c2 a0.2.2).bind fun t2 => (bif t2 then (guardK (decide ((⟨#[39]⟩ : ByteArray).size + a0.2.2.size ≤ i64max)) (some ((⟨#[39]⟩ : ByteArray) ++ a0.2.2))) else ((c3 a0.2.2).bind fun t3 => (guardK (decide ((⟨#[35]⟩ : ByteArray).size + t3.size ≤ i64max)) (some ((⟨#[35]⟩ : ByteArray) ++ t3))))))))) else (bif (a0.1 == 1) then (some (⟨#[102, 97, 108, 115, 101]⟩ : ByteArray)) else (bif (a0.1 == 2) then ((c1 a0.2.1).bind fun t4 => (some t4)) else ((c2 a0.2.2).bind fun t5 => (bif t5 then (guardK (decide ((⟨#[39]⟩ : ByteArray).size + a0.2.2.size ≤ i64max)) (some ((⟨#[39]⟩ : ByteArray) ++ a0.2.2))) else ((c3 a0.2.2).bind fun t6 => (guardK (decide ((⟨#[35]⟩ : ByteArray).size + t6.size ≤ i64max)) (some ((⟨#[35]⟩ : ByteArray) ++ t6)))))))))))
theorem F.value_Show.eq K a0 : F.value_Show (K + 1) a0 = F.value_Show.B (F.value_Check K) (F.strconv_Itoa K) (F.value_plain K) (F.sha_Hex K) a0 := by kernel_rfl
noncomputable def V.value_Show (a0 : TValue) := lim fun v => F.value_Show (v 0) a0
theorem V.value_Show.of a0 {r} (h : F.value_Show.B V.value_Check V.strconv_Itoa V.value_plain V.sha_Hex a0 = some r) : V.value_Show a0 = some r :=
  App.to (App.step 0 (fun v => F.value_Show.eq (v 0) a0) (by unfold F.value_Show.B; repeat' first | apply App.guard | apply App.cond | exact App.lim | exact App.val | exact App.no | apply App.meet | apply App.ite | refine App.bind ?_ fun _ => ?_)) h
noncomputable def F.strings_Join (K : Nat) (a0 : List ByteArray) (a1 : ByteArray) : Option (ByteArray) := evFn Tryz.prog sg K 27 [.sc (.list .str a0 false), .sc (.val (.string a1))] []
noncomputable def F.strings_Join.B (a0 : List ByteArray) (a1 : ByteArray) : Option (ByteArray) :=
    (joinF a0 a1)
theorem F.strings_Join.eq K a0 a1 : F.strings_Join (K + 1) a0 a1 = F.strings_Join.B a0 a1 := by kernel_rfl
noncomputable def V.strings_Join (a0 : List ByteArray) (a1 : ByteArray) := lim fun v => F.strings_Join (v 0) a0 a1
theorem V.strings_Join.of a0 a1 {r} (h : F.strings_Join.B a0 a1 = some r) : V.strings_Join a0 a1 = some r :=
  App.to (App.step 0 (fun v => F.strings_Join.eq (v 0) a0 a1) App.const) h
noncomputable def F.pleachlaw43_awake (K : Nat) : Option (Bool) := evFn Tryz.prog sg K 8 [] []
noncomputable def V.pleachlaw43_awake := lim fun v => F.pleachlaw43_awake (v 0)
noncomputable def F.line_element (K : Nat) (a0 : List ByteArray) (a1 : List TProp) : Option (ByteArray) := evFn Tryz.prog sg K 53 [.sc (.list .str a0 false), .sc (.list sProp a1 false)] []
noncomputable def F.line_element.at (K : Nat) (p ns : List Nat) (s : St) : Option (ByteArray) := atFn Tryz.prog sg K 53 0 p ns s
noncomputable def F.line_element.in (K : Nat) (H : List Nat → List Nat → St → Option (ByteArray)) (p ns : List Nat) (s : St) : Option (ByteArray) := inFn Tryz.prog sg K 53 0 [] H p ns s
theorem F.line_element.in_eq K p ns s : F.line_element.at K p ns s = F.line_element.in K (F.line_element.at K) p ns s := atFn_eq (P := Tryz.prog) (sg := sg) (K := K) (f := 53) (m := 0) [] p ns s
theorem F.line_element.in_main K a0 a1 : F.line_element (K + 1) a0 a1 = F.line_element.in K (F.line_element.at K) [] [] ⟨slots [.sc (.list .str a0 false), .sc (.list sProp a1 false)] 0, []⟩ := evFn_eq (P := Tryz.prog) (sg := sg) (K := K) (f := 53) (args := [.sc (.list .str a0 false), .sc (.list sProp a1 false)]) (σ := []) [] (by kernel_rfl)
def F.line_element.l11010.st (a0 : List ByteArray) (a1 : List TProp) (x0 : ByteArray) (x1 : Int) : St := ⟨[(1, vL sProp a1), (5, vS x0), (10, vL .str a0), (11, vI (a0.length : Int)), (12, vI x1)], []⟩
noncomputable def F.line_element.l11010 (K n0 : Nat) (a0 : List ByteArray) (a1 : List TProp) (x0 : ByteArray) (x1 : Int) := F.line_element.at K [1, 1, 0, 1, 0] [n0] (F.line_element.l11010.st a0 a1 x0 x1)
def F.line_element.l111010.st (a0 : List ByteArray) (a1 : List TProp) (x0 : ByteArray) (x1 : Int) : St := ⟨[(5, vS x0), (21, vL sProp a1), (22, vI (a1.length : Int)), (23, vI x1)], []⟩
noncomputable def F.line_element.l111010 (K n0 : Nat) (a0 : List ByteArray) (a1 : List TProp) (x0 : ByteArray) (x1 : Int) := F.line_element.at K [1, 1, 1, 0, 1, 0] [n0] (F.line_element.l111010.st a0 a1 x0 x1)
noncomputable def F.line_element.l11010.B (c0 : (List ByteArray) → (List TProp) → (ByteArray) → (Int) → Option (ByteArray)) (c1 : (List ByteArray) → (List TProp) → (ByteArray) → (Int) → Option (ByteArray)) (a0 : List ByteArray) (a1 : List TProp) (x0 : ByteArray) (x1 : Int) : Option (ByteArray) :=
    (bif (decide (x1 < (a0.length : Int))) then (guardK (decide (0 ≤ x1) && decide (x1 < (a0.length : Int))) (guardK (decide ((⟨#[32, 58]⟩ : ByteArray).size + (rd .str a0 x1.toNat).size ≤ i64max)) (guardK (decide (x0.size + ((⟨#[32, 58]⟩ : ByteArray) ++ (rd .str a0 x1.toNat)).size ≤ i64max)) (c0 a0 a1 (x0 ++ ((⟨#[32, 58]⟩ : ByteArray) ++ (rd .str a0 x1.toNat))) (w64 (x1 + 1)))))) else (c1 a0 a1 x0 0))
theorem F.line_element.l11010.eq K n0 a0 a1 x0 x1 : F.line_element.l11010 K (n0 + 1) a0 a1 x0 x1 = F.line_element.l11010.B (F.line_element.l11010 K n0) (F.line_element.l111010 K K) a0 a1 x0 x1 := (F.line_element.in_eq K [1, 1, 0, 1, 0] [n0 + 1] (F.line_element.l11010.st a0 a1 x0 x1)).trans ((show ∀ H, F.line_element.in K H [1, 1, 0, 1, 0] [n0 + 1] (F.line_element.l11010.st a0 a1 x0 x1) = F.line_element.l11010.B (fun a0 a1 x0 x1 => H [1, 1, 0, 1, 0] [n0] (F.line_element.l11010.st a0 a1 x0 x1)) (fun a0 a1 x0 x1 => H [1, 1, 1, 0, 1, 0] [K] (F.line_element.l111010.st a0 a1 x0 x1)) a0 a1 x0 x1 from by intro H; kernel_rfl) (F.line_element.at K))
noncomputable def F.line_element.l111010.B (c0 : (TValue) → Option (ByteArray)) (c1 : (List ByteArray) → (List TProp) → (ByteArray) → (Int) → Option (ByteArray)) (a0 : List ByteArray) (a1 : List TProp) (x0 : ByteArray) (x1 : Int) : Option (ByteArray) :=
    (bif (decide (x1 < (a1.length : Int))) then (guardK (decide (0 ≤ x1) && decide (x1 < (a1.length : Int))) (guardK (decide ((⟨#[32]⟩ : ByteArray).size + ((rd sProp a1 x1.toNat).1).size ≤ i64max)) (guardK (decide (((⟨#[32]⟩ : ByteArray) ++ (rd sProp a1 x1.toNat).1).size + (⟨#[61]⟩ : ByteArray).size ≤ i64max)) ((c0 (((rd sProp a1 x1.toNat).2).1, (((rd sProp a1 x1.toNat).2).2).1, (((rd sProp a1 x1.toNat).2).2).2)).bind fun t0 => (guardK (decide ((((⟨#[32]⟩ : ByteArray) ++ (rd sProp a1 x1.toNat).1) ++ (⟨#[61]⟩ : ByteArray)).size + t0.size ≤ i64max)) (guardK (decide (x0.size + ((((⟨#[32]⟩ : ByteArray) ++ (rd sProp a1 x1.toNat).1) ++ (⟨#[61]⟩ : ByteArray)) ++ t0).size ≤ i64max)) (c1 a0 a1 (x0 ++ ((((⟨#[32]⟩ : ByteArray) ++ (rd sProp a1 x1.toNat).1) ++ (⟨#[61]⟩ : ByteArray)) ++ t0)) (w64 (x1 + 1))))))))) else (some x0))
theorem F.line_element.l111010.eq K n0 a0 a1 x0 x1 : F.line_element.l111010 K (n0 + 1) a0 a1 x0 x1 = F.line_element.l111010.B (F.value_Show K) (F.line_element.l111010 K n0) a0 a1 x0 x1 := (F.line_element.in_eq K [1, 1, 1, 0, 1, 0] [n0 + 1] (F.line_element.l111010.st a0 a1 x0 x1)).trans ((show ∀ H, F.line_element.in K H [1, 1, 1, 0, 1, 0] [n0 + 1] (F.line_element.l111010.st a0 a1 x0 x1) = F.line_element.l111010.B (F.value_Show K) (fun a0 a1 x0 x1 => H [1, 1, 1, 0, 1, 0] [n0] (F.line_element.l111010.st a0 a1 x0 x1)) a0 a1 x0 x1 from by intro H; kernel_rfl) (F.line_element.at K))
noncomputable def F.line_element.B (c0 : (List ByteArray) → (List TProp) → (ByteArray) → (Int) → Option (ByteArray)) (a0 : List ByteArray) (a1 : List TProp) : Option (ByteArray) :=
    (c0 a0 a1 (⟨#[]⟩ : ByteArray) 0)
theorem F.line_element.eq K a0 a1 : F.line_element (K + 1) a0 a1 = F.line_element.B (F.line_element.l11010 K K) a0 a1 := (F.line_element.in_main K a0 a1).trans ((show ∀ H, F.line_element.in K H [] [] ⟨slots [.sc (.list .str a0 false), .sc (.list sProp a1 false)] 0, []⟩ = F.line_element.B (fun a0 a1 x0 x1 => H [1, 1, 0, 1, 0] [K] (F.line_element.l11010.st a0 a1 x0 x1)) a0 a1 from by intro H; kernel_rfl) (F.line_element.at K))
noncomputable def V.line_element.l11010 (a0 : List ByteArray) (a1 : List TProp) (x0 : ByteArray) (x1 : Int) := lim fun v => F.line_element.l11010 (v 0) (v 1) a0 a1 x0 x1
noncomputable def V.line_element.l111010 (a0 : List ByteArray) (a1 : List TProp) (x0 : ByteArray) (x1 : Int) := lim fun v => F.line_element.l111010 (v 0) (v 1) a0 a1 x0 x1
noncomputable def V.line_element (a0 : List ByteArray) (a1 : List TProp) := lim fun v => F.line_element (v 0) a0 a1
theorem V.line_element.l11010.of a0 a1 x0 x1 {r} (h : F.line_element.l11010.B V.line_element.l11010 V.line_element.l111010 a0 a1 x0 x1 = some r) : V.line_element.l11010 a0 a1 x0 x1 = some r :=
  App.to (App.step 1 (fun v => F.line_element.l11010.eq (v 0) (v 1) a0 a1 x0 x1) (by unfold F.line_element.l11010.B; repeat' first | apply App.guard | apply App.cond | exact App.lim | exact (App.enter 1 App.lim) | exact App.val | exact App.no | apply App.meet | apply App.ite | refine App.bind ?_ fun _ => ?_)) h
theorem V.line_element.l111010.of a0 a1 x0 x1 {r} (h : F.line_element.l111010.B V.value_Show V.line_element.l111010 a0 a1 x0 x1 = some r) : V.line_element.l111010 a0 a1 x0 x1 = some r :=
  App.to (App.step 1 (fun v => F.line_element.l111010.eq (v 0) (v 1) a0 a1 x0 x1) (by unfold F.line_element.l111010.B; repeat' first | apply App.guard | apply App.cond | exact App.lim | exact App.val | exact App.no | apply App.meet | apply App.ite | refine App.bind ?_ fun _ => ?_)) h
theorem V.line_element.of a0 a1 {r} (h : F.line_element.B V.line_element.l11010 a0 a1 = some r) : V.line_element a0 a1 = some r :=
  App.to (App.step 0 (fun v => F.line_element.eq (v 0) a0 a1) (by unfold F.line_element.B; repeat' first | apply App.guard | apply App.cond | exact App.lim | exact (App.enter 1 App.lim) | exact App.val | exact App.no | apply App.meet | apply App.ite | refine App.bind ?_ fun _ => ?_)) h
noncomputable def F.line_Graph (K : Nat) (a0 : TGraph) : Option ((List ByteArray)) := evFn Tryz.prog sg K 18 [.agg [.list sNode a0.1 false, .list sEdge a0.2 false]] []
noncomputable def F.line_Graph.at (K : Nat) (p ns : List Nat) (s : St) : Option ((List ByteArray)) := atFn Tryz.prog sg K 18 0 p ns s
noncomputable def F.line_Graph.in (K : Nat) (H : List Nat → List Nat → St → Option ((List ByteArray))) (p ns : List Nat) (s : St) : Option ((List ByteArray)) := inFn Tryz.prog sg K 18 0 [] H p ns s
theorem F.line_Graph.in_eq K p ns s : F.line_Graph.at K p ns s = F.line_Graph.in K (F.line_Graph.at K) p ns s := atFn_eq (P := Tryz.prog) (sg := sg) (K := K) (f := 18) (m := 0) [] p ns s
theorem F.line_Graph.in_main K a0 : F.line_Graph (K + 1) a0 = F.line_Graph.in K (F.line_Graph.at K) [] [] ⟨slots [.agg [.list sNode a0.1 false, .list sEdge a0.2 false]] 0, []⟩ := evFn_eq (P := Tryz.prog) (sg := sg) (K := K) (f := 18) (args := [.agg [.list sNode a0.1 false, .list sEdge a0.2 false]]) (σ := []) [] (by kernel_rfl)
def F.line_Graph.l11010.st (a0 : TGraph) (x0 : Int) (x1 : List ByteArray) : St := ⟨[(1, .one (.sc (.ref 0 0))), (3, .one (.sc (.own 1 none))), (9, vL sNode a0.1), (10, vI (a0.1.length : Int)), (11, vI x0)], [.cells 42 [.list sNode a0.1 false, .list sEdge a0.2 false], .elems .str x1]⟩
noncomputable def F.line_Graph.l11010 (K n0 : Nat) (a0 : TGraph) (x0 : Int) (x1 : List ByteArray) := F.line_Graph.at K [1, 1, 0, 1, 0] [n0] (F.line_Graph.l11010.st a0 x0 x1)
def F.line_Graph.l111010.st (a0 : TGraph) (x0 : Int) (x1 : List ByteArray) : St := ⟨[(3, .one (.sc (.own 0 none))), (29, vL sEdge a0.2), (30, vI (a0.2.length : Int)), (31, vI x0)], [.elems .str x1]⟩
noncomputable def F.line_Graph.l111010 (K n0 : Nat) (a0 : TGraph) (x0 : Int) (x1 : List ByteArray) := F.line_Graph.at K [1, 1, 1, 0, 1, 0] [n0] (F.line_Graph.l111010.st a0 x0 x1)
noncomputable def F.line_Graph.l11010.B (c0 : (List ByteArray) → (List TProp) → Option (ByteArray)) (c1 : (TGraph) → (Int) → (List ByteArray) → Option ((List ByteArray))) (c2 : (TGraph) → (Int) → (List ByteArray) → Option ((List ByteArray))) (a0 : TGraph) (x0 : Int) (x1 : List ByteArray) : Option ((List ByteArray)) :=
    (bif (decide (x0 < (a0.1.length : Int))) then (guardK (decide (0 ≤ x0) && decide (x0 < (a0.1.length : Int))) (guardK (decide ((⟨#[110, 111, 100, 101, 32]⟩ : ByteArray).size + ((rd sNode a0.1 x0.toNat).1).size ≤ i64max)) ((c0 (((rd sNode a0.1 x0.toNat).2).1) (((rd sNode a0.1 x0.toNat).2).2)).bind fun t0 => (guardK (decide (((⟨#[110, 111, 100, 101, 32]⟩ : ByteArray) ++ (rd sNode a0.1 x0.toNat).1).size + t0.size ≤ i64max)) (guardK (decide (x1.length + ([(((⟨#[110, 111, 100, 101, 32]⟩ : ByteArray) ++ (rd sNode a0.1 x0.toNat).1) ++ t0)]).length ≤ nmax)) (c1 a0 (w64 (x0 + 1)) (x1 ++ [(((⟨#[110, 111, 100, 101, 32]⟩ : ByteArray) ++ (rd sNode a0.1 x0.toNat).1) ++ t0)]))))))) else (c2 a0 0 x1))
theorem F.line_Graph.l11010.eq K n0 a0 x0 x1 : F.line_Graph.l11010 K (n0 + 1) a0 x0 x1 = F.line_Graph.l11010.B (F.line_element K) (F.line_Graph.l11010 K n0) (F.line_Graph.l111010 K K) a0 x0 x1 := (F.line_Graph.in_eq K [1, 1, 0, 1, 0] [n0 + 1] (F.line_Graph.l11010.st a0 x0 x1)).trans ((show ∀ H, F.line_Graph.in K H [1, 1, 0, 1, 0] [n0 + 1] (F.line_Graph.l11010.st a0 x0 x1) = F.line_Graph.l11010.B (F.line_element K) (fun a0 x0 x1 => H [1, 1, 0, 1, 0] [n0] (F.line_Graph.l11010.st a0 x0 x1)) (fun a0 x0 x1 => H [1, 1, 1, 0, 1, 0] [K] (F.line_Graph.l111010.st a0 x0 x1)) a0 x0 x1 from by intro H; kernel_rfl) (F.line_Graph.at K))
noncomputable def F.line_Graph.l111010.B (c0 : (List ByteArray) → (List TProp) → Option (ByteArray)) (c1 : (TGraph) → (Int) → (List ByteArray) → Option ((List ByteArray))) (a0 : TGraph) (x0 : Int) (x1 : List ByteArray) : Option ((List ByteArray)) :=
    (bif (decide (x0 < (a0.2.length : Int))) then (guardK (decide (0 ≤ x0) && decide (x0 < (a0.2.length : Int))) (guardK (decide ((⟨#[101, 100, 103, 101, 32]⟩ : ByteArray).size + ((rd sEdge a0.2 x0.toNat).1).size ≤ i64max)) (guardK (decide (((⟨#[101, 100, 103, 101, 32]⟩ : ByteArray) ++ (rd sEdge a0.2 x0.toNat).1).size + (⟨#[32]⟩ : ByteArray).size ≤ i64max)) (guardK (decide ((((⟨#[101, 100, 103, 101, 32]⟩ : ByteArray) ++ (rd sEdge a0.2 x0.toNat).1) ++ (⟨#[32]⟩ : ByteArray)).size + (((rd sEdge a0.2 x0.toNat).2).1).size ≤ i64max)) (guardK (decide (((((⟨#[101, 100, 103, 101, 32]⟩ : ByteArray) ++ (rd sEdge a0.2 x0.toNat).1) ++ (⟨#[32]⟩ : ByteArray)) ++ ((rd sEdge a0.2 x0.toNat).2).1).size + (⟨#[32]⟩ : ByteArray).size ≤ i64max)) (guardK (decide ((((((⟨#[101, 100, 103, 101, 32]⟩ : ByteArray) ++ (rd sEdge a0.2 x0.toNat).1) ++ (⟨#[32]⟩ : ByteArray)) ++ ((rd sEdge a0.2 x0.toNat).2).1) ++ (⟨#[32]⟩ : ByteArray)).size + ((((rd sEdge a0.2 x0.toNat).2).2).1).size ≤ i64max)) ((c0 (((((rd sEdge a0.2 x0.toNat).2).2).2).1) (((((rd sEdge a0.2 x0.toNat).2).2).2).2)).bind fun t1 => (guardK (decide (((((((⟨#[101, 100, 103, 101, 32]⟩ : ByteArray) ++ (rd sEdge a0.2 x0.toNat).1) ++ (⟨#[32]⟩ : ByteArray)) ++ ((rd sEdge a0.2 x0.toNat).2).1) ++ (⟨#[32]⟩ : ByteArray)) ++ (((rd sEdge a0.2 x0.toNat).2).2).1).size + t1.size ≤ i64max)) (guardK (decide (x1.length + ([(((((((⟨#[101, 100, 103, 101, 32]⟩ : ByteArray) ++ (rd sEdge a0.2 x0.toNat).1) ++ (⟨#[32]⟩ : ByteArray)) ++ ((rd sEdge a0.2 x0.toNat).2).1) ++ (⟨#[32]⟩ : ByteArray)) ++ (((rd sEdge a0.2 x0.toNat).2).2).1) ++ t1)]).length ≤ nmax)) (c1 a0 (w64 (x0 + 1)) (x1 ++ [(((((((⟨#[101, 100, 103, 101, 32]⟩ : ByteArray) ++ (rd sEdge a0.2 x0.toNat).1) ++ (⟨#[32]⟩ : ByteArray)) ++ ((rd sEdge a0.2 x0.toNat).2).1) ++ (⟨#[32]⟩ : ByteArray)) ++ (((rd sEdge a0.2 x0.toNat).2).2).1) ++ t1)]))))))))))) else (some x1))
theorem F.line_Graph.l111010.eq K n0 a0 x0 x1 : F.line_Graph.l111010 K (n0 + 1) a0 x0 x1 = F.line_Graph.l111010.B (F.line_element K) (F.line_Graph.l111010 K n0) a0 x0 x1 := (F.line_Graph.in_eq K [1, 1, 1, 0, 1, 0] [n0 + 1] (F.line_Graph.l111010.st a0 x0 x1)).trans ((show ∀ H, F.line_Graph.in K H [1, 1, 1, 0, 1, 0] [n0 + 1] (F.line_Graph.l111010.st a0 x0 x1) = F.line_Graph.l111010.B (F.line_element K) (fun a0 x0 x1 => H [1, 1, 1, 0, 1, 0] [n0] (F.line_Graph.l111010.st a0 x0 x1)) a0 x0 x1 from by intro H; kernel_rfl) (F.line_Graph.at K))
noncomputable def F.line_Graph.B (c0 : (TGraph) → (Int) → (List ByteArray) → Option ((List ByteArray))) (a0 : TGraph) : Option ((List ByteArray)) :=
    (c0 a0 0 ([]))
theorem F.line_Graph.eq K a0 : F.line_Graph (K + 1) a0 = F.line_Graph.B (F.line_Graph.l11010 K K) a0 := (F.line_Graph.in_main K a0).trans ((show ∀ H, F.line_Graph.in K H [] [] ⟨slots [.agg [.list sNode a0.1 false, .list sEdge a0.2 false]] 0, []⟩ = F.line_Graph.B (fun a0 x0 x1 => H [1, 1, 0, 1, 0] [K] (F.line_Graph.l11010.st a0 x0 x1)) a0 from by intro H; kernel_rfl) (F.line_Graph.at K))
noncomputable def V.line_Graph.l11010 (a0 : TGraph) (x0 : Int) (x1 : List ByteArray) := lim fun v => F.line_Graph.l11010 (v 0) (v 1) a0 x0 x1
noncomputable def V.line_Graph.l111010 (a0 : TGraph) (x0 : Int) (x1 : List ByteArray) := lim fun v => F.line_Graph.l111010 (v 0) (v 1) a0 x0 x1
noncomputable def V.line_Graph (a0 : TGraph) := lim fun v => F.line_Graph (v 0) a0
theorem V.line_Graph.l11010.of a0 x0 x1 {r} (h : F.line_Graph.l11010.B V.line_element V.line_Graph.l11010 V.line_Graph.l111010 a0 x0 x1 = some r) : V.line_Graph.l11010 a0 x0 x1 = some r :=
  App.to (App.step 1 (fun v => F.line_Graph.l11010.eq (v 0) (v 1) a0 x0 x1) (by unfold F.line_Graph.l11010.B; repeat' first | apply App.guard | apply App.cond | exact App.lim | exact (App.enter 1 App.lim) | exact App.val | exact App.no | apply App.meet | apply App.ite | refine App.bind ?_ fun _ => ?_)) h
theorem V.line_Graph.l111010.of a0 x0 x1 {r} (h : F.line_Graph.l111010.B V.line_element V.line_Graph.l111010 a0 x0 x1 = some r) : V.line_Graph.l111010 a0 x0 x1 = some r :=
  App.to (App.step 1 (fun v => F.line_Graph.l111010.eq (v 0) (v 1) a0 x0 x1) (by unfold F.line_Graph.l111010.B; repeat' first | apply App.guard | apply App.cond | exact App.lim | exact App.val | exact App.no | apply App.meet | apply App.ite | refine App.bind ?_ fun _ => ?_)) h
theorem V.line_Graph.of a0 {r} (h : F.line_Graph.B V.line_Graph.l11010 a0 = some r) : V.line_Graph a0 = some r :=
  App.to (App.step 0 (fun v => F.line_Graph.eq (v 0) a0) (by unfold F.line_Graph.B; repeat' first | apply App.guard | apply App.cond | exact App.lim | exact (App.enter 1 App.lim) | exact App.val | exact App.no | apply App.meet | apply App.ite | refine App.bind ?_ fun _ => ?_)) h
noncomputable def F.pleachref06_Is (K : Nat) (a0 : TValue) : Option (Bool) := evFn Tryz.prog sg K 65 [.agg [.val (.int .i64 a0.1), .val (.int .i64 a0.2.1), .val (.string a0.2.2)]] []
noncomputable def F.pleachref06_Is.B (a0 : TValue) : Option (Bool) :=
    (bif (a0.1 == 1) then (bif (decide (a0.2.1 ≥ 0)) then (bif (decide (a0.2.1 ≤ 1)) then (some (strEq a0.2.2 (⟨#[]⟩ : ByteArray))) else (some false)) else (some false)) else (bif (a0.1 == 2) then (some (strEq a0.2.2 (⟨#[]⟩ : ByteArray))) else (bif (a0.1 == 3) then (bif (a0.2.1 == 0) then (some (decide ((a0.2.2.size : Int) ≤ 64))) else (some false)) else (some false))))
theorem F.pleachref06_Is.eq K a0 : F.pleachref06_Is (K + 1) a0 = F.pleachref06_Is.B a0 := by kernel_rfl
noncomputable def V.pleachref06_Is (a0 : TValue) := lim fun v => F.pleachref06_Is (v 0) a0
theorem V.pleachref06_Is.of a0 {r} (h : F.pleachref06_Is.B a0 = some r) : V.pleachref06_Is a0 = some r :=
  App.to (App.step 0 (fun v => F.pleachref06_Is.eq (v 0) a0) (by unfold F.pleachref06_Is.B; repeat' first | apply App.guard | apply App.cond | exact App.lim | exact App.val | exact App.no | apply App.meet | apply App.ite | refine App.bind ?_ fun _ => ?_)) h
noncomputable def F.pleachref06_tail (K : Nat) (a0 : Int) : Option (ByteArray) := evFn Tryz.prog sg K 78 [.sc (.val (.int .i64 a0))] []
noncomputable def F.pleachref06_tail.B (a0 : Int) : Option (ByteArray) :=
    (some (bytesOf ([(IntKind.wrap .u8 (w64 (48 + a0)))])))
theorem F.pleachref06_tail.eq K a0 : F.pleachref06_tail (K + 1) a0 = F.pleachref06_tail.B a0 := by kernel_rfl
noncomputable def V.pleachref06_tail (a0 : Int) := lim fun v => F.pleachref06_tail (v 0) a0
theorem V.pleachref06_tail.of a0 {r} (h : F.pleachref06_tail.B a0 = some r) : V.pleachref06_tail a0 = some r :=
  App.to (App.step 0 (fun v => F.pleachref06_tail.eq (v 0) a0) (by unfold F.pleachref06_tail.B; repeat' first | apply App.guard | apply App.cond | exact App.lim | exact App.val | exact App.no | apply App.meet | apply App.ite | refine App.bind ?_ fun _ => ?_)) h
noncomputable def F.pleachref06_tens (K : Nat) (a0 : Int) : Option (ByteArray) := evFn Tryz.prog sg K 77 [.sc (.val (.int .u64 a0))] []
noncomputable def F.pleachref06_tens.at (K : Nat) (p ns : List Nat) (s : St) : Option (ByteArray) := atFn Tryz.prog sg K 77 0 p ns s
noncomputable def F.pleachref06_tens.in (K : Nat) (H : List Nat → List Nat → St → Option (ByteArray)) (p ns : List Nat) (s : St) : Option (ByteArray) := inFn Tryz.prog sg K 77 0 [] H p ns s
theorem F.pleachref06_tens.in_eq K p ns s : F.pleachref06_tens.at K p ns s = F.pleachref06_tens.in K (F.pleachref06_tens.at K) p ns s := atFn_eq (P := Tryz.prog) (sg := sg) (K := K) (f := 77) (m := 0) [] p ns s
theorem F.pleachref06_tens.in_main K a0 : F.pleachref06_tens (K + 1) a0 = F.pleachref06_tens.in K (F.pleachref06_tens.at K) [] [] ⟨slots [.sc (.val (.int .u64 a0))] 0, []⟩ := evFn_eq (P := Tryz.prog) (sg := sg) (K := K) (f := 77) (args := [.sc (.val (.int .u64 a0))]) (σ := []) [] (by kernel_rfl)
def F.pleachref06_tens.l1100.st (a0 : Int) (x0 : Int) (x1 : ByteArray) : St := ⟨[(0, .one (.sc (.val (.int .u64 x0)))), (3, vS x1)], []⟩
noncomputable def F.pleachref06_tens.l1100 (K n0 : Nat) (a0 : Int) (x0 : Int) (x1 : ByteArray) := F.pleachref06_tens.at K [1, 1, 0, 0] [n0] (F.pleachref06_tens.l1100.st a0 x0 x1)
noncomputable def F.pleachref06_tens.l1100.B (c0 : (Int) → Option (ByteArray)) (c1 : (Int) → (Int) → (ByteArray) → Option (ByteArray)) (a0 : Int) (x0 : Int) (x1 : ByteArray) : Option (ByteArray) :=
    (bif (decide (x0 > 0)) then ((c0 (w64 (Int.tmod x0 10))).bind fun t0 => (guardK (decide (t0.size + x1.size ≤ i64max)) (c1 a0 (IntKind.wrap .u64 (Int.tdiv x0 10)) (t0 ++ x1)))) else (some x1))
theorem F.pleachref06_tens.l1100.eq K n0 a0 x0 x1 : F.pleachref06_tens.l1100 K (n0 + 1) a0 x0 x1 = F.pleachref06_tens.l1100.B (F.pleachref06_tail K) (F.pleachref06_tens.l1100 K n0) a0 x0 x1 := (F.pleachref06_tens.in_eq K [1, 1, 0, 0] [n0 + 1] (F.pleachref06_tens.l1100.st a0 x0 x1)).trans ((show ∀ H, F.pleachref06_tens.in K H [1, 1, 0, 0] [n0 + 1] (F.pleachref06_tens.l1100.st a0 x0 x1) = F.pleachref06_tens.l1100.B (F.pleachref06_tail K) (fun a0 x0 x1 => H [1, 1, 0, 0] [n0] (F.pleachref06_tens.l1100.st a0 x0 x1)) a0 x0 x1 from by intro H; kernel_rfl) (F.pleachref06_tens.at K))
noncomputable def F.pleachref06_tens.B (c0 : (Int) → (Int) → (ByteArray) → Option (ByteArray)) (a0 : Int) : Option (ByteArray) :=
    (c0 a0 a0 (⟨#[]⟩ : ByteArray))
theorem F.pleachref06_tens.eq K a0 : F.pleachref06_tens (K + 1) a0 = F.pleachref06_tens.B (F.pleachref06_tens.l1100 K K) a0 := (F.pleachref06_tens.in_main K a0).trans ((show ∀ H, F.pleachref06_tens.in K H [] [] ⟨slots [.sc (.val (.int .u64 a0))] 0, []⟩ = F.pleachref06_tens.B (fun a0 x0 x1 => H [1, 1, 0, 0] [K] (F.pleachref06_tens.l1100.st a0 x0 x1)) a0 from by intro H; kernel_rfl) (F.pleachref06_tens.at K))
noncomputable def V.pleachref06_tens.l1100 (a0 : Int) (x0 : Int) (x1 : ByteArray) := lim fun v => F.pleachref06_tens.l1100 (v 0) (v 1) a0 x0 x1
noncomputable def V.pleachref06_tens (a0 : Int) := lim fun v => F.pleachref06_tens (v 0) a0
theorem V.pleachref06_tens.l1100.of a0 x0 x1 {r} (h : F.pleachref06_tens.l1100.B V.pleachref06_tail V.pleachref06_tens.l1100 a0 x0 x1 = some r) : V.pleachref06_tens.l1100 a0 x0 x1 = some r :=
  App.to (App.step 1 (fun v => F.pleachref06_tens.l1100.eq (v 0) (v 1) a0 x0 x1) (by unfold F.pleachref06_tens.l1100.B; repeat' first | apply App.guard | apply App.cond | exact App.lim | exact App.val | exact App.no | apply App.meet | apply App.ite | refine App.bind ?_ fun _ => ?_)) h
theorem V.pleachref06_tens.of a0 {r} (h : F.pleachref06_tens.B V.pleachref06_tens.l1100 a0 = some r) : V.pleachref06_tens a0 = some r :=
  App.to (App.step 0 (fun v => F.pleachref06_tens.eq (v 0) a0) (by unfold F.pleachref06_tens.B; repeat' first | apply App.guard | apply App.cond | exact App.lim | exact (App.enter 1 App.lim) | exact App.val | exact App.no | apply App.meet | apply App.ite | refine App.bind ?_ fun _ => ?_)) h
noncomputable def F.pleachref06_Digits (K : Nat) (a0 : Int) : Option (ByteArray) := evFn Tryz.prog sg K 56 [.sc (.val (.int .i64 a0))] []
noncomputable def F.pleachref06_Digits.B (c0 : (Int) → Option (ByteArray)) (c1 : (Int) → Option (ByteArray)) (a0 : Int) : Option (ByteArray) :=
    (bif (decide (a0 < 0)) then (bif ((w64 ((w64 (Int.tmod (IntKind.wrap .u64 (w64 (0 - (w64 (a0 + 1))))) 10)) + 1)) == 10) then ((c0 (IntKind.wrap .u64 ((IntKind.wrap .u64 (Int.tdiv (IntKind.wrap .u64 (w64 (0 - (w64 (a0 + 1))))) 10)) + 1))).bind fun t0 => (guardK (decide ((⟨#[45]⟩ : ByteArray).size + t0.size ≤ i64max)) ((c1 0).bind fun t1 => (guardK (decide (((⟨#[45]⟩ : ByteArray) ++ t0).size + t1.size ≤ i64max)) (some (((⟨#[45]⟩ : ByteArray) ++ t0) ++ t1)))))) else ((c0 (IntKind.wrap .u64 (Int.tdiv (IntKind.wrap .u64 (w64 (0 - (w64 (a0 + 1))))) 10))).bind fun t2 => (guardK (decide ((⟨#[45]⟩ : ByteArray).size + t2.size ≤ i64max)) ((c1 (w64 ((w64 (Int.tmod (IntKind.wrap .u64 (w64 (0 - (w64 (a0 + 1))))) 10)) + 1))).bind fun t3 => (guardK (decide (((⟨#[45]⟩ : ByteArray) ++ t2).size + t3.size ≤ i64max)) (some (((⟨#[45]⟩ : ByteArray) ++ t2) ++ t3))))))) else ((c0 (IntKind.wrap .u64 (Int.tdiv (IntKind.wrap .u64 a0) 10))).bind fun t4 => ((c1 (Int.tmod a0 10)).bind fun t5 => (guardK (decide (t4.size + t5.size ≤ i64max)) (some (t4 ++ t5))))))
theorem F.pleachref06_Digits.eq K a0 : F.pleachref06_Digits (K + 1) a0 = F.pleachref06_Digits.B (F.pleachref06_tens K) (F.pleachref06_tail K) a0 := by kernel_rfl
noncomputable def V.pleachref06_Digits (a0 : Int) := lim fun v => F.pleachref06_Digits (v 0) a0
theorem V.pleachref06_Digits.of a0 {r} (h : F.pleachref06_Digits.B V.pleachref06_tens V.pleachref06_tail a0 = some r) : V.pleachref06_Digits a0 = some r :=
  App.to (App.step 0 (fun v => F.pleachref06_Digits.eq (v 0) a0) (by unfold F.pleachref06_Digits.B; repeat' first | apply App.guard | apply App.cond | exact App.lim | exact App.val | exact App.no | apply App.meet | apply App.ite | refine App.bind ?_ fun _ => ?_)) h
noncomputable def F.pleachref06_plain (K : Nat) (a0 : ByteArray) : Option (Bool) := evFn Tryz.prog sg K 66 [.sc (.val (.string a0))] []
noncomputable def F.pleachref06_plain.at (K : Nat) (p ns : List Nat) (s : St) : Option (Bool) := atFn Tryz.prog sg K 66 0 p ns s
noncomputable def F.pleachref06_plain.in (K : Nat) (H : List Nat → List Nat → St → Option (Bool)) (p ns : List Nat) (s : St) : Option (Bool) := inFn Tryz.prog sg K 66 0 [] H p ns s
theorem F.pleachref06_plain.in_eq K p ns s : F.pleachref06_plain.at K p ns s = F.pleachref06_plain.in K (F.pleachref06_plain.at K) p ns s := atFn_eq (P := Tryz.prog) (sg := sg) (K := K) (f := 66) (m := 0) [] p ns s
theorem F.pleachref06_plain.in_main K a0 : F.pleachref06_plain (K + 1) a0 = F.pleachref06_plain.in K (F.pleachref06_plain.at K) [] [] ⟨slots [.sc (.val (.string a0))] 0, []⟩ := evFn_eq (P := Tryz.prog) (sg := sg) (K := K) (f := 66) (args := [.sc (.val (.string a0))]) (σ := []) [] (by kernel_rfl)
def F.pleachref06_plain.l1010.st (a0 : ByteArray) (x0 : Int) : St := ⟨[(0, vS a0), (3, vI x0)], []⟩
noncomputable def F.pleachref06_plain.l1010 (K n0 : Nat) (a0 : ByteArray) (x0 : Int) := F.pleachref06_plain.at K [1, 0, 1, 0] [n0] (F.pleachref06_plain.l1010.st a0 x0)
noncomputable def F.pleachref06_plain.l1010.B (c0 : (ByteArray) → (Int) → Option (Bool)) (a0 : ByteArray) (x0 : Int) : Option (Bool) :=
    (bif (decide (x0 < (a0.size : Int))) then (guardK (decide (0 ≤ x0) && decide (x0 < (a0.size : Int))) (bif (decide ((byteAt a0 x0) ≥ 97)) then (bif (!(decide ((byteAt a0 x0) ≤ 122))) then (bif (decide ((byteAt a0 x0) ≥ 65)) then (bif (!(decide ((byteAt a0 x0) ≤ 90))) then (bif (decide ((byteAt a0 x0) ≥ 48)) then (bif (!(decide ((byteAt a0 x0) ≤ 57))) then (bif ((byteAt a0 x0) != 45) then (bif ((byteAt a0 x0) != 46) then (bif ((byteAt a0 x0) != 95) then (some false) else (c0 a0 (w64 (x0 + 1)))) else (c0 a0 (w64 (x0 + 1)))) else (c0 a0 (w64 (x0 + 1)))) else (c0 a0 (w64 (x0 + 1)))) else (bif ((byteAt a0 x0) != 45) then (bif ((byteAt a0 x0) != 46) then (bif ((byteAt a0 x0) != 95) then (some false) else (c0 a0 (w64 (x0 + 1)))) else (c0 a0 (w64 (x0 + 1)))) else (c0 a0 (w64 (x0 + 1))))) else (c0 a0 (w64 (x0 + 1)))) else (bif (decide ((byteAt a0 x0) ≥ 48)) then (bif (!(decide ((byteAt a0 x0) ≤ 57))) then (bif ((byteAt a0 x0) != 45) then (bif ((byteAt a0 x0) != 46) then (bif ((byteAt a0 x0) != 95) then (some false) else (c0 a0 (w64 (x0 + 1)))) else (c0 a0 (w64 (x0 + 1)))) else (c0 a0 (w64 (x0 + 1)))) else (c0 a0 (w64 (x0 + 1)))) else (bif ((byteAt a0 x0) != 45) then (bif ((byteAt a0 x0) != 46) then (bif ((byteAt a0 x0) != 95) then (some false) else (c0 a0 (w64 (x0 + 1)))) else (c0 a0 (w64 (x0 + 1)))) else (c0 a0 (w64 (x0 + 1)))))) else (c0 a0 (w64 (x0 + 1)))) else (bif (decide ((byteAt a0 x0) ≥ 65)) then (bif (!(decide ((byteAt a0 x0) ≤ 90))) then (bif (decide ((byteAt a0 x0) ≥ 48)) then (bif (!(decide ((byteAt a0 x0) ≤ 57))) then (bif ((byteAt a0 x0) != 45) then (bif ((byteAt a0 x0) != 46) then (bif ((byteAt a0 x0) != 95) then (some false) else (c0 a0 (w64 (x0 + 1)))) else (c0 a0 (w64 (x0 + 1)))) else (c0 a0 (w64 (x0 + 1)))) else (c0 a0 (w64 (x0 + 1)))) else (bif ((byteAt a0 x0) != 45) then (bif ((byteAt a0 x0) != 46) then (bif ((byteAt a0 x0) != 95) then (some false) else (c0 a0 (w64 (x0 + 1)))) else (c0 a0 (w64 (x0 + 1)))) else (c0 a0 (w64 (x0 + 1))))) else (c0 a0 (w64 (x0 + 1)))) else (bif (decide ((byteAt a0 x0) ≥ 48)) then (bif (!(decide ((byteAt a0 x0) ≤ 57))) then (bif ((byteAt a0 x0) != 45) then (bif ((byteAt a0 x0) != 46) then (bif ((byteAt a0 x0) != 95) then (some false) else (c0 a0 (w64 (x0 + 1)))) else (c0 a0 (w64 (x0 + 1)))) else (c0 a0 (w64 (x0 + 1)))) else (c0 a0 (w64 (x0 + 1)))) else (bif ((byteAt a0 x0) != 45) then (bif ((byteAt a0 x0) != 46) then (bif ((byteAt a0 x0) != 95) then (some false) else (c0 a0 (w64 (x0 + 1)))) else (c0 a0 (w64 (x0 + 1)))) else (c0 a0 (w64 (x0 + 1)))))))) else (some true))
theorem F.pleachref06_plain.l1010.eq K n0 a0 x0 : F.pleachref06_plain.l1010 K (n0 + 1) a0 x0 = F.pleachref06_plain.l1010.B (F.pleachref06_plain.l1010 K n0) a0 x0 := (F.pleachref06_plain.in_eq K [1, 0, 1, 0] [n0 + 1] (F.pleachref06_plain.l1010.st a0 x0)).trans ((show ∀ H, F.pleachref06_plain.in K H [1, 0, 1, 0] [n0 + 1] (F.pleachref06_plain.l1010.st a0 x0) = F.pleachref06_plain.l1010.B (fun a0 x0 => H [1, 0, 1, 0] [n0] (F.pleachref06_plain.l1010.st a0 x0)) a0 x0 from by intro H; kernel_rfl) (F.pleachref06_plain.at K))
noncomputable def F.pleachref06_plain.B (c0 : (ByteArray) → (Int) → Option (Bool)) (a0 : ByteArray) : Option (Bool) :=
    (c0 a0 0)
theorem F.pleachref06_plain.eq K a0 : F.pleachref06_plain (K + 1) a0 = F.pleachref06_plain.B (F.pleachref06_plain.l1010 K K) a0 := (F.pleachref06_plain.in_main K a0).trans ((show ∀ H, F.pleachref06_plain.in K H [] [] ⟨slots [.sc (.val (.string a0))] 0, []⟩ = F.pleachref06_plain.B (fun a0 x0 => H [1, 0, 1, 0] [K] (F.pleachref06_plain.l1010.st a0 x0)) a0 from by intro H; kernel_rfl) (F.pleachref06_plain.at K))
noncomputable def V.pleachref06_plain.l1010 (a0 : ByteArray) (x0 : Int) := lim fun v => F.pleachref06_plain.l1010 (v 0) (v 1) a0 x0
noncomputable def V.pleachref06_plain (a0 : ByteArray) := lim fun v => F.pleachref06_plain (v 0) a0
theorem V.pleachref06_plain.l1010.of a0 x0 {r} (h : F.pleachref06_plain.l1010.B V.pleachref06_plain.l1010 a0 x0 = some r) : V.pleachref06_plain.l1010 a0 x0 = some r :=
  App.to (App.step 1 (fun v => F.pleachref06_plain.l1010.eq (v 0) (v 1) a0 x0) (by unfold F.pleachref06_plain.l1010.B; repeat' first | apply App.guard | apply App.cond | exact App.lim | exact App.val | exact App.no | apply App.meet | apply App.ite | refine App.bind ?_ fun _ => ?_)) h
theorem V.pleachref06_plain.of a0 {r} (h : F.pleachref06_plain.B V.pleachref06_plain.l1010 a0 = some r) : V.pleachref06_plain a0 = some r :=
  App.to (App.step 0 (fun v => F.pleachref06_plain.eq (v 0) a0) (by unfold F.pleachref06_plain.B; repeat' first | apply App.guard | apply App.cond | exact App.lim | exact (App.enter 1 App.lim) | exact App.val | exact App.no | apply App.meet | apply App.ite | refine App.bind ?_ fun _ => ?_)) h
noncomputable def F.pleachref03_Hex (K : Nat) (a0 : ByteArray) : Option (ByteArray) := evFn Tryz.prog sg K 67 [.sc (.val (.string a0))] []
noncomputable def F.pleachref03_Hex.at (K : Nat) (p ns : List Nat) (s : St) : Option (ByteArray) := atFn Tryz.prog sg K 67 0 p ns s
noncomputable def F.pleachref03_Hex.in (K : Nat) (H : List Nat → List Nat → St → Option (ByteArray)) (p ns : List Nat) (s : St) : Option (ByteArray) := inFn Tryz.prog sg K 67 0 [] H p ns s
theorem F.pleachref03_Hex.in_eq K p ns s : F.pleachref03_Hex.at K p ns s = F.pleachref03_Hex.in K (F.pleachref03_Hex.at K) p ns s := atFn_eq (P := Tryz.prog) (sg := sg) (K := K) (f := 67) (m := 0) [] p ns s
theorem F.pleachref03_Hex.in_main K a0 : F.pleachref03_Hex (K + 1) a0 = F.pleachref03_Hex.in K (F.pleachref03_Hex.at K) [] [] ⟨slots [.sc (.val (.string a0))] 0, []⟩ := evFn_eq (P := Tryz.prog) (sg := sg) (K := K) (f := 67) (args := [.sc (.val (.string a0))]) (σ := []) [] (by kernel_rfl)
def F.pleachref03_Hex.l111010.st (a0 : ByteArray) (x0 : ByteArray) (x1 : Int) : St := ⟨[(0, vS a0), (3, vS (⟨#[48, 49, 50, 51, 52, 53, 54, 55, 56, 57, 97, 98, 99, 100, 101, 102]⟩ : ByteArray)), (4, vS x0), (5, vI x1)], []⟩
noncomputable def F.pleachref03_Hex.l111010 (K n0 : Nat) (a0 : ByteArray) (x0 : ByteArray) (x1 : Int) := F.pleachref03_Hex.at K [1, 1, 1, 0, 1, 0] [n0] (F.pleachref03_Hex.l111010.st a0 x0 x1)
noncomputable def F.pleachref03_Hex.l111010.B (c0 : (ByteArray) → (ByteArray) → (Int) → Option (ByteArray)) (a0 : ByteArray) (x0 : ByteArray) (x1 : Int) : Option (ByteArray) :=
    (bif (decide (x1 < (a0.size : Int))) then (guardK (decide (0 ≤ x1) && decide (x1 < (a0.size : Int))) (guardK (decide (0 ≤ x1) && decide (x1 < (a0.size : Int))) (guardK (decide (0 ≤ (w64 (Int.tdiv (w64 (byteAt a0 x1)) 16))) && decide ((w64 (Int.tdiv (w64 (byteAt a0 x1)) 16)) ≤ (w64 ((w64 (Int.tdiv (w64 (byteAt a0 x1)) 16)) + 1))) && decide ((w64 ((w64 (Int.tdiv (w64 (byteAt a0 x1)) 16)) + 1)) ≤ ((⟨#[48, 49, 50, 51, 52, 53, 54, 55, 56, 57, 97, 98, 99, 100, 101, 102]⟩ : ByteArray).size : Int))) (guardK (decide (x0.size + ((⟨#[48, 49, 50, 51, 52, 53, 54, 55, 56, 57, 97, 98, 99, 100, 101, 102]⟩ : ByteArray).extract (w64 (Int.tdiv (w64 (byteAt a0 x1)) 16)).toNat (w64 ((w64 (Int.tdiv (w64 (byteAt a0 x1)) 16)) + 1)).toNat).size ≤ i64max)) (guardK (decide (0 ≤ (Int.tmod (w64 (byteAt a0 x1)) 16)) && decide ((Int.tmod (w64 (byteAt a0 x1)) 16) ≤ (w64 ((Int.tmod (w64 (byteAt a0 x1)) 16) + 1))) && decide ((w64 ((Int.tmod (w64 (byteAt a0 x1)) 16) + 1)) ≤ ((⟨#[48, 49, 50, 51, 52, 53, 54, 55, 56, 57, 97, 98, 99, 100, 101, 102]⟩ : ByteArray).size : Int))) (guardK (decide ((x0 ++ ((⟨#[48, 49, 50, 51, 52, 53, 54, 55, 56, 57, 97, 98, 99, 100, 101, 102]⟩ : ByteArray).extract (w64 (Int.tdiv (w64 (byteAt a0 x1)) 16)).toNat (w64 ((w64 (Int.tdiv (w64 (byteAt a0 x1)) 16)) + 1)).toNat)).size + ((⟨#[48, 49, 50, 51, 52, 53, 54, 55, 56, 57, 97, 98, 99, 100, 101, 102]⟩ : ByteArray).extract (Int.tmod (w64 (byteAt a0 x1)) 16).toNat (w64 ((Int.tmod (w64 (byteAt a0 x1)) 16) + 1)).toNat).size ≤ i64max)) (c0 a0 ((x0 ++ ((⟨#[48, 49, 50, 51, 52, 53, 54, 55, 56, 57, 97, 98, 99, 100, 101, 102]⟩ : ByteArray).extract (w64 (Int.tdiv (w64 (byteAt a0 x1)) 16)).toNat (w64 ((w64 (Int.tdiv (w64 (byteAt a0 x1)) 16)) + 1)).toNat)) ++ ((⟨#[48, 49, 50, 51, 52, 53, 54, 55, 56, 57, 97, 98, 99, 100, 101, 102]⟩ : ByteArray).extract (Int.tmod (w64 (byteAt a0 x1)) 16).toNat (w64 ((Int.tmod (w64 (byteAt a0 x1)) 16) + 1)).toNat)) (w64 (x1 + 1))))))))) else (some x0))
theorem F.pleachref03_Hex.l111010.eq K n0 a0 x0 x1 : F.pleachref03_Hex.l111010 K (n0 + 1) a0 x0 x1 = F.pleachref03_Hex.l111010.B (F.pleachref03_Hex.l111010 K n0) a0 x0 x1 := (F.pleachref03_Hex.in_eq K [1, 1, 1, 0, 1, 0] [n0 + 1] (F.pleachref03_Hex.l111010.st a0 x0 x1)).trans ((show ∀ H, F.pleachref03_Hex.in K H [1, 1, 1, 0, 1, 0] [n0 + 1] (F.pleachref03_Hex.l111010.st a0 x0 x1) = F.pleachref03_Hex.l111010.B (fun a0 x0 x1 => H [1, 1, 1, 0, 1, 0] [n0] (F.pleachref03_Hex.l111010.st a0 x0 x1)) a0 x0 x1 from by intro H; kernel_rfl) (F.pleachref03_Hex.at K))
noncomputable def F.pleachref03_Hex.B (c0 : (ByteArray) → (ByteArray) → (Int) → Option (ByteArray)) (a0 : ByteArray) : Option (ByteArray) :=
    (c0 a0 (⟨#[]⟩ : ByteArray) 0)
theorem F.pleachref03_Hex.eq K a0 : F.pleachref03_Hex (K + 1) a0 = F.pleachref03_Hex.B (F.pleachref03_Hex.l111010 K K) a0 := (F.pleachref03_Hex.in_main K a0).trans ((show ∀ H, F.pleachref03_Hex.in K H [] [] ⟨slots [.sc (.val (.string a0))] 0, []⟩ = F.pleachref03_Hex.B (fun a0 x0 x1 => H [1, 1, 1, 0, 1, 0] [K] (F.pleachref03_Hex.l111010.st a0 x0 x1)) a0 from by intro H; kernel_rfl) (F.pleachref03_Hex.at K))
noncomputable def V.pleachref03_Hex.l111010 (a0 : ByteArray) (x0 : ByteArray) (x1 : Int) := lim fun v => F.pleachref03_Hex.l111010 (v 0) (v 1) a0 x0 x1
noncomputable def V.pleachref03_Hex (a0 : ByteArray) := lim fun v => F.pleachref03_Hex (v 0) a0
theorem V.pleachref03_Hex.l111010.of a0 x0 x1 {r} (h : F.pleachref03_Hex.l111010.B V.pleachref03_Hex.l111010 a0 x0 x1 = some r) : V.pleachref03_Hex.l111010 a0 x0 x1 = some r :=
  App.to (App.step 1 (fun v => F.pleachref03_Hex.l111010.eq (v 0) (v 1) a0 x0 x1) (by unfold F.pleachref03_Hex.l111010.B; repeat' first | apply App.guard | apply App.cond | exact App.lim | exact App.val | exact App.no | apply App.meet | apply App.ite | refine App.bind ?_ fun _ => ?_)) h
theorem V.pleachref03_Hex.of a0 {r} (h : F.pleachref03_Hex.B V.pleachref03_Hex.l111010 a0 = some r) : V.pleachref03_Hex a0 = some r :=
  App.to (App.step 0 (fun v => F.pleachref03_Hex.eq (v 0) a0) (by unfold F.pleachref03_Hex.B; repeat' first | apply App.guard | apply App.cond | exact App.lim | exact (App.enter 1 App.lim) | exact App.val | exact App.no | apply App.meet | apply App.ite | refine App.bind ?_ fun _ => ?_)) h
noncomputable def F.pleachref06_Show (K : Nat) (a0 : TValue) : Option (ByteArray) := evFn Tryz.prog sg K 38 [.agg [.val (.int .i64 a0.1), .val (.int .i64 a0.2.1), .val (.string a0.2.2)]] []
noncomputable def F.pleachref06_Show.B (c0 : (TValue) → Option (Bool)) (c1 : (Int) → Option (ByteArray)) (c2 : (ByteArray) → Option (Bool)) (c3 : (ByteArray) → Option (ByteArray)) (a0 : TValue) : Option (ByteArray) :=
    ((c0 (a0.1, a0.2.1, a0.2.2)).bind fun t0 => (bif (!t0) then (some (⟨#[]⟩ : ByteArray)) else (bif (a0.1 == 1) then (bif (a0.2.1 == 1) then (some (⟨#[116, 114, 117, 101]⟩ : ByteArray)) else (bif (a0.1 == 1) then (some (⟨#[102, 97, 108, 115, 101]⟩ : ByteArray)) else (bif (a0.1 == 2) then ((c1 a0.2.1).bind fun t1 => (some t1)) else ((c2 a0.2.2).bind fun t2 => (bif t2 then (guardK (decide ((⟨#[39]⟩ : ByteArray).size + a0.2.2.size ≤ i64max)) (some ((⟨#[39]⟩ : ByteArray) ++ a0.2.2))) else ((c3 a0.2.2).bind fun t3 => (guardK (decide ((⟨#[35]⟩ : ByteArray).size + t3.size ≤ i64max)) (some ((⟨#[35]⟩ : ByteArray) ++ t3))))))))) else (bif (a0.1 == 1) then (some (⟨#[102, 97, 108, 115, 101]⟩ : ByteArray)) else (bif (a0.1 == 2) then ((c1 a0.2.1).bind fun t4 => (some t4)) else ((c2 a0.2.2).bind fun t5 => (bif t5 then (guardK (decide ((⟨#[39]⟩ : ByteArray).size + a0.2.2.size ≤ i64max)) (some ((⟨#[39]⟩ : ByteArray) ++ a0.2.2))) else ((c3 a0.2.2).bind fun t6 => (guardK (decide ((⟨#[35]⟩ : ByteArray).size + t6.size ≤ i64max)) (some ((⟨#[35]⟩ : ByteArray) ++ t6)))))))))))
theorem F.pleachref06_Show.eq K a0 : F.pleachref06_Show (K + 1) a0 = F.pleachref06_Show.B (F.pleachref06_Is K) (F.pleachref06_Digits K) (F.pleachref06_plain K) (F.pleachref03_Hex K) a0 := by kernel_rfl
noncomputable def V.pleachref06_Show (a0 : TValue) := lim fun v => F.pleachref06_Show (v 0) a0
theorem V.pleachref06_Show.of a0 {r} (h : F.pleachref06_Show.B V.pleachref06_Is V.pleachref06_Digits V.pleachref06_plain V.pleachref03_Hex a0 = some r) : V.pleachref06_Show a0 = some r :=
  App.to (App.step 0 (fun v => F.pleachref06_Show.eq (v 0) a0) (by unfold F.pleachref06_Show.B; repeat' first | apply App.guard | apply App.cond | exact App.lim | exact App.val | exact App.no | apply App.meet | apply App.ite | refine App.bind ?_ fun _ => ?_)) h
noncomputable def F.pleachref43_element (K : Nat) (a0 : List ByteArray) (a1 : List TProp) : Option (ByteArray) := evFn Tryz.prog sg K 54 [.sc (.list .str a0 false), .sc (.list sProp a1 false)] []
noncomputable def F.pleachref43_element.at (K : Nat) (p ns : List Nat) (s : St) : Option (ByteArray) := atFn Tryz.prog sg K 54 0 p ns s
noncomputable def F.pleachref43_element.in (K : Nat) (H : List Nat → List Nat → St → Option (ByteArray)) (p ns : List Nat) (s : St) : Option (ByteArray) := inFn Tryz.prog sg K 54 0 [] H p ns s
theorem F.pleachref43_element.in_eq K p ns s : F.pleachref43_element.at K p ns s = F.pleachref43_element.in K (F.pleachref43_element.at K) p ns s := atFn_eq (P := Tryz.prog) (sg := sg) (K := K) (f := 54) (m := 0) [] p ns s
theorem F.pleachref43_element.in_main K a0 a1 : F.pleachref43_element (K + 1) a0 a1 = F.pleachref43_element.in K (F.pleachref43_element.at K) [] [] ⟨slots [.sc (.list .str a0 false), .sc (.list sProp a1 false)] 0, []⟩ := evFn_eq (P := Tryz.prog) (sg := sg) (K := K) (f := 54) (args := [.sc (.list .str a0 false), .sc (.list sProp a1 false)]) (σ := []) [] (by kernel_rfl)
def F.pleachref43_element.l11010.st (a0 : List ByteArray) (a1 : List TProp) (x0 : ByteArray) (x1 : Int) : St := ⟨[(1, vL sProp a1), (5, vS x0), (10, vL .str a0), (11, vI (a0.length : Int)), (12, vI x1)], []⟩
noncomputable def F.pleachref43_element.l11010 (K n0 : Nat) (a0 : List ByteArray) (a1 : List TProp) (x0 : ByteArray) (x1 : Int) := F.pleachref43_element.at K [1, 1, 0, 1, 0] [n0] (F.pleachref43_element.l11010.st a0 a1 x0 x1)
def F.pleachref43_element.l111010.st (a0 : List ByteArray) (a1 : List TProp) (x0 : ByteArray) (x1 : Int) : St := ⟨[(5, vS x0), (21, vL sProp a1), (22, vI (a1.length : Int)), (23, vI x1)], []⟩
noncomputable def F.pleachref43_element.l111010 (K n0 : Nat) (a0 : List ByteArray) (a1 : List TProp) (x0 : ByteArray) (x1 : Int) := F.pleachref43_element.at K [1, 1, 1, 0, 1, 0] [n0] (F.pleachref43_element.l111010.st a0 a1 x0 x1)
noncomputable def F.pleachref43_element.l11010.B (c0 : (List ByteArray) → (List TProp) → (ByteArray) → (Int) → Option (ByteArray)) (c1 : (List ByteArray) → (List TProp) → (ByteArray) → (Int) → Option (ByteArray)) (a0 : List ByteArray) (a1 : List TProp) (x0 : ByteArray) (x1 : Int) : Option (ByteArray) :=
    (bif (decide (x1 < (a0.length : Int))) then (guardK (decide (0 ≤ x1) && decide (x1 < (a0.length : Int))) (guardK (decide (x0.size + (⟨#[32, 58]⟩ : ByteArray).size ≤ i64max)) (guardK (decide ((x0 ++ (⟨#[32, 58]⟩ : ByteArray)).size + (rd .str a0 x1.toNat).size ≤ i64max)) (c0 a0 a1 ((x0 ++ (⟨#[32, 58]⟩ : ByteArray)) ++ (rd .str a0 x1.toNat)) (w64 (x1 + 1)))))) else (c1 a0 a1 x0 0))
theorem F.pleachref43_element.l11010.eq K n0 a0 a1 x0 x1 : F.pleachref43_element.l11010 K (n0 + 1) a0 a1 x0 x1 = F.pleachref43_element.l11010.B (F.pleachref43_element.l11010 K n0) (F.pleachref43_element.l111010 K K) a0 a1 x0 x1 := (F.pleachref43_element.in_eq K [1, 1, 0, 1, 0] [n0 + 1] (F.pleachref43_element.l11010.st a0 a1 x0 x1)).trans ((show ∀ H, F.pleachref43_element.in K H [1, 1, 0, 1, 0] [n0 + 1] (F.pleachref43_element.l11010.st a0 a1 x0 x1) = F.pleachref43_element.l11010.B (fun a0 a1 x0 x1 => H [1, 1, 0, 1, 0] [n0] (F.pleachref43_element.l11010.st a0 a1 x0 x1)) (fun a0 a1 x0 x1 => H [1, 1, 1, 0, 1, 0] [K] (F.pleachref43_element.l111010.st a0 a1 x0 x1)) a0 a1 x0 x1 from by intro H; kernel_rfl) (F.pleachref43_element.at K))
noncomputable def F.pleachref43_element.l111010.B (c0 : (TValue) → Option (ByteArray)) (c1 : (List ByteArray) → (List TProp) → (ByteArray) → (Int) → Option (ByteArray)) (a0 : List ByteArray) (a1 : List TProp) (x0 : ByteArray) (x1 : Int) : Option (ByteArray) :=
    (bif (decide (x1 < (a1.length : Int))) then (guardK (decide (0 ≤ x1) && decide (x1 < (a1.length : Int))) (guardK (decide (x0.size + (⟨#[32]⟩ : ByteArray).size ≤ i64max)) (guardK (decide ((x0 ++ (⟨#[32]⟩ : ByteArray)).size + ((rd sProp a1 x1.toNat).1).size ≤ i64max)) (guardK (decide (((x0 ++ (⟨#[32]⟩ : ByteArray)) ++ (rd sProp a1 x1.toNat).1).size + (⟨#[61]⟩ : ByteArray).size ≤ i64max)) ((c0 (((rd sProp a1 x1.toNat).2).1, (((rd sProp a1 x1.toNat).2).2).1, (((rd sProp a1 x1.toNat).2).2).2)).bind fun t0 => (guardK (decide ((((x0 ++ (⟨#[32]⟩ : ByteArray)) ++ (rd sProp a1 x1.toNat).1) ++ (⟨#[61]⟩ : ByteArray)).size + t0.size ≤ i64max)) (c1 a0 a1 ((((x0 ++ (⟨#[32]⟩ : ByteArray)) ++ (rd sProp a1 x1.toNat).1) ++ (⟨#[61]⟩ : ByteArray)) ++ t0) (w64 (x1 + 1))))))))) else (some x0))
theorem F.pleachref43_element.l111010.eq K n0 a0 a1 x0 x1 : F.pleachref43_element.l111010 K (n0 + 1) a0 a1 x0 x1 = F.pleachref43_element.l111010.B (F.pleachref06_Show K) (F.pleachref43_element.l111010 K n0) a0 a1 x0 x1 := (F.pleachref43_element.in_eq K [1, 1, 1, 0, 1, 0] [n0 + 1] (F.pleachref43_element.l111010.st a0 a1 x0 x1)).trans ((show ∀ H, F.pleachref43_element.in K H [1, 1, 1, 0, 1, 0] [n0 + 1] (F.pleachref43_element.l111010.st a0 a1 x0 x1) = F.pleachref43_element.l111010.B (F.pleachref06_Show K) (fun a0 a1 x0 x1 => H [1, 1, 1, 0, 1, 0] [n0] (F.pleachref43_element.l111010.st a0 a1 x0 x1)) a0 a1 x0 x1 from by intro H; kernel_rfl) (F.pleachref43_element.at K))
noncomputable def F.pleachref43_element.B (c0 : (List ByteArray) → (List TProp) → (ByteArray) → (Int) → Option (ByteArray)) (a0 : List ByteArray) (a1 : List TProp) : Option (ByteArray) :=
    (c0 a0 a1 (⟨#[]⟩ : ByteArray) 0)
theorem F.pleachref43_element.eq K a0 a1 : F.pleachref43_element (K + 1) a0 a1 = F.pleachref43_element.B (F.pleachref43_element.l11010 K K) a0 a1 := (F.pleachref43_element.in_main K a0 a1).trans ((show ∀ H, F.pleachref43_element.in K H [] [] ⟨slots [.sc (.list .str a0 false), .sc (.list sProp a1 false)] 0, []⟩ = F.pleachref43_element.B (fun a0 a1 x0 x1 => H [1, 1, 0, 1, 0] [K] (F.pleachref43_element.l11010.st a0 a1 x0 x1)) a0 a1 from by intro H; kernel_rfl) (F.pleachref43_element.at K))
noncomputable def V.pleachref43_element.l11010 (a0 : List ByteArray) (a1 : List TProp) (x0 : ByteArray) (x1 : Int) := lim fun v => F.pleachref43_element.l11010 (v 0) (v 1) a0 a1 x0 x1
noncomputable def V.pleachref43_element.l111010 (a0 : List ByteArray) (a1 : List TProp) (x0 : ByteArray) (x1 : Int) := lim fun v => F.pleachref43_element.l111010 (v 0) (v 1) a0 a1 x0 x1
noncomputable def V.pleachref43_element (a0 : List ByteArray) (a1 : List TProp) := lim fun v => F.pleachref43_element (v 0) a0 a1
theorem V.pleachref43_element.l11010.of a0 a1 x0 x1 {r} (h : F.pleachref43_element.l11010.B V.pleachref43_element.l11010 V.pleachref43_element.l111010 a0 a1 x0 x1 = some r) : V.pleachref43_element.l11010 a0 a1 x0 x1 = some r :=
  App.to (App.step 1 (fun v => F.pleachref43_element.l11010.eq (v 0) (v 1) a0 a1 x0 x1) (by unfold F.pleachref43_element.l11010.B; repeat' first | apply App.guard | apply App.cond | exact App.lim | exact (App.enter 1 App.lim) | exact App.val | exact App.no | apply App.meet | apply App.ite | refine App.bind ?_ fun _ => ?_)) h
theorem V.pleachref43_element.l111010.of a0 a1 x0 x1 {r} (h : F.pleachref43_element.l111010.B V.pleachref06_Show V.pleachref43_element.l111010 a0 a1 x0 x1 = some r) : V.pleachref43_element.l111010 a0 a1 x0 x1 = some r :=
  App.to (App.step 1 (fun v => F.pleachref43_element.l111010.eq (v 0) (v 1) a0 a1 x0 x1) (by unfold F.pleachref43_element.l111010.B; repeat' first | apply App.guard | apply App.cond | exact App.lim | exact App.val | exact App.no | apply App.meet | apply App.ite | refine App.bind ?_ fun _ => ?_)) h
theorem V.pleachref43_element.of a0 a1 {r} (h : F.pleachref43_element.B V.pleachref43_element.l11010 a0 a1 = some r) : V.pleachref43_element a0 a1 = some r :=
  App.to (App.step 0 (fun v => F.pleachref43_element.eq (v 0) a0 a1) (by unfold F.pleachref43_element.B; repeat' first | apply App.guard | apply App.cond | exact App.lim | exact (App.enter 1 App.lim) | exact App.val | exact App.no | apply App.meet | apply App.ite | refine App.bind ?_ fun _ => ?_)) h
noncomputable def F.pleachref43_Graph (K : Nat) (a0 : TGraph) : Option ((List ByteArray)) := evFn Tryz.prog sg K 19 [.agg [.list sNode a0.1 false, .list sEdge a0.2 false]] []
noncomputable def F.pleachref43_Graph.at (K : Nat) (p ns : List Nat) (s : St) : Option ((List ByteArray)) := atFn Tryz.prog sg K 19 0 p ns s
noncomputable def F.pleachref43_Graph.in (K : Nat) (H : List Nat → List Nat → St → Option ((List ByteArray))) (p ns : List Nat) (s : St) : Option ((List ByteArray)) := inFn Tryz.prog sg K 19 0 [] H p ns s
theorem F.pleachref43_Graph.in_eq K p ns s : F.pleachref43_Graph.at K p ns s = F.pleachref43_Graph.in K (F.pleachref43_Graph.at K) p ns s := atFn_eq (P := Tryz.prog) (sg := sg) (K := K) (f := 19) (m := 0) [] p ns s
theorem F.pleachref43_Graph.in_main K a0 : F.pleachref43_Graph (K + 1) a0 = F.pleachref43_Graph.in K (F.pleachref43_Graph.at K) [] [] ⟨slots [.agg [.list sNode a0.1 false, .list sEdge a0.2 false]] 0, []⟩ := evFn_eq (P := Tryz.prog) (sg := sg) (K := K) (f := 19) (args := [.agg [.list sNode a0.1 false, .list sEdge a0.2 false]]) (σ := []) [] (by kernel_rfl)
def F.pleachref43_Graph.l11010.st (a0 : TGraph) (x0 : Int) (x1 : List ByteArray) : St := ⟨[(1, .one (.sc (.ref 0 0))), (3, .one (.sc (.own 1 none))), (9, vL sNode a0.1), (10, vI (a0.1.length : Int)), (11, vI x0)], [.cells 42 [.list sNode a0.1 false, .list sEdge a0.2 false], .elems .str x1]⟩
noncomputable def F.pleachref43_Graph.l11010 (K n0 : Nat) (a0 : TGraph) (x0 : Int) (x1 : List ByteArray) := F.pleachref43_Graph.at K [1, 1, 0, 1, 0] [n0] (F.pleachref43_Graph.l11010.st a0 x0 x1)
def F.pleachref43_Graph.l111010.st (a0 : TGraph) (x0 : Int) (x1 : List ByteArray) : St := ⟨[(3, .one (.sc (.own 0 none))), (29, vL sEdge a0.2), (30, vI (a0.2.length : Int)), (31, vI x0)], [.elems .str x1]⟩
noncomputable def F.pleachref43_Graph.l111010 (K n0 : Nat) (a0 : TGraph) (x0 : Int) (x1 : List ByteArray) := F.pleachref43_Graph.at K [1, 1, 1, 0, 1, 0] [n0] (F.pleachref43_Graph.l111010.st a0 x0 x1)
noncomputable def F.pleachref43_Graph.l11010.B (c0 : (List ByteArray) → (List TProp) → Option (ByteArray)) (c1 : (TGraph) → (Int) → (List ByteArray) → Option ((List ByteArray))) (c2 : (TGraph) → (Int) → (List ByteArray) → Option ((List ByteArray))) (a0 : TGraph) (x0 : Int) (x1 : List ByteArray) : Option ((List ByteArray)) :=
    (bif (decide (x0 < (a0.1.length : Int))) then (guardK (decide (0 ≤ x0) && decide (x0 < (a0.1.length : Int))) (guardK (decide ((⟨#[110, 111, 100, 101, 32]⟩ : ByteArray).size + ((rd sNode a0.1 x0.toNat).1).size ≤ i64max)) ((c0 (((rd sNode a0.1 x0.toNat).2).1) (((rd sNode a0.1 x0.toNat).2).2)).bind fun t0 => (guardK (decide (((⟨#[110, 111, 100, 101, 32]⟩ : ByteArray) ++ (rd sNode a0.1 x0.toNat).1).size + t0.size ≤ i64max)) (guardK (decide (x1.length + ([(((⟨#[110, 111, 100, 101, 32]⟩ : ByteArray) ++ (rd sNode a0.1 x0.toNat).1) ++ t0)]).length ≤ nmax)) (c1 a0 (w64 (x0 + 1)) (x1 ++ [(((⟨#[110, 111, 100, 101, 32]⟩ : ByteArray) ++ (rd sNode a0.1 x0.toNat).1) ++ t0)]))))))) else (c2 a0 0 x1))
theorem F.pleachref43_Graph.l11010.eq K n0 a0 x0 x1 : F.pleachref43_Graph.l11010 K (n0 + 1) a0 x0 x1 = F.pleachref43_Graph.l11010.B (F.pleachref43_element K) (F.pleachref43_Graph.l11010 K n0) (F.pleachref43_Graph.l111010 K K) a0 x0 x1 := (F.pleachref43_Graph.in_eq K [1, 1, 0, 1, 0] [n0 + 1] (F.pleachref43_Graph.l11010.st a0 x0 x1)).trans ((show ∀ H, F.pleachref43_Graph.in K H [1, 1, 0, 1, 0] [n0 + 1] (F.pleachref43_Graph.l11010.st a0 x0 x1) = F.pleachref43_Graph.l11010.B (F.pleachref43_element K) (fun a0 x0 x1 => H [1, 1, 0, 1, 0] [n0] (F.pleachref43_Graph.l11010.st a0 x0 x1)) (fun a0 x0 x1 => H [1, 1, 1, 0, 1, 0] [K] (F.pleachref43_Graph.l111010.st a0 x0 x1)) a0 x0 x1 from by intro H; kernel_rfl) (F.pleachref43_Graph.at K))
noncomputable def F.pleachref43_Graph.l111010.B (c0 : (List ByteArray) → (List TProp) → Option (ByteArray)) (c1 : (TGraph) → (Int) → (List ByteArray) → Option ((List ByteArray))) (a0 : TGraph) (x0 : Int) (x1 : List ByteArray) : Option ((List ByteArray)) :=
    (bif (decide (x0 < (a0.2.length : Int))) then (guardK (decide (0 ≤ x0) && decide (x0 < (a0.2.length : Int))) (guardK (decide ((⟨#[101, 100, 103, 101, 32]⟩ : ByteArray).size + ((rd sEdge a0.2 x0.toNat).1).size ≤ i64max)) (guardK (decide (((⟨#[101, 100, 103, 101, 32]⟩ : ByteArray) ++ (rd sEdge a0.2 x0.toNat).1).size + (⟨#[32]⟩ : ByteArray).size ≤ i64max)) (guardK (decide ((((⟨#[101, 100, 103, 101, 32]⟩ : ByteArray) ++ (rd sEdge a0.2 x0.toNat).1) ++ (⟨#[32]⟩ : ByteArray)).size + (((rd sEdge a0.2 x0.toNat).2).1).size ≤ i64max)) (guardK (decide (((((⟨#[101, 100, 103, 101, 32]⟩ : ByteArray) ++ (rd sEdge a0.2 x0.toNat).1) ++ (⟨#[32]⟩ : ByteArray)) ++ ((rd sEdge a0.2 x0.toNat).2).1).size + (⟨#[32]⟩ : ByteArray).size ≤ i64max)) (guardK (decide ((((((⟨#[101, 100, 103, 101, 32]⟩ : ByteArray) ++ (rd sEdge a0.2 x0.toNat).1) ++ (⟨#[32]⟩ : ByteArray)) ++ ((rd sEdge a0.2 x0.toNat).2).1) ++ (⟨#[32]⟩ : ByteArray)).size + ((((rd sEdge a0.2 x0.toNat).2).2).1).size ≤ i64max)) ((c0 (((((rd sEdge a0.2 x0.toNat).2).2).2).1) (((((rd sEdge a0.2 x0.toNat).2).2).2).2)).bind fun t1 => (guardK (decide (((((((⟨#[101, 100, 103, 101, 32]⟩ : ByteArray) ++ (rd sEdge a0.2 x0.toNat).1) ++ (⟨#[32]⟩ : ByteArray)) ++ ((rd sEdge a0.2 x0.toNat).2).1) ++ (⟨#[32]⟩ : ByteArray)) ++ (((rd sEdge a0.2 x0.toNat).2).2).1).size + t1.size ≤ i64max)) (guardK (decide (x1.length + ([(((((((⟨#[101, 100, 103, 101, 32]⟩ : ByteArray) ++ (rd sEdge a0.2 x0.toNat).1) ++ (⟨#[32]⟩ : ByteArray)) ++ ((rd sEdge a0.2 x0.toNat).2).1) ++ (⟨#[32]⟩ : ByteArray)) ++ (((rd sEdge a0.2 x0.toNat).2).2).1) ++ t1)]).length ≤ nmax)) (c1 a0 (w64 (x0 + 1)) (x1 ++ [(((((((⟨#[101, 100, 103, 101, 32]⟩ : ByteArray) ++ (rd sEdge a0.2 x0.toNat).1) ++ (⟨#[32]⟩ : ByteArray)) ++ ((rd sEdge a0.2 x0.toNat).2).1) ++ (⟨#[32]⟩ : ByteArray)) ++ (((rd sEdge a0.2 x0.toNat).2).2).1) ++ t1)]))))))))))) else (some x1))
theorem F.pleachref43_Graph.l111010.eq K n0 a0 x0 x1 : F.pleachref43_Graph.l111010 K (n0 + 1) a0 x0 x1 = F.pleachref43_Graph.l111010.B (F.pleachref43_element K) (F.pleachref43_Graph.l111010 K n0) a0 x0 x1 := (F.pleachref43_Graph.in_eq K [1, 1, 1, 0, 1, 0] [n0 + 1] (F.pleachref43_Graph.l111010.st a0 x0 x1)).trans ((show ∀ H, F.pleachref43_Graph.in K H [1, 1, 1, 0, 1, 0] [n0 + 1] (F.pleachref43_Graph.l111010.st a0 x0 x1) = F.pleachref43_Graph.l111010.B (F.pleachref43_element K) (fun a0 x0 x1 => H [1, 1, 1, 0, 1, 0] [n0] (F.pleachref43_Graph.l111010.st a0 x0 x1)) a0 x0 x1 from by intro H; kernel_rfl) (F.pleachref43_Graph.at K))
noncomputable def F.pleachref43_Graph.B (c0 : (TGraph) → (Int) → (List ByteArray) → Option ((List ByteArray))) (a0 : TGraph) : Option ((List ByteArray)) :=
    (c0 a0 0 ([]))
theorem F.pleachref43_Graph.eq K a0 : F.pleachref43_Graph (K + 1) a0 = F.pleachref43_Graph.B (F.pleachref43_Graph.l11010 K K) a0 := (F.pleachref43_Graph.in_main K a0).trans ((show ∀ H, F.pleachref43_Graph.in K H [] [] ⟨slots [.agg [.list sNode a0.1 false, .list sEdge a0.2 false]] 0, []⟩ = F.pleachref43_Graph.B (fun a0 x0 x1 => H [1, 1, 0, 1, 0] [K] (F.pleachref43_Graph.l11010.st a0 x0 x1)) a0 from by intro H; kernel_rfl) (F.pleachref43_Graph.at K))
noncomputable def V.pleachref43_Graph.l11010 (a0 : TGraph) (x0 : Int) (x1 : List ByteArray) := lim fun v => F.pleachref43_Graph.l11010 (v 0) (v 1) a0 x0 x1
noncomputable def V.pleachref43_Graph.l111010 (a0 : TGraph) (x0 : Int) (x1 : List ByteArray) := lim fun v => F.pleachref43_Graph.l111010 (v 0) (v 1) a0 x0 x1
noncomputable def V.pleachref43_Graph (a0 : TGraph) := lim fun v => F.pleachref43_Graph (v 0) a0
theorem V.pleachref43_Graph.l11010.of a0 x0 x1 {r} (h : F.pleachref43_Graph.l11010.B V.pleachref43_element V.pleachref43_Graph.l11010 V.pleachref43_Graph.l111010 a0 x0 x1 = some r) : V.pleachref43_Graph.l11010 a0 x0 x1 = some r :=
  App.to (App.step 1 (fun v => F.pleachref43_Graph.l11010.eq (v 0) (v 1) a0 x0 x1) (by unfold F.pleachref43_Graph.l11010.B; repeat' first | apply App.guard | apply App.cond | exact App.lim | exact (App.enter 1 App.lim) | exact App.val | exact App.no | apply App.meet | apply App.ite | refine App.bind ?_ fun _ => ?_)) h
theorem V.pleachref43_Graph.l111010.of a0 x0 x1 {r} (h : F.pleachref43_Graph.l111010.B V.pleachref43_element V.pleachref43_Graph.l111010 a0 x0 x1 = some r) : V.pleachref43_Graph.l111010 a0 x0 x1 = some r :=
  App.to (App.step 1 (fun v => F.pleachref43_Graph.l111010.eq (v 0) (v 1) a0 x0 x1) (by unfold F.pleachref43_Graph.l111010.B; repeat' first | apply App.guard | apply App.cond | exact App.lim | exact App.val | exact App.no | apply App.meet | apply App.ite | refine App.bind ?_ fun _ => ?_)) h
theorem V.pleachref43_Graph.of a0 {r} (h : F.pleachref43_Graph.B V.pleachref43_Graph.l11010 a0 = some r) : V.pleachref43_Graph a0 = some r :=
  App.to (App.step 0 (fun v => F.pleachref43_Graph.eq (v 0) a0) (by unfold F.pleachref43_Graph.B; repeat' first | apply App.guard | apply App.cond | exact App.lim | exact (App.enter 1 App.lim) | exact App.val | exact App.no | apply App.meet | apply App.ite | refine App.bind ?_ fun _ => ?_)) h
noncomputable def F.pleachplain_Texts (K : Nat) (a0 : List ByteArray) (a1 : List ByteArray) : Option (Bool) := evFn Tryz.prog sg K 17 [.sc (.list .str a0 false), .sc (.list .str a1 false)] []
noncomputable def F.pleachplain_Texts.at (K : Nat) (p ns : List Nat) (s : St) : Option (Bool) := atFn Tryz.prog sg K 17 0 p ns s
noncomputable def F.pleachplain_Texts.in (K : Nat) (H : List Nat → List Nat → St → Option (Bool)) (p ns : List Nat) (s : St) : Option (Bool) := inFn Tryz.prog sg K 17 0 [] H p ns s
theorem F.pleachplain_Texts.in_eq K p ns s : F.pleachplain_Texts.at K p ns s = F.pleachplain_Texts.in K (F.pleachplain_Texts.at K) p ns s := atFn_eq (P := Tryz.prog) (sg := sg) (K := K) (f := 17) (m := 0) [] p ns s
theorem F.pleachplain_Texts.in_main K a0 a1 : F.pleachplain_Texts (K + 1) a0 a1 = F.pleachplain_Texts.in K (F.pleachplain_Texts.at K) [] [] ⟨slots [.sc (.list .str a0 false), .sc (.list .str a1 false)] 0, []⟩ := evFn_eq (P := Tryz.prog) (sg := sg) (K := K) (f := 17) (args := [.sc (.list .str a0 false), .sc (.list .str a1 false)]) (σ := []) [] (by kernel_rfl)
def F.pleachplain_Texts.l11010.st (a0 : List ByteArray) (a1 : List ByteArray) (x0 : Int) : St := ⟨[(0, vL .str a0), (1, vL .str a1), (12, vI (a0.length : Int)), (13, vI x0)], []⟩
noncomputable def F.pleachplain_Texts.l11010 (K n0 : Nat) (a0 : List ByteArray) (a1 : List ByteArray) (x0 : Int) := F.pleachplain_Texts.at K [1, 1, 0, 1, 0] [n0] (F.pleachplain_Texts.l11010.st a0 a1 x0)
noncomputable def F.pleachplain_Texts.l11010.B (c0 : (List ByteArray) → (List ByteArray) → (Int) → Option (Bool)) (a0 : List ByteArray) (a1 : List ByteArray) (x0 : Int) : Option (Bool) :=
    (bif (decide (x0 < (a0.length : Int))) then (guardK (decide (0 ≤ x0) && decide (x0 < (a0.length : Int))) (guardK (decide (0 ≤ x0) && decide (x0 < (a1.length : Int))) (bif (!strEq (rd .str a0 x0.toNat) (rd .str a1 x0.toNat)) then (some false) else (c0 a0 a1 (w64 (x0 + 1)))))) else (some true))
theorem F.pleachplain_Texts.l11010.eq K n0 a0 a1 x0 : F.pleachplain_Texts.l11010 K (n0 + 1) a0 a1 x0 = F.pleachplain_Texts.l11010.B (F.pleachplain_Texts.l11010 K n0) a0 a1 x0 := (F.pleachplain_Texts.in_eq K [1, 1, 0, 1, 0] [n0 + 1] (F.pleachplain_Texts.l11010.st a0 a1 x0)).trans ((show ∀ H, F.pleachplain_Texts.in K H [1, 1, 0, 1, 0] [n0 + 1] (F.pleachplain_Texts.l11010.st a0 a1 x0) = F.pleachplain_Texts.l11010.B (fun a0 a1 x0 => H [1, 1, 0, 1, 0] [n0] (F.pleachplain_Texts.l11010.st a0 a1 x0)) a0 a1 x0 from by intro H; kernel_rfl) (F.pleachplain_Texts.at K))
noncomputable def F.pleachplain_Texts.B (c0 : (List ByteArray) → (List ByteArray) → (Int) → Option (Bool)) (a0 : List ByteArray) (a1 : List ByteArray) : Option (Bool) :=
    (bif ((a0.length : Int) != (a1.length : Int)) then (some false) else (c0 a0 a1 0))
theorem F.pleachplain_Texts.eq K a0 a1 : F.pleachplain_Texts (K + 1) a0 a1 = F.pleachplain_Texts.B (F.pleachplain_Texts.l11010 K K) a0 a1 := (F.pleachplain_Texts.in_main K a0 a1).trans ((show ∀ H, F.pleachplain_Texts.in K H [] [] ⟨slots [.sc (.list .str a0 false), .sc (.list .str a1 false)] 0, []⟩ = F.pleachplain_Texts.B (fun a0 a1 x0 => H [1, 1, 0, 1, 0] [K] (F.pleachplain_Texts.l11010.st a0 a1 x0)) a0 a1 from by intro H; kernel_rfl) (F.pleachplain_Texts.at K))
noncomputable def V.pleachplain_Texts.l11010 (a0 : List ByteArray) (a1 : List ByteArray) (x0 : Int) := lim fun v => F.pleachplain_Texts.l11010 (v 0) (v 1) a0 a1 x0
noncomputable def V.pleachplain_Texts (a0 : List ByteArray) (a1 : List ByteArray) := lim fun v => F.pleachplain_Texts (v 0) a0 a1
theorem V.pleachplain_Texts.l11010.of a0 a1 x0 {r} (h : F.pleachplain_Texts.l11010.B V.pleachplain_Texts.l11010 a0 a1 x0 = some r) : V.pleachplain_Texts.l11010 a0 a1 x0 = some r :=
  App.to (App.step 1 (fun v => F.pleachplain_Texts.l11010.eq (v 0) (v 1) a0 a1 x0) (by unfold F.pleachplain_Texts.l11010.B; repeat' first | apply App.guard | apply App.cond | exact App.lim | exact App.val | exact App.no | apply App.meet | apply App.ite | refine App.bind ?_ fun _ => ?_)) h
theorem V.pleachplain_Texts.of a0 a1 {r} (h : F.pleachplain_Texts.B V.pleachplain_Texts.l11010 a0 a1 = some r) : V.pleachplain_Texts a0 a1 = some r :=
  App.to (App.step 0 (fun v => F.pleachplain_Texts.eq (v 0) a0 a1) (by unfold F.pleachplain_Texts.B; repeat' first | apply App.guard | apply App.cond | exact App.lim | exact (App.enter 1 App.lim) | exact App.val | exact App.no | apply App.meet | apply App.ite | refine App.bind ?_ fun _ => ?_)) h
noncomputable def F.line_Nums (K : Nat) (a0 : List Int) : Option (ByteArray) := evFn Tryz.prog sg K 20 [.sc (.list (.int .i64) a0 false)] []
noncomputable def F.line_Nums.at (K : Nat) (p ns : List Nat) (s : St) : Option (ByteArray) := atFn Tryz.prog sg K 20 0 p ns s
noncomputable def F.line_Nums.in (K : Nat) (H : List Nat → List Nat → St → Option (ByteArray)) (p ns : List Nat) (s : St) : Option (ByteArray) := inFn Tryz.prog sg K 20 0 [] H p ns s
theorem F.line_Nums.in_eq K p ns s : F.line_Nums.at K p ns s = F.line_Nums.in K (F.line_Nums.at K) p ns s := atFn_eq (P := Tryz.prog) (sg := sg) (K := K) (f := 20) (m := 0) [] p ns s
theorem F.line_Nums.in_main K a0 : F.line_Nums (K + 1) a0 = F.line_Nums.in K (F.line_Nums.at K) [] [] ⟨slots [.sc (.list (.int .i64) a0 false)] 0, []⟩ := evFn_eq (P := Tryz.prog) (sg := sg) (K := K) (f := 20) (args := [.sc (.list (.int .i64) a0 false)]) (σ := []) [] (by kernel_rfl)
def F.line_Nums.l11010.st (a0 : List Int) (x0 : Int) (x1 : List ByteArray) : St := ⟨[(3, .one (.sc (.own 0 none))), (6, vL (.int .i64) a0), (7, vI (a0.length : Int)), (8, vI x0)], [.elems .str x1]⟩
noncomputable def F.line_Nums.l11010 (K n0 : Nat) (a0 : List Int) (x0 : Int) (x1 : List ByteArray) := F.line_Nums.at K [1, 1, 0, 1, 0] [n0] (F.line_Nums.l11010.st a0 x0 x1)
noncomputable def F.line_Nums.l11010.B (c0 : (Int) → Option (ByteArray)) (c1 : (List Int) → (Int) → (List ByteArray) → Option (ByteArray)) (c2 : (List ByteArray) → (ByteArray) → Option (ByteArray)) (a0 : List Int) (x0 : Int) (x1 : List ByteArray) : Option (ByteArray) :=
    (bif (decide (x0 < (a0.length : Int))) then (guardK (decide (0 ≤ x0) && decide (x0 < (a0.length : Int))) ((c0 (rd (.int .i64) a0 x0.toNat)).bind fun t0 => (guardK (decide (x1.length + ([t0]).length ≤ nmax)) (c1 a0 (w64 (x0 + 1)) (x1 ++ [t0]))))) else ((c2 x1 (⟨#[32]⟩ : ByteArray)).bind fun t1 => (some t1)))
theorem F.line_Nums.l11010.eq K n0 a0 x0 x1 : F.line_Nums.l11010 K (n0 + 1) a0 x0 x1 = F.line_Nums.l11010.B (F.strconv_Itoa K) (F.line_Nums.l11010 K n0) (F.strings_Join K) a0 x0 x1 := (F.line_Nums.in_eq K [1, 1, 0, 1, 0] [n0 + 1] (F.line_Nums.l11010.st a0 x0 x1)).trans ((show ∀ H, F.line_Nums.in K H [1, 1, 0, 1, 0] [n0 + 1] (F.line_Nums.l11010.st a0 x0 x1) = F.line_Nums.l11010.B (F.strconv_Itoa K) (fun a0 x0 x1 => H [1, 1, 0, 1, 0] [n0] (F.line_Nums.l11010.st a0 x0 x1)) (F.strings_Join K) a0 x0 x1 from by intro H; kernel_rfl) (F.line_Nums.at K))
noncomputable def F.line_Nums.B (c0 : (List Int) → (Int) → (List ByteArray) → Option (ByteArray)) (a0 : List Int) : Option (ByteArray) :=
    (c0 a0 0 ([]))
theorem F.line_Nums.eq K a0 : F.line_Nums (K + 1) a0 = F.line_Nums.B (F.line_Nums.l11010 K K) a0 := (F.line_Nums.in_main K a0).trans ((show ∀ H, F.line_Nums.in K H [] [] ⟨slots [.sc (.list (.int .i64) a0 false)] 0, []⟩ = F.line_Nums.B (fun a0 x0 x1 => H [1, 1, 0, 1, 0] [K] (F.line_Nums.l11010.st a0 x0 x1)) a0 from by intro H; kernel_rfl) (F.line_Nums.at K))
noncomputable def V.line_Nums.l11010 (a0 : List Int) (x0 : Int) (x1 : List ByteArray) := lim fun v => F.line_Nums.l11010 (v 0) (v 1) a0 x0 x1
noncomputable def V.line_Nums (a0 : List Int) := lim fun v => F.line_Nums (v 0) a0
theorem V.line_Nums.l11010.of a0 x0 x1 {r} (h : F.line_Nums.l11010.B V.strconv_Itoa V.line_Nums.l11010 V.strings_Join a0 x0 x1 = some r) : V.line_Nums.l11010 a0 x0 x1 = some r :=
  App.to (App.step 1 (fun v => F.line_Nums.l11010.eq (v 0) (v 1) a0 x0 x1) (by unfold F.line_Nums.l11010.B; repeat' first | apply App.guard | apply App.cond | exact App.lim | exact App.val | exact App.no | apply App.meet | apply App.ite | refine App.bind ?_ fun _ => ?_)) h
theorem V.line_Nums.of a0 {r} (h : F.line_Nums.B V.line_Nums.l11010 a0 = some r) : V.line_Nums a0 = some r :=
  App.to (App.step 0 (fun v => F.line_Nums.eq (v 0) a0) (by unfold F.line_Nums.B; repeat' first | apply App.guard | apply App.cond | exact App.lim | exact (App.enter 1 App.lim) | exact App.val | exact App.no | apply App.meet | apply App.ite | refine App.bind ?_ fun _ => ?_)) h
noncomputable def F.pleachref43_Nums (K : Nat) (a0 : List Int) : Option (ByteArray) := evFn Tryz.prog sg K 21 [.sc (.list (.int .i64) a0 false)] []
noncomputable def F.pleachref43_Nums.at (K : Nat) (p ns : List Nat) (s : St) : Option (ByteArray) := atFn Tryz.prog sg K 21 0 p ns s
noncomputable def F.pleachref43_Nums.in (K : Nat) (H : List Nat → List Nat → St → Option (ByteArray)) (p ns : List Nat) (s : St) : Option (ByteArray) := inFn Tryz.prog sg K 21 0 [] H p ns s
theorem F.pleachref43_Nums.in_eq K p ns s : F.pleachref43_Nums.at K p ns s = F.pleachref43_Nums.in K (F.pleachref43_Nums.at K) p ns s := atFn_eq (P := Tryz.prog) (sg := sg) (K := K) (f := 21) (m := 0) [] p ns s
theorem F.pleachref43_Nums.in_main K a0 : F.pleachref43_Nums (K + 1) a0 = F.pleachref43_Nums.in K (F.pleachref43_Nums.at K) [] [] ⟨slots [.sc (.list (.int .i64) a0 false)] 0, []⟩ := evFn_eq (P := Tryz.prog) (sg := sg) (K := K) (f := 21) (args := [.sc (.list (.int .i64) a0 false)]) (σ := []) [] (by kernel_rfl)
def F.pleachref43_Nums.l11010.st (a0 : List Int) (x0 : ByteArray) (x1 : Int) : St := ⟨[(3, vS x0), (6, vL (.int .i64) a0), (7, vI (a0.length : Int)), (8, vI x1)], []⟩
noncomputable def F.pleachref43_Nums.l11010 (K n0 : Nat) (a0 : List Int) (x0 : ByteArray) (x1 : Int) := F.pleachref43_Nums.at K [1, 1, 0, 1, 0] [n0] (F.pleachref43_Nums.l11010.st a0 x0 x1)
noncomputable def F.pleachref43_Nums.l11010.B (c0 : (Int) → Option (ByteArray)) (c1 : (List Int) → (ByteArray) → (Int) → Option (ByteArray)) (a0 : List Int) (x0 : ByteArray) (x1 : Int) : Option (ByteArray) :=
    (bif (decide (x1 < (a0.length : Int))) then (guardK (decide (0 ≤ x1) && decide (x1 < (a0.length : Int))) (bif (decide (x1 > 0)) then (guardK (decide (x0.size + (⟨#[32]⟩ : ByteArray).size ≤ i64max)) ((c0 (rd (.int .i64) a0 x1.toNat)).bind fun t0 => (guardK (decide ((x0 ++ (⟨#[32]⟩ : ByteArray)).size + t0.size ≤ i64max)) (c1 a0 ((x0 ++ (⟨#[32]⟩ : ByteArray)) ++ t0) (w64 (x1 + 1)))))) else ((c0 (rd (.int .i64) a0 x1.toNat)).bind fun t1 => (guardK (decide (x0.size + t1.size ≤ i64max)) (c1 a0 (x0 ++ t1) (w64 (x1 + 1))))))) else (some x0))
theorem F.pleachref43_Nums.l11010.eq K n0 a0 x0 x1 : F.pleachref43_Nums.l11010 K (n0 + 1) a0 x0 x1 = F.pleachref43_Nums.l11010.B (F.pleachref06_Digits K) (F.pleachref43_Nums.l11010 K n0) a0 x0 x1 := (F.pleachref43_Nums.in_eq K [1, 1, 0, 1, 0] [n0 + 1] (F.pleachref43_Nums.l11010.st a0 x0 x1)).trans ((show ∀ H, F.pleachref43_Nums.in K H [1, 1, 0, 1, 0] [n0 + 1] (F.pleachref43_Nums.l11010.st a0 x0 x1) = F.pleachref43_Nums.l11010.B (F.pleachref06_Digits K) (fun a0 x0 x1 => H [1, 1, 0, 1, 0] [n0] (F.pleachref43_Nums.l11010.st a0 x0 x1)) a0 x0 x1 from by intro H; kernel_rfl) (F.pleachref43_Nums.at K))
noncomputable def F.pleachref43_Nums.B (c0 : (List Int) → (ByteArray) → (Int) → Option (ByteArray)) (a0 : List Int) : Option (ByteArray) :=
    (c0 a0 (⟨#[]⟩ : ByteArray) 0)
theorem F.pleachref43_Nums.eq K a0 : F.pleachref43_Nums (K + 1) a0 = F.pleachref43_Nums.B (F.pleachref43_Nums.l11010 K K) a0 := (F.pleachref43_Nums.in_main K a0).trans ((show ∀ H, F.pleachref43_Nums.in K H [] [] ⟨slots [.sc (.list (.int .i64) a0 false)] 0, []⟩ = F.pleachref43_Nums.B (fun a0 x0 x1 => H [1, 1, 0, 1, 0] [K] (F.pleachref43_Nums.l11010.st a0 x0 x1)) a0 from by intro H; kernel_rfl) (F.pleachref43_Nums.at K))
noncomputable def V.pleachref43_Nums.l11010 (a0 : List Int) (x0 : ByteArray) (x1 : Int) := lim fun v => F.pleachref43_Nums.l11010 (v 0) (v 1) a0 x0 x1
noncomputable def V.pleachref43_Nums (a0 : List Int) := lim fun v => F.pleachref43_Nums (v 0) a0
theorem V.pleachref43_Nums.l11010.of a0 x0 x1 {r} (h : F.pleachref43_Nums.l11010.B V.pleachref06_Digits V.pleachref43_Nums.l11010 a0 x0 x1 = some r) : V.pleachref43_Nums.l11010 a0 x0 x1 = some r :=
  App.to (App.step 1 (fun v => F.pleachref43_Nums.l11010.eq (v 0) (v 1) a0 x0 x1) (by unfold F.pleachref43_Nums.l11010.B; repeat' first | apply App.guard | apply App.cond | exact App.lim | exact App.val | exact App.no | apply App.meet | apply App.ite | refine App.bind ?_ fun _ => ?_)) h
theorem V.pleachref43_Nums.of a0 {r} (h : F.pleachref43_Nums.B V.pleachref43_Nums.l11010 a0 = some r) : V.pleachref43_Nums a0 = some r :=
  App.to (App.step 0 (fun v => F.pleachref43_Nums.eq (v 0) a0) (by unfold F.pleachref43_Nums.B; repeat' first | apply App.guard | apply App.cond | exact App.lim | exact (App.enter 1 App.lim) | exact App.val | exact App.no | apply App.meet | apply App.ite | refine App.bind ?_ fun _ => ?_)) h
noncomputable def F.pleachlaw43_LineGraphs (K : Nat) (a0 : TGraph) (a1 : List Int) : Option (Bool) := evFn Tryz.prog sg K 6 [.agg [.list sNode a0.1 false, .list sEdge a0.2 false], .sc (.list (.int .i64) a1 false)] []
noncomputable def F.pleachlaw43_LineGraphs.B (c0 : (TGraph) → Option (Bool)) (c1 : Option (Bool)) (c2 : (TGraph) → Option ((List ByteArray))) (c3 : (TGraph) → Option ((List ByteArray))) (c4 : (List ByteArray) → (List ByteArray) → Option (Bool)) (c5 : (List Int) → Option (ByteArray)) (c6 : (List Int) → Option (ByteArray)) (a0 : TGraph) (a1 : List Int) : Option (Bool) :=
    ((c0 (a0.1, a0.2)).bind fun t0 => (bif (!t0) then ((c1).bind fun t1 => (some t1)) else (bif (decide ((a1.length : Int) > 100)) then ((c1).bind fun t2 => (some t2)) else ((c2 (a0.1, a0.2)).bind fun t3 => ((c3 (a0.1, a0.2)).bind fun t4 => ((c4 t3 t4).bind fun t5 => (bif t5 then ((c5 a1).bind fun t6 => ((c6 a1).bind fun t7 => (bif (strEq t6 t7) then ((c1).bind fun t8 => (some t8)) else (some false)))) else (some false))))))))
theorem F.pleachlaw43_LineGraphs.eq K a0 a1 : F.pleachlaw43_LineGraphs (K + 1) a0 a1 = F.pleachlaw43_LineGraphs.B (F.pleachref26_Few K) (F.pleachlaw43_awake K) (F.line_Graph K) (F.pleachref43_Graph K) (F.pleachplain_Texts K) (F.line_Nums K) (F.pleachref43_Nums K) a0 a1 := by kernel_rfl
noncomputable def V.pleachlaw43_LineGraphs (a0 : TGraph) (a1 : List Int) := lim fun v => F.pleachlaw43_LineGraphs (v 0) a0 a1
theorem V.pleachlaw43_LineGraphs.of a0 a1 {r} (h : F.pleachlaw43_LineGraphs.B V.pleachref26_Few V.pleachlaw43_awake V.line_Graph V.pleachref43_Graph V.pleachplain_Texts V.line_Nums V.pleachref43_Nums a0 a1 = some r) : V.pleachlaw43_LineGraphs a0 a1 = some r :=
  App.to (App.step 0 (fun v => F.pleachlaw43_LineGraphs.eq (v 0) a0 a1) (by unfold F.pleachlaw43_LineGraphs.B; repeat' first | apply App.guard | apply App.cond | exact App.lim | exact App.val | exact App.no | apply App.meet | apply App.ite | refine App.bind ?_ fun _ => ?_)) h
end Go.Proofs.YthbaafcoidjflaaGreatDoor.AE
end
section
set_option linter.unusedVariables false
set_option linter.unusedSimpArgs false
namespace Go.Proofs.YthbaafcoidjflaaGreatDoor.AE
open Go

theorem w64_id {x : Int} (h0 : -9223372036854775808 ≤ x) (h1 : x ≤ 9223372036854775807) : w64 x = x := by
  show IntKind.i64.wrap x = x
  simp [IntKind.wrap, IntKind.bits, IntKind.signed]
  omega
theorem u64_id {x : Int} (h0 : 0 ≤ x) (h1 : x ≤ 18446744073709551615) : IntKind.wrap .u64 x = x := by
  have : IntKind.u64.wrap x = x % 18446744073709551616 := by simp [IntKind.wrap, IntKind.bits, IntKind.signed]
  rw [this]; omega
theorem w64_up {i n : Nat} (h : i < n) (hn : n ≤ 140737488351232) : w64 ((i : Int) + 1) = ((i + 1 : Nat) : Int) := by rw [w64_id (by omega) (by omega)]; omega
theorem guard_of {α : Type} {g : Bool} {a : Option α} (h : g = true) : guardK g a = a := by rw [h]; rfl
theorem guard_dec {α : Type} {p : Prop} [Decidable p] {a : Option α} (h : p) : guardK (decide p) a = a := guard_of (decide_eq_true h)
/-- Inside a row. -/
theorem guard_in {α : Type} {i n : Nat} {a : Option α} (h : i < n) : guardK (decide (0 ≤ (i : Int)) && decide ((i : Int) < (n : Int))) a = a := guard_of (by simp [h])
theorem if_in {α : Type} {i n : Nat} {a b : α} (h : i < n) : (bif decide ((i : Int) < (n : Int)) then a else b) = a := by simp [h]
theorem if_out {α : Type} {i n : Nat} {a b : α} (h : n ≤ i) : (bif decide ((i : Int) < (n : Int)) then a else b) = b := by simp [Nat.not_lt.2 h]
theorem if_yes {α : Type} {p : Prop} [Decidable p] {a b : α} (h : p) : (bif decide p then a else b) = a := by simp [h]
theorem if_no {α : Type} {p : Prop} [Decidable p] {a b : α} (h : ¬ p) : (bif decide p then a else b) = b := by simp [h]
theorem nat_cast (i : Nat) : ((i : Nat) : Int).toNat = i := rfl
theorem data_len (s : ByteArray) : s.data.toList.length = s.size := by rw [Array.length_toList]; rfl
theorem toList_size (s : ByteArray) : s.toList.length = s.size := by rw [ByteArray.toList_eq]; exact data_len s
theorem toList_nil {s : ByteArray} : s.toList = [] ↔ s.size = 0 := by
  rw [← toList_size, List.length_eq_zero_iff]
theorem bytes_ext {s t : ByteArray} (h : s.toList = t.toList) : s = t := by
  rw [ByteArray.toList_eq, ByteArray.toList_eq] at h
  have : s.data = t.data := by rwa [← Array.toList_inj]
  cases s; cases t; simp_all
theorem strEq_iff {s t : ByteArray} : strEq s t = true ↔ s = t := by
  unfold strEq
  rw [beq_iff_eq]
  exact ⟨bytes_ext, fun h => by rw [h]⟩
theorem strEq_self (s : ByteArray) : strEq s s = true := strEq_iff.2 rfl
/-! ### The order of texts -/

theorem size_zero {s : ByteArray} (h : s.size = 0) : s = (⟨#[]⟩ : ByteArray) := by
  apply bytes_ext
  rw [toList_nil.2 h]
  exact (toList_nil.2 rfl).symm
theorem strEq_nil (s : ByteArray) : strEq s (⟨#[]⟩ : ByteArray) = (s.size == 0) := by
  rw [Bool.eq_iff_iff, strEq_iff]
  simp only [beq_iff_eq]
  exact ⟨fun h => by rw [h]; rfl, size_zero⟩
theorem strOfNums_size (xs : List Int) : (bytesOf xs).size = xs.length := by unfold bytesOf; simp [ByteArray.size]
theorem strOfNums_append (xs ys : List Int) : bytesOf (xs ++ ys) = bytesOf xs ++ bytesOf ys := by
  apply ByteArray.ext
  simp [bytesOf]
theorem bt_data (s : ByteArray) (i : Nat) (h : i < s.size) : byteAt s (i : Int) = ((s.data.toList[i]'(by rw [Array.length_toList]; exact h)).toNat : Int) := by
  show (((s.data.toList.getD (i : Int).toNat 0).toNat : Nat) : Int) = _
  rw [nat_cast, List.getD_eq_getElem?_getD, List.getElem?_eq_getElem (by rw [data_len]; exact h)]
  rfl
theorem rd_get {e : Sh} {l : List (den e)} {i : Nat} (h : i < l.length) : rd e l i = l[i] := by
  simp [rd, List.getD_eq_getElem?_getD, List.getElem?_eq_getElem h]
/-- A loop that ends at the first place at which the step tells something; else what is told at the end. -/
def scanG {α : Type} (step : Nat → Option α) (fin : α) : Nat → Nat → α
  | 0, _ => fin
  | d + 1, i => match step i with
    | some r => r
    | none => scanG step fin d (i + 1)
abbrev scanI (step : Nat → Option Int) : Nat → Nat → Int := scanG step 0
theorem scanG_succ {α : Type} (step : Nat → Option α) (fin : α) (d i : Nat) : scanG step fin (d + 1) i = (step i).getD (scanG step fin d (i + 1)) := by
  show (match step i with | some r => r | none => scanG step fin d (i + 1)) = _
  cases step i <;> rfl
theorem scanI_succ (step : Nat → Option Int) (d i : Nat) : scanI step (d + 1) i = (step i).getD (scanI step d (i + 1)) := scanG_succ step 0 d i
end Go.Proofs.YthbaafcoidjflaaGreatDoor.AE
end
section
set_option linter.unusedVariables false
set_option linter.unusedSimpArgs false
namespace Go.Proofs.YthbaafcoidjflaaGreatDoor.AE
open Go

def okc (c : Int) : Bool := (decide (97 ≤ c) && decide (c ≤ 122)) || (decide (48 ≤ c) && decide (c ≤ 57)) || c == 45
/-- From place i on, d bytes, all fit. -/
def okFrom (s : ByteArray) : Nat → Nat → Bool
  | 0, _ => true
  | d + 1, i => okc (byteAt s i) && okFrom s d (i + 1)
def nameB (s : ByteArray) : Bool := decide (1 ≤ s.size) && decide (s.size ≤ 12) && okFrom s s.size 0

def valueB (v : TValue) : Bool := (v.1 == 1 && (v.2.1 == 0 || v.2.1 == 1) && v.2.2.size == 0) || (v.1 == 2 && v.2.2.size == 0) || (v.1 == 3 && v.2.1 == 0 && decide (v.2.2.size ≤ 64))
theorem value_Check_ok (v : TValue) : V.value_Check v = some (if valueB v then 0 else 2) := by
  refine V.value_Check.of _ ?_
  obtain ⟨a, b, s⟩ := v
  unfold F.value_Check.B valueB
  simp only [strEq_nil]
  by_cases a1 : a = 1
  · subst a1
    by_cases b0 : b = 0 <;> by_cases b1 : b = 1 <;> by_cases s0 : s.size = 0 <;> simp [Bool.cond_eq_ite, b0, b1, s0]
  · by_cases a2 : a = 2
    · subst a2
      by_cases s0 : s.size = 0 <;> simp [Bool.cond_eq_ite, s0]
    · by_cases a3 : a = 3
      · subst a3
        by_cases b0 : b = 0 <;> by_cases s0 : s.size ≤ 64 <;> simp [Bool.cond_eq_ite, b0, s0] <;> omega
      · simp [Bool.cond_eq_ite, a1, a2, a3]
theorem refVIs_ok (v : TValue) : V.pleachref06_Is v = some (valueB v) := by
  refine V.pleachref06_Is.of _ ?_
  obtain ⟨a, b, s⟩ := v
  unfold F.pleachref06_Is.B valueB
  simp only [strEq_nil]
  by_cases a1 : a = 1
  · subst a1
    by_cases s0 : s.size = 0 <;> by_cases b0 : b ≥ 0 <;> by_cases b1 : b ≤ 1 <;> simp [Bool.cond_eq_ite, b0, b1, s0] <;> omega
  · by_cases a2 : a = 2
    · subst a2
      by_cases s0 : s.size = 0 <;> simp [Bool.cond_eq_ite, s0]
    · by_cases a3 : a = 3
      · subst a3
        by_cases b0 : b = 0 <;> by_cases s0 : s.size ≤ 64 <;> simp [Bool.cond_eq_ite, b0, s0] <;> omega
      · simp [Bool.cond_eq_ite, a1, a2, a3]

/-! ### Rows that rise -/

def propStep (l : List TProp) (i : Nat) : Option Int :=
  if (nameB (rd sProp l i).1 && valueB (rd sProp l i).2) = false then some 2
  else if 0 < i ∧ strLt (rd sProp l (i - 1)).1 (rd sProp l i).1 = false then some 4 else none
def textStep (l : List ByteArray) (i : Nat) : Option Int :=
  if nameB (rd .str l i) = false then some 2
  else if 0 < i ∧ strLt (rd .str l (i - 1)) (rd .str l i) = false then some 4 else none
def propsN (l : List TProp) : Int := if l.length > 8 then 5 else scanI (propStep l) l.length 0
def rowN (l : List ByteArray) : Int := scanI (textStep l) l.length 0
def restN (labels : List ByteArray) (props : List TProp) : Int := if labels.length > 8 then 5 else if rowN labels = 0 then propsN props else rowN labels

end Go.Proofs.YthbaafcoidjflaaGreatDoor.AE
end
section
set_option linter.unusedVariables false
set_option linter.unusedSimpArgs false
namespace Go.Proofs.YthbaafcoidjflaaGreatDoor.AE
open Go

end Go.Proofs.YthbaafcoidjflaaGreatDoor.AE
end
section
set_option linter.unusedVariables false
set_option linter.unusedSimpArgs false
namespace Go.Proofs.YthbaafcoidjflaaGreatDoor.AE
open Go

theorem scanI_zero {step : Nat → Option Int} (hs : ∀ i r, step i = some r → r ≠ 0) : ∀ d i, scanI step d i = 0 → ∀ j, i ≤ j → j < i + d → step j = none
  | 0, i, _, j, h1, h2 => by omega
  | d + 1, i, h, j, h1, h2 => by
    rw [scanI_succ] at h
    cases hq : step i with
    | some r => rw [hq] at h; exact absurd h (hs i r hq)
    | none =>
      rw [hq] at h
      by_cases hij : j = i
      · rw [hij]; exact hq
      · exact scanI_zero hs d (i + 1) h j (by omega) (by omega)
theorem propStep_ne (l : List TProp) (i : Nat) (r : Int) (h : propStep l i = some r) : r ≠ 0 := by
  unfold propStep at h
  split at h
  · injection h with h; omega
  · split at h
    · injection h with h; omega
    · cases h
theorem textStep_ne (l : List ByteArray) (i : Nat) (r : Int) (h : textStep l i = some r) : r ≠ 0 := by
  unfold textStep at h
  split at h
  · injection h with h; omega
  · split at h
    · injection h with h; omega
    · cases h
theorem nameB_size {s : ByteArray} (h : nameB s = true) : 1 ≤ s.size ∧ s.size ≤ 12 := by
  unfold nameB at h
  simp at h
  exact ⟨h.1.1, h.1.2⟩
theorem textStep_none {l : List ByteArray} {i : Nat} (h : textStep l i = none) : nameB (rd .str l i) = true ∧ (0 < i → strLt (rd .str l (i - 1)) (rd .str l i) = true) := by
  unfold textStep at h
  split at h
  · cases h
  · rename_i h1
    split at h
    · cases h
    · rename_i h2
      refine ⟨by simpa using h1, fun h0 => ?_⟩
      cases hq : strLt (rd .str l (i - 1)) (rd .str l i) with
      | true => rfl
      | false => exact absurd ⟨h0, hq⟩ h2
theorem propStep_none {l : List TProp} {i : Nat} (h : propStep l i = none) : nameB (rd sProp l i).1 = true ∧ valueB (rd sProp l i).2 = true ∧ (0 < i → strLt (rd sProp l (i - 1)).1 (rd sProp l i).1 = true) := by
  unfold propStep at h
  split at h
  · cases h
  · rename_i h1
    split at h
    · cases h
    · rename_i h2
      have h3 : nameB (rd sProp l i).1 = true ∧ valueB (rd sProp l i).2 = true := by simpa using h1
      refine ⟨h3.1, h3.2, fun h0 => ?_⟩
      cases hq : strLt (rd sProp l (i - 1)).1 (rd sProp l i).1 with
      | true => rfl
      | false => exact absurd ⟨h0, hq⟩ h2
/-- What a row of names, of properties that may be is. -/
theorem rowN_zero {l : List ByteArray} (h : rowN l = 0) {i : Nat} (hi : i < l.length) : nameB (rd .str l i) = true ∧ (0 < i → strLt (rd .str l (i - 1)) (rd .str l i) = true) :=
  textStep_none (scanI_zero (textStep_ne l) l.length 0 h i (by omega) (by omega))
theorem propsN_len {l : List TProp} (h : propsN l = 0) : l.length ≤ 8 := by
  unfold propsN at h
  split at h
  · omega
  · omega
theorem propsN_zero {l : List TProp} (h : propsN l = 0) {i : Nat} (hi : i < l.length) : nameB (rd sProp l i).1 = true ∧ valueB (rd sProp l i).2 = true ∧ (0 < i → strLt (rd sProp l (i - 1)).1 (rd sProp l i).1 = true) := by
  have h8 := propsN_len h
  unfold propsN at h
  rw [if_neg (by omega)] at h
  exact propStep_none (scanI_zero (propStep_ne l) l.length 0 h i (by omega) (by omega))
theorem restN_zero {a : List ByteArray} {l : List TProp} (h : restN a l = 0) : a.length ≤ 8 ∧ rowN a = 0 ∧ propsN l = 0 := by
  unfold restN at h
  split at h
  · omega
  · split at h
    · rename_i h1 h2
      exact ⟨by omega, h2, h⟩
    · rename_i h1 h2
      exact absurd h h2

/-- Labels and properties are as few and short as they may be. -/
structure Short (a : List ByteArray) (l : List TProp) : Prop where
  na : a.length ≤ 8
  nl : l.length ≤ 8
  ta : ∀ i, i < a.length → (rd .str a i).size ≤ 12
  tl : ∀ i, i < l.length → (rd sProp l i).1.size ≤ 12
theorem Short.of {a : List ByteArray} {l : List TProp} (h : restN a l = 0) : Short a l := by
  obtain ⟨h1, h2, h3⟩ := restN_zero h
  exact ⟨h1, propsN_len h3, fun i hi => (nameB_size (rowN_zero h2 hi).1).2, fun i hi => (nameB_size (propsN_zero h3 hi).1).2⟩
end Go.Proofs.YthbaafcoidjflaaGreatDoor.AE
end
section
set_option linter.unusedVariables false
set_option linter.unusedSimpArgs false
namespace Go.Proofs.YthbaafcoidjflaaGreatDoor.AE
open Go

theorem app_nil (s : ByteArray) : s ++ (⟨#[]⟩ : ByteArray) = s := by apply ByteArray.ext; simp
theorem nil_app (s : ByteArray) : (⟨#[]⟩ : ByteArray) ++ s = s := by apply ByteArray.ext; simp
/-! ### Nodes and edges -/

end Go.Proofs.YthbaafcoidjflaaGreatDoor.AE
end
section
set_option linter.unusedVariables false
set_option linter.unusedSimpArgs false
set_option maxRecDepth 4000
namespace Go.Proofs.YthbaafcoidjflaaGreatDoor.AE
open Go

theorem bt_range (s : ByteArray) (i : Int) : 0 ≤ byteAt s i ∧ byteAt s i < 256 := by
  unfold byteAt
  have := UInt8.toNat_lt (s.data.toList.getD i.toNat 0)
  omega
/-! lists of bytes that are one number's -/
/-! the reference -/
/-! ### What stands where -/

end Go.Proofs.YthbaafcoidjflaaGreatDoor.AE
end
section
set_option linter.unusedVariables false
set_option linter.unusedSimpArgs false
set_option maxRecDepth 4000
namespace Go.Proofs.YthbaafcoidjflaaGreatDoor.AE
open Go

end Go.Proofs.YthbaafcoidjflaaGreatDoor.AE
end
section
set_option linter.unusedVariables false
set_option linter.unusedSimpArgs false
set_option maxRecDepth 4000
namespace Go.Proofs.YthbaafcoidjflaaGreatDoor.AE
open Go

end Go.Proofs.YthbaafcoidjflaaGreatDoor.AE
end
section
set_option linter.unusedVariables false
set_option linter.unusedSimpArgs false
set_option maxRecDepth 4000
namespace Go.Proofs.YthbaafcoidjflaaGreatDoor.AE
open Go

/-! rows of texts, of properties -/
end Go.Proofs.YthbaafcoidjflaaGreatDoor.AE
end
section
set_option linter.unusedVariables false
set_option linter.unusedSimpArgs false
namespace Go.Proofs.YthbaafcoidjflaaGreatDoor.AE
open Go

abbrev hexD : ByteArray := ⟨#[48, 49, 50, 51, 52, 53, 54, 55, 56, 57, 97, 98, 99, 100, 101, 102]⟩
def hexL (s : ByteArray) : Nat → Nat → List Int
  | 0, _ => []
  | d + 1, i => byteAt hexD (byteAt s (i : Int) / 16) :: byteAt hexD (byteAt s (i : Int) % 16) :: hexL s d (i + 1)
def hexB (s : ByteArray) : ByteArray := bytesOf (hexL s s.size 0)
theorem hexL_len (s : ByteArray) : ∀ d i, (hexL s d i).length = 2 * d
  | 0, i => rfl
  | d + 1, i => by simp only [hexL, List.length_cons, hexL_len s d (i + 1)]; omega
theorem hexB_size (s : ByteArray) : (hexB s).size = 2 * s.size := by unfold hexB; rw [strOfNums_size, hexL_len]

theorem byte_fin {p : Int → Prop} (h : ∀ c : Fin 256, p (c.val : Int)) {c : Int} (h0 : 0 ≤ c) (h1 : c < 256) : p c := by
  obtain ⟨n, rfl⟩ := Int.eq_ofNat_of_zero_le h0
  exact h ⟨n, by omega⟩
theorem and15 {c : Int} (h0 : 0 ≤ c) (h1 : c < 256) : IntKind.wrap .u8 ((BitVec.ofInt 8 c &&& BitVec.ofInt 8 15).toNat : Int) = c % 16 :=
  byte_fin (p := fun c => IntKind.wrap .u8 ((BitVec.ofInt 8 c &&& BitVec.ofInt 8 15).toNat : Int) = c % 16) (by decide +kernel) h0 h1
theorem fdiv16 {c : Int} (h0 : 0 ≤ c) (h1 : c < 256) : Int.fdiv c (2 ^ 4) = c / 16 :=
  byte_fin (p := fun c => Int.fdiv c (2 ^ 4) = c / 16) (by decide +kernel) h0 h1
theorem tdiv16 {c : Int} (h0 : 0 ≤ c) (h1 : c < 256) : w64 (Int.tdiv (w64 c) 16) = c / 16 :=
  byte_fin (p := fun c => w64 (Int.tdiv (w64 c) 16) = c / 16) (by decide +kernel) h0 h1
theorem tmod16 {c : Int} (h0 : 0 ≤ c) (h1 : c < 256) : Int.tmod (w64 c) 16 = c % 16 :=
  byte_fin (p := fun c => Int.tmod (w64 c) 16 = c % 16) (by decide +kernel) h0 h1
theorem hexD_size : ((hexD.size : Nat) : Int) = 16 := rfl
theorem hexD_one {k : Nat} (h : k < 16) : hexD.extract k (k + 1) = bytesOf [byteAt hexD (k : Int)] := by
  have : ∀ k : Fin 16, (hexD.extract k.val (k.val + 1)).data = (bytesOf [byteAt hexD (k.val : Int)]).data := by decide +kernel
  exact ByteArray.ext (this ⟨k, h⟩)

theorem sha_Hex_l (s : ByteArray) (hs : s.size ≤ 1000000) : ∀ (d i : Nat) (x : List Int), i + d = s.size → x.length ≤ 2 * i → V.sha_Hex.l11010 s (i : Int) x = some (bytesOf (x ++ hexL s d i))
  | 0, i, x, h, hx => by
    apply V.sha_Hex.l11010.of; unfold F.sha_Hex.l11010.B
    rw [if_out (by omega)]
    simp [hexL]
  | d + 1, i, x, h, hx => by
    obtain ⟨b0, b1⟩ := bt_range s (i : Int)
    apply V.sha_Hex.l11010.of; unfold F.sha_Hex.l11010.B
    rw [if_in (by omega), guard_in (by omega), fdiv16 b0 b1, and15 b0 b1, hexD_size]
    rw [guard_of (by simp only [Bool.and_eq_true, decide_eq_true_eq]; omega), guard_in (by omega), guard_of (by simp only [Bool.and_eq_true, decide_eq_true_eq]; omega)]
    rw [guard_dec (by simp only [List.length_cons, List.length_nil, nmax]; omega), w64_up (n := s.size) (by omega) (by omega)]
    rw [sha_Hex_l s hs d (i + 1) _ (by omega) (by simp only [List.length_append, List.length_cons, List.length_nil]; omega)]
    simp only [hexL, List.append_assoc, List.cons_append, List.nil_append]
theorem sha_Hex_ok (s : ByteArray) (hs : s.size ≤ 1000000) : V.sha_Hex s = some (hexB s) := by
  apply V.sha_Hex.of; unfold F.sha_Hex.B
  rw [w64_id (by omega) (by omega), guard_of (by simp only [Bool.and_eq_true, decide_eq_true_eq]; omega)]
  have := sha_Hex_l s hs s.size 0 [] (by omega) (by simp)
  exact this

theorem bytes_two (a b : Int) : bytesOf [a] ++ bytesOf [b] = bytesOf [a, b] := by rw [← strOfNums_append]; rfl
theorem refHex_l (s : ByteArray) (hs : s.size ≤ 1000000) : ∀ (d i : Nat) (x : ByteArray), i + d = s.size → x.size ≤ 2 * i → V.pleachref03_Hex.l111010 s x (i : Int) = some (x ++ bytesOf (hexL s d i))
  | 0, i, x, h, hx => by
    apply V.pleachref03_Hex.l111010.of; unfold F.pleachref03_Hex.l111010.B
    rw [if_out (by omega)]
    simp only [hexL]
    exact congrArg some (app_nil x).symm
  | d + 1, i, x, h, hx => by
    obtain ⟨b0, b1⟩ := bt_range s (i : Int)
    obtain ⟨k, hk⟩ := Int.eq_ofNat_of_zero_le (show 0 ≤ byteAt s (i : Int) / 16 by omega)
    obtain ⟨m, hm⟩ := Int.eq_ofNat_of_zero_le (show 0 ≤ byteAt s (i : Int) % 16 by omega)
    apply V.pleachref03_Hex.l111010.of; unfold F.pleachref03_Hex.l111010.B
    rw [if_in (by omega), guard_in (by omega), guard_in (by omega), tdiv16 b0 b1, tmod16 b0 b1, hexD_size, hk, hm]
    have k16 : k < 16 := by omega
    have m16 : m < 16 := by omega
    rw [w64_up (n := 16) k16 (by omega), w64_up (n := 16) m16 (by omega)]
    simp only [Int.toNat_natCast]
    rw [guard_of (by simp only [Bool.and_eq_true, decide_eq_true_eq]; omega)]
    rw [guard_dec (by rw [hexD_one k16, strOfNums_size]; simp only [List.length_cons, List.length_nil, i64max]; omega)]
    rw [guard_of (by simp only [Bool.and_eq_true, decide_eq_true_eq]; omega)]
    rw [guard_dec (by rw [hexD_one k16, hexD_one m16, ByteArray.size_append, strOfNums_size, strOfNums_size]; simp only [List.length_cons, List.length_nil, i64max]; omega)]
    rw [hexD_one k16, hexD_one m16]
    rw [w64_up (n := s.size) (by omega) (by omega)]
    rw [refHex_l s hs d (i + 1) _ (by omega) (by rw [ByteArray.size_append, ByteArray.size_append, strOfNums_size, strOfNums_size]; simp only [List.length_cons, List.length_nil]; omega)]
    simp only [hexL, hk, hm]
    rw [show (byteAt hexD (k : Int) :: byteAt hexD (m : Int) :: hexL s d (i + 1)) = [byteAt hexD (k : Int), byteAt hexD (m : Int)] ++ hexL s d (i + 1) from rfl, strOfNums_append, ← bytes_two]
    simp only [ByteArray.append_assoc]
theorem refHex_ok (s : ByteArray) (hs : s.size ≤ 1000000) : V.pleachref03_Hex s = some (hexB s) := by
  apply V.pleachref03_Hex.of; unfold F.pleachref03_Hex.B
  have := refHex_l s hs s.size 0 ⟨#[]⟩ (by omega) (by simp [ByteArray.size])
  rw [nil_app] at this
  exact this

/-! ### Decimal digits -/
def dB (n : Nat) : ByteArray := ⟨(Lib.decDigits n).toArray⟩
def tensB (n : Nat) : ByteArray := if n = 0 then ⟨#[]⟩ else dB n
def oneB (n : Nat) : ByteArray := ⟨#[UInt8.ofNat (48 + n)]⟩
theorem tail_ok {n : Nat} (h : n < 10) : V.pleachref06_tail (n : Int) = some (oneB n) := by
  apply V.pleachref06_tail.of; unfold F.pleachref06_tail.B
  have : ∀ k : Fin 10, (bytesOf [IntKind.wrap .u8 (w64 (48 + (k.val : Int)))]).data = (oneB k.val).data := by decide +kernel
  exact congrArg some (ByteArray.ext (this ⟨n, h⟩))
theorem data_app (a b : List UInt8) : (⟨a.toArray⟩ : ByteArray) ++ ⟨b.toArray⟩ = ⟨(a ++ b).toArray⟩ := by apply ByteArray.ext; simp
theorem tens_one (n : Nat) : tensB (n / 10) ++ oneB (n % 10) = dB n := by
  unfold tensB dB oneB
  by_cases h : n < 10
  · rw [if_pos (by omega), Lib.decDigits_one h, Nat.mod_eq_of_lt h]
    exact nil_app _
  · rw [if_neg (by omega)]
    conv => rhs; rw [Lib.decDigits, dif_neg h]
    exact data_app _ _
theorem oneB_size (n : Nat) : (oneB n).size = 1 := rfl
theorem div10 (n : Nat) : Int.tdiv (n : Int) 10 = ((n / 10 : Nat) : Int) := by rw [Int.tdiv_eq_ediv_of_nonneg (by omega)]; omega
theorem mod10 (n : Nat) : Int.tmod (n : Int) 10 = ((n % 10 : Nat) : Int) := by rw [Int.tmod_eq_emod_of_nonneg (by omega)]; omega
theorem tens_l (a : Int) : ∀ (k n : Nat) (out : ByteArray), n < 10 ^ k → n < 18446744073709551616 → out.size + k ≤ 100 → V.pleachref06_tens.l1100 a (n : Int) out = some (tensB n ++ out)
  | k, 0, out, h, h64, hk => by
    apply V.pleachref06_tens.l1100.of; unfold F.pleachref06_tens.l1100.B
    rw [if_no (by omega)]
    exact congrArg some (nil_app out).symm
  | 0, n + 1, out, h, h64, hk => by simp at h
  | k + 1, n + 1, out, h, h64, hk => by
    have h' : (n + 1) / 10 < 10 ^ k := by rw [Nat.pow_succ] at h; omega
    apply V.pleachref06_tens.l1100.of; unfold F.pleachref06_tens.l1100.B
    rw [if_yes (by omega), mod10, w64_id (by omega) (by omega), tail_ok (by omega), Option.bind_some, guard_dec (by rw [oneB_size]; simp only [i64max]; omega), div10, u64_id (by omega) (by omega)]
    rw [tens_l a k ((n + 1) / 10) _ h' (by omega) (by rw [ByteArray.size_append, oneB_size]; omega), ← ByteArray.append_assoc, tens_one]
    rfl
theorem dB_size : ∀ (k n : Nat), n < 10 ^ (k + 1) → (dB n).size ≤ k + 1
  | 0, n, h => by
    unfold dB; rw [Lib.decDigits_one (by simpa using h)]; simp [ByteArray.size]
  | k + 1, n, h => by
    rw [← tens_one n, ByteArray.size_append, oneB_size]
    unfold tensB
    split
    · simp [ByteArray.size]
    · have := dB_size k (n / 10) (by rw [Nat.pow_succ] at h; omega)
      omega
theorem tensB_size {n : Nat} (h : n < 18446744073709551616) : (tensB n).size ≤ 20 := by
  unfold tensB
  split
  · simp [ByteArray.size]
  · have := dB_size 19 n (by omega)
    omega
theorem tens_ok {n : Nat} (h : n < 18446744073709551616) : V.pleachref06_tens (n : Int) = some (tensB n) := by
  apply V.pleachref06_tens.of; unfold F.pleachref06_tens.B
  rw [tens_l _ 20 n _ (by omega) h (by simp [ByteArray.size]), app_nil]

theorem itoaS_neg {n : Int} (h : n < 0) : itoaS n = (⟨#[45]⟩ : ByteArray) ++ dB n.natAbs := by
  unfold itoaS Lib.itoa dB
  rw [if_pos h]
  exact (data_app [45] _).symm
theorem itoaS_pos {n : Nat} : itoaS (n : Int) = dB n := by
  unfold itoaS Lib.itoa dB
  rw [if_neg (by omega)]; rfl
theorem Digits_ok {a : Int} (h0 : -9223372036854775808 ≤ a) (h1 : a ≤ 9223372036854775807) : V.pleachref06_Digits a = some (itoaS a) := by
  apply V.pleachref06_Digits.of; unfold F.pleachref06_Digits.B
  by_cases hn : a < 0
  · obtain ⟨m, hm⟩ := Int.eq_ofNat_of_zero_le (show 0 ≤ -(a + 1) by omega)
    have e1 : IntKind.wrap .u64 (w64 (0 - (w64 (a + 1)))) = (m : Int) := by
      rw [w64_id (x := a + 1) (by omega) (by omega), w64_id (by omega) (by omega), u64_id (by omega) (by omega)]; omega
    rw [if_yes hn, e1, mod10, div10, w64_id (x := ((m % 10 : Nat) : Int)) (by omega) (by omega), w64_id (by omega) (by omega), u64_id (x := ((m / 10 : Nat) : Int)) (by omega) (by omega), u64_id (by omega) (by omega)]
    rw [itoaS_neg hn, show a.natAbs = m + 1 by omega, ← tens_one (m + 1)]
    by_cases h9 : m % 10 = 9
    · have hc : ((((m % 10 : Nat) : Int) + 1) == 10) = true := by rw [h9]; rfl
      rw [hc, cond_true, show ((m / 10 : Nat) : Int) + 1 = (((m + 1) / 10 : Nat) : Int) by omega, tens_ok (by omega), Option.bind_some]
      have hz := tensB_size (n := (m + 1) / 10) (by omega)
      rw [guard_dec (by simp only [i64max]; show 1 + _ ≤ _; omega), show (0 : Int) = ((0 : Nat) : Int) from rfl, tail_ok (by omega), Option.bind_some, guard_dec (by rw [ByteArray.size_append, oneB_size]; simp only [i64max]; show 1 + _ + _ ≤ _; omega)]
      rw [show (m + 1) % 10 = 0 by omega, ByteArray.append_assoc]
    · have hc : ((((m % 10 : Nat) : Int) + 1) == 10) = false := by
        rw [beq_eq_false_iff_ne]; omega
      rw [hc, cond_false, show ((m / 10 : Nat) : Int) = (((m + 1) / 10 : Nat) : Int) by omega, tens_ok (by omega), Option.bind_some]
      have hz := tensB_size (n := (m + 1) / 10) (by omega)
      rw [guard_dec (by simp only [i64max]; show 1 + _ ≤ _; omega), show ((m % 10 : Nat) : Int) + 1 = (((m + 1) % 10 : Nat) : Int) by omega, tail_ok (by omega), Option.bind_some, guard_dec (by rw [ByteArray.size_append, oneB_size]; simp only [i64max]; show 1 + _ + _ ≤ _; omega)]
      rw [ByteArray.append_assoc]
  · obtain ⟨n, rfl⟩ := Int.eq_ofNat_of_zero_le (show 0 ≤ a by omega)
    rw [if_no hn, u64_id (x := (n : Int)) (by omega) (by omega), div10, u64_id (by omega) (by omega), mod10, tens_ok (by omega), Option.bind_some, tail_ok (by omega), Option.bind_some]
    have hz := tensB_size (n := n / 10) (by omega)
    rw [guard_dec (by rw [oneB_size]; simp only [i64max]; omega), tens_one, itoaS_pos]
theorem itoaS_size {a : Int} (h0 : -9223372036854775808 ≤ a) (h1 : a ≤ 9223372036854775807) : (itoaS a).size ≤ 21 := by
  by_cases hn : a < 0
  · rw [itoaS_neg hn, ByteArray.size_append]
    have := dB_size 19 a.natAbs (by omega)
    show 1 + _ ≤ _; omega
  · obtain ⟨n, rfl⟩ := Int.eq_ofNat_of_zero_le (show 0 ≤ a by omega)
    rw [itoaS_pos]
    have := dB_size 19 n (by omega)
    omega

/-! ### Plain texts -/
def badI (c : Int) : Bool := !(((((decide (c ≥ 97) && decide (c ≤ 122)) || (decide (c ≥ 65) && decide (c ≤ 90))) || (decide (c ≥ 48) && decide (c ≤ 57))) || c == 45) || c == 46 || c == 95)
def okF (s : ByteArray) : Nat → Nat → Bool
  | 0, _ => true
  | d + 1, i => bif badI (byteAt s (i : Int)) then false else okF s d (i + 1)
def plainB (s : ByteArray) : Bool := okF s s.size 0
theorem refPlain_l (s : ByteArray) (hs : s.size ≤ 1000000) : ∀ (d i : Nat), i + d = s.size → V.pleachref06_plain.l1010 s (i : Int) = some (okF s d i)
  | 0, i, h => by
    apply V.pleachref06_plain.l1010.of; unfold F.pleachref06_plain.l1010.B
    rw [if_out (by omega)]; rfl
  | d + 1, i, h => by
    apply V.pleachref06_plain.l1010.of; unfold F.pleachref06_plain.l1010.B
    rw [if_in (by omega), guard_in (by omega), w64_up (n := s.size) (by omega) (by omega), refPlain_l s hs d (i + 1) (by omega)]
    simp only [okF, badI, bne]
    generalize byteAt s (i : Int) = c
    generalize okF s d (i + 1) = r
    generalize decide (c ≥ 97) = p1
    generalize decide (c ≤ 122) = p2
    generalize decide (c ≥ 65) = p3
    generalize decide (c ≤ 90) = p4
    generalize decide (c ≥ 48) = p5
    generalize decide (c ≤ 57) = p6
    generalize (c == 45) = p7
    generalize (c == 46) = p8
    generalize (c == 95) = p9
    cases p1 <;> cases p2 <;> cases p3 <;> cases p4 <;> cases p5 <;> cases p6 <;> cases p7 <;> cases p8 <;> cases p9 <;> rfl
theorem refPlain_ok (s : ByteArray) (hs : s.size ≤ 1000000) : V.pleachref06_plain s = some (plainB s) := by
  apply V.pleachref06_plain.of; unfold F.pleachref06_plain.B
  exact refPlain_l s hs s.size 0 (by omega)

theorem decode_low {s : ByteArray} {i : Nat} (h : (s.get! i).toNat < 128) : Utf8.decode s i = ((s.get! i).toNat, 1) := by
  unfold Utf8.decode
  simp only [Nat.add_zero]
  rw [if_pos h]
theorem decode_high {s : ByteArray} {i : Nat} (h : 128 ≤ (s.get! i).toNat) : 128 ≤ (Utf8.decode s i).1 := by
  unfold Utf8.decode
  simp only [Nat.add_zero, Utf8.runeError]
  rw [if_neg (by omega)]
  repeat' split
  all_goals first | omega | (rename_i h1; simp only [Bool.and_eq_true, decide_eq_true_eq, ge_iff_le] at h1; omega) | (simp only [ge_iff_le] at *; omega)
theorem bt_get {s : ByteArray} {i : Nat} (h : i < s.size) : byteAt s (i : Int) = ((s.get! i).toNat : Int) := by
  rw [bt_data s i h]
  congr 1
  cases s with
  | mk a => 
    have h' : i < a.size := h
    simp [ByteArray.get!, getElem!_pos, h']
theorem badR_of (n : Nat) : badR n = badI (n : Int) := by
  unfold badR badI
  rw [Bool.eq_iff_iff]
  simp
  omega
theorem badR_high {n : Nat} (h : 128 ≤ n) : badR n = true := by
  unfold badR; simp; omega
theorem idx_plain (s : ByteArray) : ∀ (f d i : Nat), i + d = s.size → d ≤ f → decide (0 ≤ Lib.idxFuncFrom badR true s f i) = !(okF s d i)
  | f, 0, i, h, hf => by
    rw [Lib.idxFuncFrom_end _ _ _ _ _ (by omega)]; rfl
  | 0, d + 1, i, h, hf => by omega
  | f + 1, d + 1, i, h, hf => by
    have hi : i < s.size := by omega
    unfold Lib.idxFuncFrom
    rw [if_pos hi]
    simp only [okF]
    rw [bt_get hi, ← badR_of]
    by_cases hl : (s.get! i).toNat < 128
    · rw [decode_low hl]
      cases hb : badR (s.get! i).toNat
      · rw [if_neg (by simp [hb])]
        exact idx_plain s f d (i + 1) (by omega) (by omega)
      · simp
    · have h1 : badR (s.get! i).toNat = true := badR_high (by omega)
      have h2 : badR (Utf8.decode s i).1 = true := badR_high (decode_high (by omega))
      rw [h1, h2]; simp
theorem hasR_plain (s : ByteArray) : hasR badR s = !(plainB s) := by
  unfold hasR Lib.idxFunc plainB
  exact idx_plain s s.size s.size 0 (by omega) (Nat.le_refl _)
theorem plain_ok (s : ByteArray) : V.value_plain s = some (plainB s) := by
  apply V.value_plain.of; unfold F.value_plain.B
  rw [V.strings_ContainsFunc_by_value_plain_1.of s (r := hasR badR s) rfl, Option.bind_some, hasR_plain, Bool.not_not]

/-! ### A value's word -/
def showB (v : TValue) : ByteArray :=
  if valueB v then (if v.1 = 1 then (if v.2.1 = 1 then ⟨#[116, 114, 117, 101]⟩ else ⟨#[102, 97, 108, 115, 101]⟩) else if v.1 = 2 then itoaS v.2.1 else if plainB v.2.2 then (⟨#[39]⟩ : ByteArray) ++ v.2.2 else (⟨#[35]⟩ : ByteArray) ++ hexB v.2.2) else ⟨#[]⟩
theorem value_kind {v : TValue} (h : valueB v = true) : (v.1 = 1 ∨ v.1 = 2 ∨ v.1 = 3) ∧ v.2.2.size ≤ 64 := by
  unfold valueB at h
  simp only [Bool.or_eq_true, Bool.and_eq_true, beq_iff_eq, decide_eq_true_eq] at h
  omega
theorem one_app (c : UInt8) (s : ByteArray) : ((⟨#[c]⟩ : ByteArray) ++ s).size = 1 + s.size := by rw [ByteArray.size_append]; rfl
theorem Itoa_ok {a : Int} (h0 : -9223372036854775808 ≤ a) (h1 : a ≤ 9223372036854775807) : V.strconv_Itoa a = some (itoaS a) := by
  apply V.strconv_Itoa.of
  show itoaB a = _
  unfold itoaB
  rw [itoaK_eq h0 h1]
  exact guard_of (by simp [h0, h1])
theorem value_Show_ok (v : TValue) (hb : -9223372036854775808 ≤ v.2.1 ∧ v.2.1 ≤ 9223372036854775807) : V.value_Show v = some (showB v) := by
  obtain ⟨k, n, t⟩ := v
  apply V.value_Show.of; unfold F.value_Show.B
  rw [value_Check_ok, Option.bind_some]
  unfold showB
  cases hv : valueB (k, n, t) with
  | false => simp
  | true =>
    obtain ⟨hk, ht⟩ := value_kind hv
    simp only at hk ht hb
    simp only [if_true]
    rw [show ((0 : Int) != 0) = false from rfl, cond_false, Itoa_ok hb.1 hb.2, plain_ok t, sha_Hex_ok t (by omega)]
    simp only [Option.bind_some]
    rw [guard_dec (p := (⟨#[39]⟩ : ByteArray).size + t.size ≤ i64max) (by show 1 + _ ≤ _; simp only [i64max]; omega), guard_dec (p := (⟨#[35]⟩ : ByteArray).size + (hexB t).size ≤ i64max) (by rw [hexB_size]; show 1 + _ ≤ _; simp only [i64max]; omega)]
    rcases hk with rfl | rfl | rfl
    · by_cases h1 : n = 1
      · subst h1; simp
      · rw [show (n == 1) = false from beq_eq_false_iff_ne.2 h1, if_neg (show ¬ ((1, n, t) : TValue).2.1 = 1 from h1)]; rfl
    · simp
    · cases plainB t <;> simp
theorem refShow_ok (v : TValue) (hb : -9223372036854775808 ≤ v.2.1 ∧ v.2.1 ≤ 9223372036854775807) : V.pleachref06_Show v = some (showB v) := by
  obtain ⟨k, n, t⟩ := v
  apply V.pleachref06_Show.of; unfold F.pleachref06_Show.B
  rw [refVIs_ok, Option.bind_some]
  unfold showB
  cases hv : valueB (k, n, t) with
  | false => simp
  | true =>
    obtain ⟨hk, ht⟩ := value_kind hv
    simp only at hk ht hb
    simp only [if_true]
    rw [Digits_ok hb.1 hb.2, refPlain_ok t (by omega), refHex_ok t (by omega)]
    simp only [Option.bind_some]
    rw [guard_dec (p := (⟨#[39]⟩ : ByteArray).size + t.size ≤ i64max) (by show 1 + _ ≤ _; simp only [i64max]; omega), guard_dec (p := (⟨#[35]⟩ : ByteArray).size + (hexB t).size ≤ i64max) (by rw [hexB_size]; show 1 + _ ≤ _; simp only [i64max]; omega)]
    rcases hk with rfl | rfl | rfl
    · by_cases h1 : n = 1
      · subst h1; simp
      · rw [show (n == 1) = false from beq_eq_false_iff_ne.2 h1, if_neg (show ¬ ((1, n, t) : TValue).2.1 = 1 from h1)]; rfl
    · simp
    · cases plainB t <;> simp
theorem int_wf {n : Int} (h : (Lit.int .i64 n).wf = true) : -9223372036854775808 ≤ n ∧ n ≤ 9223372036854775807 := by
  have e1 : IntKind.i64.min = -9223372036854775808 := rfl
  have e2 : IntKind.i64.max = 9223372036854775807 := rfl
  simpa only [Lit.wf, e1, e2, Bool.and_eq_true, decide_eq_true_eq] using h
end Go.Proofs.YthbaafcoidjflaaGreatDoor.AE
end
section
set_option linter.unusedVariables false
set_option linter.unusedSimpArgs false
namespace Go.Proofs.YthbaafcoidjflaaGreatDoor.AE
open Go

/-! ### A value of bytes -/
end Go.Proofs.YthbaafcoidjflaaGreatDoor.AE
end
section
set_option linter.unusedVariables false
set_option linter.unusedSimpArgs false
namespace Go.Proofs.YthbaafcoidjflaaGreatDoor.AE
open Go

def hv (c : Int) : Int := if 48 ≤ c ∧ c ≤ 57 then c - 48 else if 97 ≤ c ∧ c ≤ 102 then c - 87 else 16
/-! ### Numbers -/
def in64 (x : Int) : Prop := -9223372036854775808 ≤ x ∧ x ≤ 9223372036854775807
end Go.Proofs.YthbaafcoidjflaaGreatDoor.AE
end
section
set_option linter.unusedVariables false
set_option linter.unusedSimpArgs false
namespace Go.Proofs.YthbaafcoidjflaaGreatDoor.AE
open Go

/-! ### What a word is read as -/
end Go.Proofs.YthbaafcoidjflaaGreatDoor.AE
end
section
set_option linter.unusedVariables false
set_option linter.unusedSimpArgs false
namespace Go.Proofs.YthbaafcoidjflaaGreatDoor.AE
open Go

theorem lim_at {α : Type} {a : Nat → Option α} {r : α} (N : Nat) (h : ∀ K, a (K + N) = some r) : AE.lim (fun v => a (v 0)) = some r :=
  lim_some.2 ⟨N, fun v hv => by
    have := hv 0
    obtain ⟨k, hk⟩ : ∃ k, v 0 = k + N := ⟨v 0 - N, by omega⟩
    show a (v 0) = some r
    rw [hk]; exact h k⟩
end Go.Proofs.YthbaafcoidjflaaGreatDoor.AE
end
section
set_option linter.unusedVariables false
namespace Go.Proofs.YthbaafcoidjflaaGreatDoor.AE
open Go
theorem awake43 : V.pleachlaw43_awake = some true := lim_at 300 fun K => by kernel_rfl
end Go.Proofs.YthbaafcoidjflaaGreatDoor.AE
end
section
set_option linter.unusedVariables false
set_option linter.unusedSimpArgs false
set_option maxRecDepth 20000
namespace Go.Proofs.YthbaafcoidjflaaGreatDoor.AE
open Go

def cut5 (s : ByteArray) : Int := if 5000 < (s.size : Int) then 5000 else (s.size : Int)
theorem cut5_in (s : ByteArray) : 0 ≤ cut5 s ∧ cut5 s ≤ 5000 := by unfold cut5; split <;> omega

theorem weight_l1 (a : List ByteArray) (b : List TProp) (hb : b.length ≤ 20) : ∀ (d i : Nat) (x : Int), i + d = b.length → 0 ≤ x → x ≤ 100000 + 10000 * i → ∃ r, V.pleachref26_weight.l1111010 a b x (i : Int) = some r ∧ 0 ≤ r ∧ r ≤ 300000
  | 0, i, x, h, h0, h1 => by
    refine ⟨x, ?_, h0, by omega⟩
    refine V.pleachref26_weight.l1111010.of _ _ _ _ ?_
    unfold F.pleachref26_weight.l1111010.B
    rw [if_out (by omega)]
  | d + 1, i, x, h, h0, h1 => by
    have hi : i < b.length := by omega
    have c1 := cut5_in (rd sProp b i).1
    have c2 := cut5_in (rd sProp b i).2.2.2
    obtain ⟨r, hr, g⟩ := weight_l1 a b hb d (i + 1) (x + cut5 (rd sProp b i).1 + cut5 (rd sProp b i).2.2.2) (by omega) (by omega) (by omega)
    refine ⟨r, ?_, g⟩
    refine V.pleachref26_weight.l1111010.of _ _ _ _ ?_
    unfold F.pleachref26_weight.l1111010.B
    rw [if_in hi, guard_in hi, guard_in hi, nat_cast, w64_up (n := b.length) hi (by omega)]
    show V.pleachref26_weight.l1111010 a b (w64 (w64 (x + cut5 (rd sProp b i).1) + cut5 (rd sProp b i).2.2.2)) _ = _
    rw [w64_id (x := x + cut5 (rd sProp b i).1) (by omega) (by omega), w64_id (by omega) (by omega)]
    exact hr
theorem weight_l0 (a : List ByteArray) (b : List TProp) (ha : a.length ≤ 20) (hb : b.length ≤ 20) : ∀ (d i : Nat) (x : Int), i + d = a.length → 0 ≤ x → x ≤ 5000 * i → ∃ r, V.pleachref26_weight.l111010 a b x (i : Int) = some r ∧ 0 ≤ r ∧ r ≤ 300000
  | 0, i, x, h, h0, h1 => by
    obtain ⟨r, hr, g⟩ := weight_l1 a b hb b.length 0 x (by omega) h0 (by omega)
    refine ⟨r, ?_, g⟩
    refine V.pleachref26_weight.l111010.of _ _ _ _ ?_
    unfold F.pleachref26_weight.l111010.B
    rw [if_out (by omega)]
    exact hr
  | d + 1, i, x, h, h0, h1 => by
    have hi : i < a.length := by omega
    have c1 := cut5_in (rd .str a i)
    obtain ⟨r, hr, g⟩ := weight_l0 a b ha hb d (i + 1) (x + cut5 (rd .str a i)) (by omega) (by omega) (by omega)
    refine ⟨r, ?_, g⟩
    refine V.pleachref26_weight.l111010.of _ _ _ _ ?_
    unfold F.pleachref26_weight.l111010.B
    rw [if_in hi, guard_in hi, nat_cast, w64_up (n := a.length) hi (by omega)]
    show V.pleachref26_weight.l111010 a b (w64 (x + cut5 (rd .str a i))) _ = _
    rw [w64_id (by omega) (by omega)]
    exact hr
theorem weight_ok (a : List ByteArray) (b : List TProp) : ∃ r, V.pleachref26_weight a b = some r ∧ 0 ≤ r ∧ r ≤ 300000 ∧ (r ≤ 5000 → a.length ≤ 20 ∧ b.length ≤ 20) := by
  by_cases ha : a.length > 20
  · refine ⟨100000, V.pleachref26_weight.of _ _ ?_, by omega, by omega, by omega⟩
    unfold F.pleachref26_weight.B
    rw [if_yes (by omega)]
  · by_cases hb : b.length > 20
    · refine ⟨100000, V.pleachref26_weight.of _ _ ?_, by omega, by omega, by omega⟩
      unfold F.pleachref26_weight.B
      rw [if_no (by omega), if_yes (by omega)]
    · obtain ⟨r, hr, h0, h1⟩ := weight_l0 a b (by omega) (by omega) a.length 0 0 (by omega) (by omega) (by omega)
      refine ⟨r, V.pleachref26_weight.of _ _ ?_, h0, h1, fun _ => ⟨by omega, by omega⟩⟩
      unfold F.pleachref26_weight.B
      rw [if_no (by omega), if_no (by omega)]
      exact hr

structure Slim (g : TGraph) : Prop where
  ns : g.1.length ≤ 40
  es : g.2.length ≤ 60
  n : ∀ n ∈ g.1, n.2.1.length ≤ 20 ∧ n.2.2.length ≤ 20
  e : ∀ x ∈ g.2, x.2.2.2.1.length ≤ 20 ∧ x.2.2.2.2.length ≤ 20

theorem Few_l1 (g : TGraph) (hs : g.2.length ≤ 60) : ∀ (d i : Nat) (x : Int), i + d = g.2.length → 0 ≤ x → x ≤ 40000000 + 400000 * i → ∃ b, V.pleachref26_Few.l1111010 g x (i : Int) = some b ∧ (b = true → x ≤ 5000 ∧ ∀ j, i ≤ j → j < g.2.length → (rd sEdge g.2 j).2.2.2.1.length ≤ 20 ∧ (rd sEdge g.2 j).2.2.2.2.length ≤ 20)
  | 0, i, x, h, h0, h1 => by
    refine ⟨decide (x ≤ 5000), ?_, fun hb => ⟨by simpa using hb, fun j g1 g2 => by omega⟩⟩
    refine V.pleachref26_Few.l1111010.of _ _ _ ?_
    unfold F.pleachref26_Few.l1111010.B
    rw [if_out (by omega)]
  | d + 1, i, x, h, h0, h1 => by
    have hi : i < g.2.length := by omega
    obtain ⟨w, hw, w0, w1, w2⟩ := weight_ok (rd sEdge g.2 i).2.2.2.1 (rd sEdge g.2 i).2.2.2.2
    have c1 := cut5_in (rd sEdge g.2 i).1
    have c2 := cut5_in (rd sEdge g.2 i).2.1
    have c3 := cut5_in (rd sEdge g.2 i).2.2.1
    obtain ⟨b, hb, g⟩ := Few_l1 g hs d (i + 1) (x + cut5 (rd sEdge g.2 i).1 + cut5 (rd sEdge g.2 i).2.1 + cut5 (rd sEdge g.2 i).2.2.1 + w) (by omega) (by omega) (by omega)
    refine ⟨b, ?_, fun ht => ⟨by have := (g ht).1; omega, fun j g1 g2 => ?_⟩⟩
    · refine V.pleachref26_Few.l1111010.of _ _ _ ?_
      unfold F.pleachref26_Few.l1111010.B
      rw [if_in hi, guard_in hi, nat_cast, w64_up (n := 60) (by omega) (by omega), hw, Option.bind_some]
      show V.pleachref26_Few.l1111010 _ (w64 (w64 (w64 (w64 (x + cut5 (rd sEdge _ i).1) + cut5 (rd sEdge _ i).2.1) + cut5 (rd sEdge _ i).2.2.1) + w)) _ = _
      rw [w64_id (x := x + cut5 (rd sEdge _ i).1) (by omega) (by omega), w64_id (x := x + cut5 (rd sEdge _ i).1 + cut5 (rd sEdge _ i).2.1) (by omega) (by omega), w64_id (x := x + cut5 (rd sEdge _ i).1 + cut5 (rd sEdge _ i).2.1 + cut5 (rd sEdge _ i).2.2.1) (by omega) (by omega), w64_id (by omega) (by omega)]
      exact hb
    · rcases Nat.eq_or_lt_of_le g1 with e | e
      · subst e; exact w2 (by have := (g ht).1; omega)
      · exact (g ht).2 j e g2
theorem Few_l0 (g : TGraph) (hn : g.1.length ≤ 40) (hs : g.2.length ≤ 60) : ∀ (d i : Nat) (x : Int), i + d = g.1.length → 0 ≤ x → x ≤ 400000 * i → ∃ b, V.pleachref26_Few.l111010 g x (i : Int) = some b ∧ (b = true → x ≤ 5000 ∧ (∀ j, i ≤ j → j < g.1.length → (rd sNode g.1 j).2.1.length ≤ 20 ∧ (rd sNode g.1 j).2.2.length ≤ 20) ∧ ∀ j, j < g.2.length → (rd sEdge g.2 j).2.2.2.1.length ≤ 20 ∧ (rd sEdge g.2 j).2.2.2.2.length ≤ 20)
  | 0, i, x, h, h0, h1 => by
    obtain ⟨b, hb, q⟩ := Few_l1 g hs g.2.length 0 x (by omega) h0 (by omega)
    refine ⟨b, ?_, fun ht => ⟨(q ht).1, fun j g1 g2 => by omega, fun j g2 => (q ht).2 j (by omega) g2⟩⟩
    refine V.pleachref26_Few.l111010.of _ _ _ ?_
    unfold F.pleachref26_Few.l111010.B
    rw [if_out (by omega)]
    exact hb
  | d + 1, i, x, h, h0, h1 => by
    have hi : i < g.1.length := by omega
    obtain ⟨w, hw, w0, w1, w2⟩ := weight_ok (rd sNode g.1 i).2.1 (rd sNode g.1 i).2.2
    have c1 := cut5_in (rd sNode g.1 i).1
    obtain ⟨b, hb, q⟩ := Few_l0 g hn hs d (i + 1) (x + cut5 (rd sNode g.1 i).1 + w) (by omega) (by omega) (by omega)
    refine ⟨b, ?_, fun ht => ⟨by have := (q ht).1; omega, fun j g1 g2 => ?_, (q ht).2.2⟩⟩
    · refine V.pleachref26_Few.l111010.of _ _ _ ?_
      unfold F.pleachref26_Few.l111010.B
      rw [if_in hi, guard_in hi, guard_in hi, guard_in hi, nat_cast, w64_up (n := 60) (by omega) (by omega), hw, Option.bind_some]
      show V.pleachref26_Few.l111010 _ (w64 (w64 (x + cut5 (rd sNode _ i).1) + w)) _ = _
      rw [w64_id (x := x + cut5 (rd sNode _ i).1) (by omega) (by omega), w64_id (by omega) (by omega)]
      exact hb
    · rcases Nat.eq_or_lt_of_le g1 with e | e
      · subst e; exact w2 (by have := (q ht).1; omega)
      · exact (q ht).2.1 j e g2
theorem Few_ok (g : TGraph) : ∃ b, V.pleachref26_Few g = some b ∧ (b = true → Slim g) := by
  by_cases h1 : g.1.length > 40
  · refine ⟨false, V.pleachref26_Few.of _ ?_, by simp⟩
    unfold F.pleachref26_Few.B
    rw [if_yes (by omega)]
  · by_cases h2 : g.2.length > 60
    · refine ⟨false, V.pleachref26_Few.of _ ?_, by simp⟩
      unfold F.pleachref26_Few.B
      rw [if_no (by omega), if_yes (by omega)]
    · obtain ⟨b, hb, q⟩ := Few_l0 g (by omega) (by omega) g.1.length 0 0 (by omega) (by omega) (by omega)
      refine ⟨b, V.pleachref26_Few.of _ ?_, fun ht => ⟨by omega, by omega, fun n hn => ?_, fun x hx => ?_⟩⟩
      · unfold F.pleachref26_Few.B
        rw [if_no (by omega), if_no (by omega)]
        exact hb
      · obtain ⟨i, hi, e⟩ := List.getElem_of_mem hn
        have := (q ht).2.1 i (by omega) hi
        rw [rd_get (e := sNode) hi, e] at this
        exact this
      · obtain ⟨i, hi, e⟩ := List.getElem_of_mem hx
        have := (q ht).2.2 i hi
        rw [rd_get (e := sEdge) hi, e] at this
        exact this

end Go.Proofs.YthbaafcoidjflaaGreatDoor.AE
end
section
set_option linter.unusedVariables false
set_option linter.unusedSimpArgs false
namespace Go.Proofs.YthbaafcoidjflaaGreatDoor.AE
open Go

theorem showB_le (v : TValue) (hb : in64 v.2.1) : (showB v).size ≤ 1000 := by
  unfold showB
  split
  · rename_i hv
    obtain ⟨hk, ht⟩ := value_kind hv
    split
    · split <;> (show _ ≤ _; decide)
    · split
      · have := itoaS_size hb.1 hb.2; omega
      · split
        · rw [one_app]; omega
        · rw [one_app, hexB_size]; omega
  · show 0 ≤ 1000; omega
def labW (s : ByteArray) : ByteArray := (⟨#[32, 58]⟩ : ByteArray) ++ s
def propW (p : TProp) : ByteArray := (((⟨#[32]⟩ : ByteArray) ++ p.1) ++ (⟨#[61]⟩ : ByteArray)) ++ showB p.2
def catW {α : Type} (f : α → ByteArray) (l : List α) (x : ByteArray) : ByteArray := l.foldl (fun x s => x ++ f s) x
theorem catW_nil {α : Type} (f : α → ByteArray) (l : List α) (i : Nat) (h : l.length ≤ i) (x : ByteArray) : catW f (l.drop i) x = x := by rw [List.drop_eq_nil_of_le h]; rfl
theorem catW_step {α : Type} (f : α → ByteArray) (l : List α) (i : Nat) (h : i < l.length) (x : ByteArray) : catW f (l.drop i) x = catW f (l.drop (i + 1)) (x ++ f l[i]) := by rw [List.drop_eq_getElem_cons h]; rfl
theorem catW_size {α : Type} (f : α → ByteArray) (B : Nat) : ∀ (l : List α) (x : ByteArray), (∀ a ∈ l, (f a).size ≤ B) → (catW f l x).size ≤ x.size + l.length * B
  | [], x, h => by show x.size ≤ _; omega
  | a :: l, x, h => by
    have := catW_size f B l (x ++ f a) (fun b hb => h b (List.mem_cons_of_mem _ hb))
    have h1 := h a List.mem_cons_self
    rw [ByteArray.size_append] at this
    show (catW f l (x ++ f a)).size ≤ _
    simp only [List.length_cons, Nat.add_mul, Nat.one_mul]
    omega
theorem labW_size (s : ByteArray) (h : s.size ≤ 140737488351232) : (labW s).size ≤ 1000000000000000 := by
  unfold labW; rw [ByteArray.size_append]; show 2 + _ ≤ _; omega
theorem propW_size (p : TProp) (h : p.1.size ≤ 140737488351232) (hb : in64 p.2.2.1) : (propW p).size ≤ 1000000000000000 := by
  have := showB_le p.2 hb
  unfold propW; rw [ByteArray.size_append, ByteArray.size_append, ByteArray.size_append]; show 1 + _ + 1 + _ ≤ _; omega
def elemW (a : List ByteArray) (b : List TProp) : ByteArray := catW propW b (catW labW a (⟨#[]⟩ : ByteArray))
theorem elemW_size {a : List ByteArray} {b : List TProp} (ha : a.length ≤ 20) (hb : b.length ≤ 20) (h1 : ∀ s ∈ a, s.size ≤ 140737488351232) (h2 : ∀ p ∈ b, p.1.size ≤ 140737488351232 ∧ in64 p.2.2.1) : (elemW a b).size ≤ 100000000000000000 := by
  have g1 := catW_size labW 1000000000000000 a (⟨#[]⟩ : ByteArray) (fun s hs => labW_size s (h1 s hs))
  have g2 := catW_size propW 1000000000000000 b (catW labW a (⟨#[]⟩ : ByteArray)) (fun p hp => propW_size p (h2 p hp).1 (h2 p hp).2)
  have e : (⟨#[]⟩ : ByteArray).size = 0 := rfl
  unfold elemW
  omega
/-- Bounds on a row of words. -/
structure FineW (a : List ByteArray) (b : List TProp) : Prop where
  la : a.length ≤ 20
  lb : b.length ≤ 20
  ha : ∀ s ∈ a, s.size ≤ 140737488351232
  hb : ∀ p ∈ b, p.1.size ≤ 140737488351232 ∧ in64 p.2.2.1
def nodeW (n : TNode) : ByteArray := ((⟨#[110, 111, 100, 101, 32]⟩ : ByteArray) ++ n.1) ++ elemW n.2.1 n.2.2
def edgeW (x : TEdge) : ByteArray := ((((((⟨#[101, 100, 103, 101, 32]⟩ : ByteArray) ++ x.1) ++ (⟨#[32]⟩ : ByteArray)) ++ x.2.1) ++ (⟨#[32]⟩ : ByteArray)) ++ x.2.2.1) ++ elemW x.2.2.2.1 x.2.2.2.2
def graphW (g : TGraph) : List ByteArray := g.1.map nodeW ++ g.2.map edgeW
structure FineG (g : TGraph) : Prop where
  slim : Slim g
  n : ∀ n ∈ g.1, n.1.size ≤ 140737488351232 ∧ FineW n.2.1 n.2.2
  e : ∀ x ∈ g.2, x.1.size ≤ 140737488351232 ∧ x.2.1.size ≤ 140737488351232 ∧ x.2.2.1.size ≤ 140737488351232 ∧ FineW x.2.2.2.1 x.2.2.2.2

theorem ln_l1 {a : List ByteArray} {b : List TProp} (h : FineW a b) : ∀ (d i : Nat) (x : ByteArray), i + d = b.length → x.size ≤ 20000000000001000 + i * 1000000000000000 → V.line_element.l111010 a b x (i : Int) = some (catW propW (b.drop i) x)
  | 0, i, x, hi, hx => by
    apply V.line_element.l111010.of; unfold F.line_element.l111010.B
    rw [if_out (by omega), catW_nil _ _ _ (by omega)]
  | d + 1, i, x, hi, hx => by
    have hl := h.lb
    have hi' : i < b.length := by omega
    have hp := h.hb _ (List.getElem_mem hi')
    have hs := showB_le b[i].2 hp.2
    have z1 : (⟨#[32]⟩ : ByteArray).size = 1 := rfl
    have z2 : (⟨#[61]⟩ : ByteArray).size = 1 := rfl
    have hw := propW_size _ hp.1 hp.2
    have ih := ln_l1 h d (i + 1) (x ++ propW b[i]) (by omega) (by rw [ByteArray.size_append]; simp only [Nat.add_mul]; omega)
    have hr : rd sProp b i = b[i] := rd_get (e := sProp) hi'
    apply V.line_element.l111010.of; unfold F.line_element.l111010.B
    rw [if_in hi', guard_in hi', nat_cast, hr, w64_up (n := 60) (by omega) (by omega)]
    have hv : V.value_Show (b[i].2.1, b[i].2.2.1, b[i].2.2.2) = some (showB b[i].2) := value_Show_ok b[i].2 hp.2
    rw [hv, Option.bind_some]
    rw [catW_step _ _ _ hi', ← ih]
    have hxx : x.size ≤ 50000000000000000 := by omega
    rw [guard_dec (by simp only [ByteArray.size_append, i64max, z1, z2]; omega), guard_dec (by simp only [ByteArray.size_append, i64max, z1, z2]; omega), guard_dec (by simp only [ByteArray.size_append, i64max, z1, z2]; omega), guard_dec (by simp only [ByteArray.size_append, i64max, z1, z2]; omega)]
    rfl
theorem ln_l0 {a : List ByteArray} {b : List TProp} (h : FineW a b) : ∀ (d i : Nat) (x : ByteArray), i + d = a.length → x.size ≤ 1000 + i * 1000000000000000 → V.line_element.l11010 a b x (i : Int) = some (catW propW b (catW labW (a.drop i) x))
  | 0, i, x, hi, hx => by
    have hl := h.la
    apply V.line_element.l11010.of; unfold F.line_element.l11010.B
    rw [if_out (by omega), catW_nil _ _ _ (by omega)]
    exact ln_l1 h b.length 0 x (by omega) (by omega)
  | d + 1, i, x, hi, hx => by
    have hl := h.la
    have hi' : i < a.length := by omega
    have hp := h.ha _ (List.getElem_mem hi')
    have hw := labW_size _ hp
    have z1 : (⟨#[32, 58]⟩ : ByteArray).size = 2 := rfl
    have ih := ln_l0 h d (i + 1) (x ++ labW a[i]) (by omega) (by rw [ByteArray.size_append]; simp only [Nat.add_mul]; omega)
    have hr : rd .str a i = a[i] := rd_get (e := .str) hi'
    apply V.line_element.l11010.of; unfold F.line_element.l11010.B
    rw [if_in hi', guard_in hi', nat_cast, hr, w64_up (n := 60) (by omega) (by omega), catW_step _ _ _ hi', ← ih]
    have hxx : x.size ≤ 50000000000000000 := by omega
    rw [guard_dec (by simp only [ByteArray.size_append, i64max, z1]; omega), guard_dec (by simp only [ByteArray.size_append, i64max, z1]; omega)]
    rfl
theorem ln_elem {a : List ByteArray} {b : List TProp} (h : FineW a b) : V.line_element a b = some (elemW a b) := by
  apply V.line_element.of; unfold F.line_element.B
  exact ln_l0 h a.length 0 (⟨#[]⟩ : ByteArray) (by omega) (by show 0 ≤ _; omega)
theorem ln_g1 {g : TGraph} (h : FineG g) : ∀ (d i : Nat) (acc : List ByteArray), i + d = g.2.length → acc.length ≤ 1000 + i → V.line_Graph.l111010 g (i : Int) acc = some (acc ++ (g.2.drop i).map edgeW)
  | 0, i, acc, hi, ha => by
    apply V.line_Graph.l111010.of; unfold F.line_Graph.l111010.B
    rw [if_out (by omega), List.drop_eq_nil_of_le (by omega), List.map_nil, List.append_nil]
  | d + 1, i, acc, hi, ha => by
    have hl := h.slim.es
    have hi' : i < g.2.length := by omega
    obtain ⟨p1, p2, p3, p4⟩ := h.e _ (List.getElem_mem hi')
    have hs := elemW_size p4.la p4.lb p4.ha p4.hb
    have ih := ln_g1 h d (i + 1) (acc ++ [edgeW g.2[i]]) (by omega) (by simp; omega)
    have hr : rd sEdge g.2 i = g.2[i] := rd_get (e := sEdge) hi'
    have z1 : (⟨#[32]⟩ : ByteArray).size = 1 := rfl
    have z2 : (⟨#[101, 100, 103, 101, 32]⟩ : ByteArray).size = 5 := rfl
    apply V.line_Graph.l111010.of; unfold F.line_Graph.l111010.B
    rw [if_in hi', guard_in hi', nat_cast, hr, w64_up (n := 60) (by omega) (by omega), ln_elem p4, Option.bind_some]
    rw [List.drop_eq_getElem_cons hi', List.map_cons, show acc ++ edgeW g.2[i] :: List.map edgeW (List.drop (i + 1) g.2) = (acc ++ [edgeW g.2[i]]) ++ List.map edgeW (List.drop (i + 1) g.2) by simp, ← ih]
    iterate 5 rw [guard_dec (by simp only [ByteArray.size_append, i64max, z1, z2]; omega)]
    rw [guard_dec (by simp only [ByteArray.size_append, i64max, z1, z2]; omega), guard_dec (by simp only [nmax, List.length_cons, List.length_nil]; omega)]
    rfl
theorem ln_g0 {g : TGraph} (h : FineG g) : ∀ (d i : Nat) (acc : List ByteArray), i + d = g.1.length → acc.length ≤ i → V.line_Graph.l11010 g (i : Int) acc = some (acc ++ (g.1.drop i).map nodeW ++ g.2.map edgeW)
  | 0, i, acc, hi, ha => by
    have hl := h.slim.ns
    apply V.line_Graph.l11010.of; unfold F.line_Graph.l11010.B
    rw [if_out (by omega), List.drop_eq_nil_of_le (by omega), List.map_nil, List.append_nil]
    exact ln_g1 h g.2.length 0 acc (by omega) (by omega)
  | d + 1, i, acc, hi, ha => by
    have hl := h.slim.ns
    have hi' : i < g.1.length := by omega
    obtain ⟨p1, p4⟩ := h.n _ (List.getElem_mem hi')
    have hs := elemW_size p4.la p4.lb p4.ha p4.hb
    have ih := ln_g0 h d (i + 1) (acc ++ [nodeW g.1[i]]) (by omega) (by simp; omega)
    have hr : rd sNode g.1 i = g.1[i] := rd_get (e := sNode) hi'
    have z2 : (⟨#[110, 111, 100, 101, 32]⟩ : ByteArray).size = 5 := rfl
    apply V.line_Graph.l11010.of; unfold F.line_Graph.l11010.B
    rw [if_in hi', guard_in hi', nat_cast, hr, w64_up (n := 60) (by omega) (by omega), ln_elem p4, Option.bind_some]
    rw [List.drop_eq_getElem_cons hi', List.map_cons, show acc ++ nodeW g.1[i] :: List.map nodeW (List.drop (i + 1) g.1) = (acc ++ [nodeW g.1[i]]) ++ List.map nodeW (List.drop (i + 1) g.1) by simp, ← ih]
    rw [guard_dec (by simp only [ByteArray.size_append, i64max, z2]; omega), guard_dec (by simp only [ByteArray.size_append, i64max, z2]; omega), guard_dec (by simp only [nmax, List.length_cons, List.length_nil]; omega)]
    rfl
theorem ln_Graph {g : TGraph} (h : FineG g) : V.line_Graph g = some (graphW g) := by
  apply V.line_Graph.of; unfold F.line_Graph.B
  exact ln_g0 h g.1.length 0 [] (by omega) (by simp)

theorem rl_l1 {a : List ByteArray} {b : List TProp} (h : FineW a b) : ∀ (d i : Nat) (x : ByteArray), i + d = b.length → x.size ≤ 20000000000001000 + i * 1000000000000000 → V.pleachref43_element.l111010 a b x (i : Int) = some (catW propW (b.drop i) x)
  | 0, i, x, hi, hx => by
    apply V.pleachref43_element.l111010.of; unfold F.pleachref43_element.l111010.B
    rw [if_out (by omega), catW_nil _ _ _ (by omega)]
  | d + 1, i, x, hi, hx => by
    have hl := h.lb
    have hi' : i < b.length := by omega
    have hp := h.hb _ (List.getElem_mem hi')
    have hs := showB_le b[i].2 hp.2
    have z1 : (⟨#[32]⟩ : ByteArray).size = 1 := rfl
    have z2 : (⟨#[61]⟩ : ByteArray).size = 1 := rfl
    have hw := propW_size _ hp.1 hp.2
    have ih := rl_l1 h d (i + 1) (x ++ propW b[i]) (by omega) (by rw [ByteArray.size_append]; simp only [Nat.add_mul]; omega)
    have hr : rd sProp b i = b[i] := rd_get (e := sProp) hi'
    apply V.pleachref43_element.l111010.of; unfold F.pleachref43_element.l111010.B
    rw [if_in hi', guard_in hi', nat_cast, hr, w64_up (n := 60) (by omega) (by omega)]
    have hv : V.pleachref06_Show (b[i].2.1, b[i].2.2.1, b[i].2.2.2) = some (showB b[i].2) := refShow_ok b[i].2 hp.2
    rw [hv, Option.bind_some]
    rw [catW_step _ _ _ hi', ← ih]
    have hxx : x.size ≤ 50000000000000000 := by omega
    rw [guard_dec (by simp only [ByteArray.size_append, i64max, z1, z2]; omega), guard_dec (by simp only [ByteArray.size_append, i64max, z1, z2]; omega), guard_dec (by simp only [ByteArray.size_append, i64max, z1, z2]; omega), guard_dec (by simp only [ByteArray.size_append, i64max, z1, z2]; omega)]
    rw [show (((x ++ (⟨#[32]⟩ : ByteArray)) ++ b[i].1) ++ (⟨#[61]⟩ : ByteArray)) ++ showB b[i].2 = x ++ propW b[i] by unfold propW; simp only [ByteArray.append_assoc]]
theorem rl_l0 {a : List ByteArray} {b : List TProp} (h : FineW a b) : ∀ (d i : Nat) (x : ByteArray), i + d = a.length → x.size ≤ 1000 + i * 1000000000000000 → V.pleachref43_element.l11010 a b x (i : Int) = some (catW propW b (catW labW (a.drop i) x))
  | 0, i, x, hi, hx => by
    have hl := h.la
    apply V.pleachref43_element.l11010.of; unfold F.pleachref43_element.l11010.B
    rw [if_out (by omega), catW_nil _ _ _ (by omega)]
    exact rl_l1 h b.length 0 x (by omega) (by omega)
  | d + 1, i, x, hi, hx => by
    have hl := h.la
    have hi' : i < a.length := by omega
    have hp := h.ha _ (List.getElem_mem hi')
    have hw := labW_size _ hp
    have z1 : (⟨#[32, 58]⟩ : ByteArray).size = 2 := rfl
    have ih := rl_l0 h d (i + 1) (x ++ labW a[i]) (by omega) (by rw [ByteArray.size_append]; simp only [Nat.add_mul]; omega)
    have hr : rd .str a i = a[i] := rd_get (e := .str) hi'
    apply V.pleachref43_element.l11010.of; unfold F.pleachref43_element.l11010.B
    rw [if_in hi', guard_in hi', nat_cast, hr, w64_up (n := 60) (by omega) (by omega), catW_step _ _ _ hi', ← ih]
    have hxx : x.size ≤ 50000000000000000 := by omega
    rw [guard_dec (by simp only [ByteArray.size_append, i64max, z1]; omega), guard_dec (by simp only [ByteArray.size_append, i64max, z1]; omega)]
    rw [show (x ++ (⟨#[32, 58]⟩ : ByteArray)) ++ a[i] = x ++ labW a[i] by unfold labW; rw [ByteArray.append_assoc]]
theorem rl_elem {a : List ByteArray} {b : List TProp} (h : FineW a b) : V.pleachref43_element a b = some (elemW a b) := by
  apply V.pleachref43_element.of; unfold F.pleachref43_element.B
  exact rl_l0 h a.length 0 (⟨#[]⟩ : ByteArray) (by omega) (by show 0 ≤ _; omega)
theorem rl_g1 {g : TGraph} (h : FineG g) : ∀ (d i : Nat) (acc : List ByteArray), i + d = g.2.length → acc.length ≤ 1000 + i → V.pleachref43_Graph.l111010 g (i : Int) acc = some (acc ++ (g.2.drop i).map edgeW)
  | 0, i, acc, hi, ha => by
    apply V.pleachref43_Graph.l111010.of; unfold F.pleachref43_Graph.l111010.B
    rw [if_out (by omega), List.drop_eq_nil_of_le (by omega), List.map_nil, List.append_nil]
  | d + 1, i, acc, hi, ha => by
    have hl := h.slim.es
    have hi' : i < g.2.length := by omega
    obtain ⟨p1, p2, p3, p4⟩ := h.e _ (List.getElem_mem hi')
    have hs := elemW_size p4.la p4.lb p4.ha p4.hb
    have ih := rl_g1 h d (i + 1) (acc ++ [edgeW g.2[i]]) (by omega) (by simp; omega)
    have hr : rd sEdge g.2 i = g.2[i] := rd_get (e := sEdge) hi'
    have z1 : (⟨#[32]⟩ : ByteArray).size = 1 := rfl
    have z2 : (⟨#[101, 100, 103, 101, 32]⟩ : ByteArray).size = 5 := rfl
    apply V.pleachref43_Graph.l111010.of; unfold F.pleachref43_Graph.l111010.B
    rw [if_in hi', guard_in hi', nat_cast, hr, w64_up (n := 60) (by omega) (by omega), rl_elem p4, Option.bind_some]
    rw [List.drop_eq_getElem_cons hi', List.map_cons, show acc ++ edgeW g.2[i] :: List.map edgeW (List.drop (i + 1) g.2) = (acc ++ [edgeW g.2[i]]) ++ List.map edgeW (List.drop (i + 1) g.2) by simp, ← ih]
    iterate 5 rw [guard_dec (by simp only [ByteArray.size_append, i64max, z1, z2]; omega)]
    rw [guard_dec (by simp only [ByteArray.size_append, i64max, z1, z2]; omega), guard_dec (by simp only [nmax, List.length_cons, List.length_nil]; omega)]
    rfl
theorem rl_g0 {g : TGraph} (h : FineG g) : ∀ (d i : Nat) (acc : List ByteArray), i + d = g.1.length → acc.length ≤ i → V.pleachref43_Graph.l11010 g (i : Int) acc = some (acc ++ (g.1.drop i).map nodeW ++ g.2.map edgeW)
  | 0, i, acc, hi, ha => by
    have hl := h.slim.ns
    apply V.pleachref43_Graph.l11010.of; unfold F.pleachref43_Graph.l11010.B
    rw [if_out (by omega), List.drop_eq_nil_of_le (by omega), List.map_nil, List.append_nil]
    exact rl_g1 h g.2.length 0 acc (by omega) (by omega)
  | d + 1, i, acc, hi, ha => by
    have hl := h.slim.ns
    have hi' : i < g.1.length := by omega
    obtain ⟨p1, p4⟩ := h.n _ (List.getElem_mem hi')
    have hs := elemW_size p4.la p4.lb p4.ha p4.hb
    have ih := rl_g0 h d (i + 1) (acc ++ [nodeW g.1[i]]) (by omega) (by simp; omega)
    have hr : rd sNode g.1 i = g.1[i] := rd_get (e := sNode) hi'
    have z2 : (⟨#[110, 111, 100, 101, 32]⟩ : ByteArray).size = 5 := rfl
    apply V.pleachref43_Graph.l11010.of; unfold F.pleachref43_Graph.l11010.B
    rw [if_in hi', guard_in hi', nat_cast, hr, w64_up (n := 60) (by omega) (by omega), rl_elem p4, Option.bind_some]
    rw [List.drop_eq_getElem_cons hi', List.map_cons, show acc ++ nodeW g.1[i] :: List.map nodeW (List.drop (i + 1) g.1) = (acc ++ [nodeW g.1[i]]) ++ List.map nodeW (List.drop (i + 1) g.1) by simp, ← ih]
    rw [guard_dec (by simp only [ByteArray.size_append, i64max, z2]; omega), guard_dec (by simp only [ByteArray.size_append, i64max, z2]; omega), guard_dec (by simp only [nmax, List.length_cons, List.length_nil]; omega)]
    rfl
theorem rl_Graph {g : TGraph} (h : FineG g) : V.pleachref43_Graph g = some (graphW g) := by
  apply V.pleachref43_Graph.of; unfold F.pleachref43_Graph.B
  exact rl_g0 h g.1.length 0 [] (by omega) (by simp)

theorem Texts_l (l : List ByteArray) (hl : l.length ≤ 1000) : ∀ (d i : Nat), i + d = l.length → V.pleachplain_Texts.l11010 l l (i : Int) = some true
  | 0, i, h => by
    apply V.pleachplain_Texts.l11010.of; unfold F.pleachplain_Texts.l11010.B
    rw [if_out (by omega)]
  | d + 1, i, h => by
    have hi : i < l.length := by omega
    apply V.pleachplain_Texts.l11010.of; unfold F.pleachplain_Texts.l11010.B
    rw [if_in hi, guard_in hi, guard_in hi, strEq_self, Bool.not_true, cond_false, w64_up (n := 1000) (by omega) (by omega)]
    exact Texts_l l hl d (i + 1) (by omega)
theorem Texts_same (l : List ByteArray) (hl : l.length ≤ 1000) : V.pleachplain_Texts l l = some true := by
  apply V.pleachplain_Texts.of; unfold F.pleachplain_Texts.B
  rw [show ((l.length : Int) != (l.length : Int)) = false by simp, cond_false]
  exact Texts_l l hl l.length 0 (by omega)

/-! ### Numbers as words -/
def numsW : List Int → ByteArray
  | [] => ⟨#[]⟩
  | n :: l => catW (fun n => (⟨#[32]⟩ : ByteArray) ++ itoaS n) l (itoaS n)
theorem join_cat : ∀ (l : List Int) (x : ByteArray), (⟨(Lib.join (x.data.toList :: l.map fun n => (itoaS n).data.toList) [32]).toArray⟩ : ByteArray) = catW (fun n => (⟨#[32]⟩ : ByteArray) ++ itoaS n) l x
  | [], x => by
    show (⟨(Lib.join [x.data.toList] [32]).toArray⟩ : ByteArray) = x
    unfold Lib.join
    simp [List.intercalate]
  | n :: l, x => by
    rw [show catW (fun n => (⟨#[32]⟩ : ByteArray) ++ itoaS n) (n :: l) x = catW (fun n => (⟨#[32]⟩ : ByteArray) ++ itoaS n) l (x ++ ((⟨#[32]⟩ : ByteArray) ++ itoaS n)) from rfl, ← join_cat l]
    congr 2
    unfold Lib.join
    rw [List.map_cons]
    have e : (x ++ ((⟨#[32]⟩ : ByteArray) ++ itoaS n)).data.toList = x.data.toList ++ ([32] ++ (itoaS n).data.toList) := by simp
    rw [e]
    cases hm : l.map (fun n => (itoaS n).data.toList) with
    | nil => simp [List.intercalate, List.intersperse]
    | cons a r => simp [List.intercalate, List.intersperse]
theorem numsW_join (l : List Int) : joinB (l.map itoaS) (⟨#[32]⟩ : ByteArray) = numsW l := by
  cases l with
  | nil => rfl
  | cons n l =>
    rw [show numsW (n :: l) = catW (fun n => (⟨#[32]⟩ : ByteArray) ++ itoaS n) l (itoaS n) from rfl, ← join_cat l (itoaS n)]
    unfold joinB
    rw [List.map_cons, List.map_cons, List.map_map]
    rfl
theorem numsW_size (l : List Int) (hl : l.length ≤ 100) (h : ∀ n ∈ l, in64 n) : (numsW l).size ≤ 10000 := by
  cases l with
  | nil => show 0 ≤ _; omega
  | cons n l =>
    have h1 := itoaS_size (h n List.mem_cons_self).1 (h n List.mem_cons_self).2
    have := catW_size (fun n => (⟨#[32]⟩ : ByteArray) ++ itoaS n) 22 l (itoaS n) (fun m hm => by
      have hh := h m (List.mem_cons_of_mem _ hm)
      have := itoaS_size hh.1 hh.2
      show ((⟨#[32]⟩ : ByteArray) ++ itoaS m).size ≤ 22
      rw [one_app]; omega)
    simp only [List.length_cons] at hl
    rw [show numsW (n :: l) = catW (fun n => (⟨#[32]⟩ : ByteArray) ++ itoaS n) l (itoaS n) from rfl]
    omega
theorem Nums_l (l : List Int) (hl : l.length ≤ 100) (h : ∀ n ∈ l, in64 n) : ∀ (d i : Nat) (acc : List ByteArray), i + d = l.length → acc = (l.take i).map itoaS → V.line_Nums.l11010 l (i : Int) acc = some (numsW l)
  | 0, i, acc, hi, ha => by
    apply V.line_Nums.l11010.of; unfold F.line_Nums.l11010.B
    rw [List.take_of_length_le (by omega)] at ha
    subst ha
    have hz := numsW_size l hl h
    have e : V.strings_Join (l.map itoaS) (⟨#[32]⟩ : ByteArray) = some (numsW l) := by
      apply V.strings_Join.of; unfold F.strings_Join.B
      unfold joinF
      rw [numsW_join, guard_of (by simp; omega)]
    rw [if_out (by omega), e]; rfl
  | d + 1, i, acc, hi, ha => by
    have hi' : i < l.length := by omega
    have hn := h _ (List.getElem_mem hi')
    have hr : rd (.int .i64) l i = l[i] := rd_get (e := .int .i64) hi'
    have ih := Nums_l l hl h d (i + 1) (acc ++ [itoaS l[i]]) (by omega) (by rw [ha, List.take_succ_eq_append_getElem hi', List.map_append]; rfl)
    have hc : acc.length ≤ 100 := by rw [ha]; simp; omega
    apply V.line_Nums.l11010.of; unfold F.line_Nums.l11010.B
    rw [if_in hi', guard_in hi', nat_cast, hr, Itoa_ok hn.1 hn.2, Option.bind_some, guard_dec (by simp only [nmax, List.length_cons, List.length_nil]; omega), w64_up (n := 100) (by omega) (by omega)]
    exact ih
theorem Nums_ok (l : List Int) (hl : l.length ≤ 100) (h : ∀ n ∈ l, in64 n) : V.line_Nums l = some (numsW l) := by
  apply V.line_Nums.of; unfold F.line_Nums.B
  exact Nums_l l hl h l.length 0 [] (by omega) rfl
theorem rNums_l (l : List Int) (hl : l.length ≤ 100) (h : ∀ n ∈ l, in64 n) : ∀ (d i : Nat) (x : ByteArray), i + d = l.length → 0 < i → x.size ≤ i * 22 → V.pleachref43_Nums.l11010 l x (i : Int) = some (catW (fun n => (⟨#[32]⟩ : ByteArray) ++ itoaS n) (l.drop i) x)
  | 0, i, x, hi, h0, hx => by
    apply V.pleachref43_Nums.l11010.of; unfold F.pleachref43_Nums.l11010.B
    rw [if_out (by omega), catW_nil _ _ _ (by omega)]
  | d + 1, i, x, hi, h0, hx => by
    have hi' : i < l.length := by omega
    have hn := h _ (List.getElem_mem hi')
    have hw := itoaS_size hn.1 hn.2
    have z : (⟨#[32]⟩ : ByteArray).size = 1 := rfl
    have hr : rd (.int .i64) l i = l[i] := rd_get (e := .int .i64) hi'
    have ih := rNums_l l hl h d (i + 1) (x ++ ((⟨#[32]⟩ : ByteArray) ++ itoaS l[i])) (by omega) (by omega) (by simp only [ByteArray.size_append, z]; omega)
    apply V.pleachref43_Nums.l11010.of; unfold F.pleachref43_Nums.l11010.B
    rw [if_in hi', guard_in hi', if_yes (show (i : Int) > 0 by omega), nat_cast, hr, guard_dec (by simp only [ByteArray.size_append, i64max, z]; omega), Digits_ok hn.1 hn.2, Option.bind_some, guard_dec (by simp only [ByteArray.size_append, i64max, z]; omega), w64_up (n := 100) (by omega) (by omega), catW_step _ _ _ hi', ← ih, ByteArray.append_assoc]
theorem rNums_ok (l : List Int) (hl : l.length ≤ 100) (h : ∀ n ∈ l, in64 n) : V.pleachref43_Nums l = some (numsW l) := by
  apply V.pleachref43_Nums.of; unfold F.pleachref43_Nums.B
  cases l with
  | nil =>
    apply V.pleachref43_Nums.l11010.of; unfold F.pleachref43_Nums.l11010.B
    rfl
  | cons n l =>
    have hn := h n List.mem_cons_self
    have hw := itoaS_size hn.1 hn.2
    have e0 : (⟨#[]⟩ : ByteArray) ++ itoaS n = itoaS n := by
      apply bytes_ext; simp [ByteArray.toList_eq]
    apply V.pleachref43_Nums.l11010.of; unfold F.pleachref43_Nums.l11010.B
    have hz : 0 < (n :: l).length := by simp
    rw [show (0 : Int) = ((0 : Nat) : Int) from rfl, if_in hz, guard_of (by simp), if_no (by omega), nat_cast, show rd (.int .i64) (n :: l) 0 = n from rfl, Digits_ok hn.1 hn.2, Option.bind_some, guard_dec (by show 0 + _ ≤ _; simp only [i64max]; omega), w64_up (n := 100) (by omega) (by omega), e0]
    exact rNums_l (n :: l) hl h l.length 1 (itoaS n) (by simp; omega) (by omega) (by omega)

theorem fineG {g : TGraph} (hg : Gd sGraph g) (hs : Slim g) : FineG g := by
  obtain ⟨⟨_, h1⟩, ⟨_, h2⟩⟩ := hg
  have fine : ∀ (a : List ByteArray) (b : List TProp), a.length ≤ 20 → b.length ≤ 20 → Gd (.list .str) a → Gd (.list sProp) b → FineW a b := fun a b la lb ga gb => ⟨la, lb, ga.2, fun p hp => ⟨(gb.2 p hp).1, int_wf (gb.2 p hp).2.2.1⟩⟩
  refine ⟨hs, fun n hn => ⟨(h1 n hn).1, fine _ _ (hs.n n hn).1 (hs.n n hn).2 (h1 n hn).2.1 (h1 n hn).2.2⟩, fun x hx => ?_⟩
  have := h2 x hx
  exact ⟨this.1, this.2.1, this.2.2.1, fine _ _ (hs.e x hx).1 (hs.e x hx).2 this.2.2.2.1 this.2.2.2.2⟩

theorem LineGraphs_pure (g : TGraph) (l : List Int) (hg : Gd sGraph g) (hl : Gd (.list (.int .i64)) l) : V.pleachlaw43_LineGraphs g l = some true := by
  apply V.pleachlaw43_LineGraphs.of; unfold F.pleachlaw43_LineGraphs.B
  obtain ⟨b, hb, hs⟩ := Few_ok g
  rw [show (g.1, g.2) = g from rfl, hb, Option.bind_some, awake43]
  cases b with
  | false => rfl
  | true =>
    rw [Bool.not_true, cond_false]
    by_cases h : (l.length : Int) > 100
    · rw [if_yes h]; rfl
    · have hf := fineG hg (hs rfl)
      have hn : ∀ n ∈ l, in64 n := fun n hn => int_wf (hl.2 n hn)
      rw [if_no h, ln_Graph hf, rl_Graph hf]
      simp only [Option.bind_some]
      rw [Texts_same _ (by have := hf.slim.ns; have := hf.slim.es; simp [graphW]; omega)]
      simp only [Option.bind_some, cond_true]
      rw [Nums_ok l (by omega) hn, rNums_ok l (by omega) hn]
      simp only [Option.bind_some, strEq_self, cond_true]
end Go.Proofs.YthbaafcoidjflaaGreatDoor.AE
end
section
namespace Go.Proofs.YthbaafcoidjflaaGreatDoor.AE
open Go Go.ChangeShapes Go.WideShapes Go.ChangeAt Go.RowKit Go.Lib Go.Sort
variable {W₀ : World}
theorem weights_each {H : Type} {P : Program} {p : Nat → Bool} {ts : List TypeId} {ds : List (DataW H)} (h : (DataW.weightsEach P ts ds).all p = true) {j : Nat} {t : TypeId} {d : DataW H} (ht : ts[j]? = some t) (hd : ds[j]? = some d) : ∀ n ∈ d.weights P t, p n = true :=
  fun n hn => List.all_eq_true.1 h _ (DataW.weights_mem_each ht hd n hn)
theorem own : ownKnob Tryz.prog.godebug = none := by kernel_rfl
theorem laidOut : laidOutB Tryz.prog = true := by kernel_rfl
theorem mix : Tryz.prog.follows .mixedOrders = true := by kernel_rfl
theorem numGoB : (Tryz.prog.funcs.all fun fn => !(fn.name == "runtime.NumGoroutine")) = true := by kernel_rfl
theorem num (f : FuncId) (fn : Func) (h : Tryz.prog.funcs[f]? = some fn) : (fn.name == "runtime.NumGoroutine") = false := by
  have := Array.all_eq_true_iff_forall_mem.1 numGoB fn (Array.mem_of_getElem? h)
  simpa using this
def layAtoi_ren : Go.Shelf.Ren := ⟨fun i => match i with | 129 => 131 | 171 => 55 | 172 => 100 | 205 => 148 | 243 => 76 | 244 => 119 | 245 => 120 | 246 => 95 | 247 => 136 | 279 => 137 | 280 => 138 | 281 => 139 | 282 => 140 | 283 => 114 | 284 => 115 | 285 => 116 | 286 => 117 | 287 => 146 | 316 => 147 | 317 => 130 | 318 => 132 | 319 => 133 | 320 => 134 | 321 => 149 | 322 => 150 | 337 => 144 | 338 => 145 | _ => 0, fun i => match i with | 0 => 0 | 2 => 2 | 3 => 3 | 4 => 4 | 5 => 5 | 9 => 9 | 20 => 20 | 21 => 21 | 37 => 89 | 46 => 126 | 51 => 151 | 53 => 112 | 75 => 94 | 76 => 95 | 80 => 97 | 85 => 157 | 127 => 115 | 143 => 177 | 145 => 179 | 167 => 156 | 168 => 159 | 171 => 140 | 173 => 143 | 175 => 170 | 210 => 173 | 212 => 150 | 213 => 152 | 232 => 175 | 233 => 176 | _ => 0, fun i => match i with | 15 => 4 | 16 => 5 | 17 => 1 | 18 => 6 | 19 => 7 | _ => 0⟩
set_option maxRecDepth 100000 in
theorem layAtoi : Go.Proofs.LaysC.n172 Tryz.prog layAtoi_ren where
  mixed := mix
  f129 := Tryz.func131.trans (congrArg some (by kernel_rfl))
  f171 := Tryz.func55.trans (congrArg some (by kernel_rfl))
  f172 := Tryz.func100.trans (congrArg some (by kernel_rfl))
  f205 := Tryz.func148.trans (congrArg some (by kernel_rfl))
  f243 := Tryz.func76.trans (congrArg some (by kernel_rfl))
  f244 := Tryz.func119.trans (congrArg some (by kernel_rfl))
  f245 := Tryz.func120.trans (congrArg some (by kernel_rfl))
  f246 := Tryz.func95.trans (congrArg some (by kernel_rfl))
  f247 := Tryz.func136.trans (congrArg some (by kernel_rfl))
  f279 := Tryz.func137.trans (congrArg some (by kernel_rfl))
  f280 := Tryz.func138.trans (congrArg some (by kernel_rfl))
  f281 := Tryz.func139.trans (congrArg some (by kernel_rfl))
  f282 := Tryz.func140.trans (congrArg some (by kernel_rfl))
  f283 := Tryz.func114.trans (congrArg some (by kernel_rfl))
  f284 := Tryz.func115.trans (congrArg some (by kernel_rfl))
  f285 := Tryz.func116.trans (congrArg some (by kernel_rfl))
  f286 := Tryz.func117.trans (congrArg some (by kernel_rfl))
  f287 := Tryz.func146.trans (congrArg some (by kernel_rfl))
  f316 := Tryz.func147.trans (congrArg some (by kernel_rfl))
  f317 := Tryz.func130.trans (congrArg some (by kernel_rfl))
  f318 := Tryz.func132.trans (congrArg some (by kernel_rfl))
  f319 := Tryz.func133.trans (congrArg some (by kernel_rfl))
  f320 := Tryz.func134.trans (congrArg some (by kernel_rfl))
  f321 := Tryz.func149.trans (congrArg some (by kernel_rfl))
  f322 := Tryz.func150.trans (congrArg some (by kernel_rfl))
  f337 := Tryz.func144.trans (congrArg some (by kernel_rfl))
  f338 := Tryz.func145.trans (congrArg some (by kernel_rfl))
  t0 := by kernel_rfl
  a0 := by intro w; kernel_rfl
  z0 := by intro w; kernel_rfl
  v0 := by intro w; kernel_rfl
  t2 := by kernel_rfl
  a2 := by intro w; kernel_rfl
  z2 := by intro w; kernel_rfl
  v2 := by intro w; kernel_rfl
  t3 := by kernel_rfl
  a3 := by intro w; kernel_rfl
  z3 := by intro w; kernel_rfl
  v3 := by intro w; kernel_rfl
  t4 := by kernel_rfl
  a4 := by intro w; kernel_rfl
  z4 := by intro w; kernel_rfl
  v4 := by intro w; kernel_rfl
  t5 := by kernel_rfl
  a5 := by intro w; kernel_rfl
  z5 := by intro w; kernel_rfl
  v5 := by intro w; kernel_rfl
  t9 := by kernel_rfl
  a9 := by intro w; kernel_rfl
  z9 := by intro w; kernel_rfl
  v9 := by intro w; kernel_rfl
  t20 := by kernel_rfl
  a20 := by intro w; kernel_rfl
  z20 := by intro w; kernel_rfl
  v20 := by intro w; kernel_rfl
  t21 := by kernel_rfl
  a21 := by intro w; kernel_rfl
  z21 := by intro w; kernel_rfl
  v21 := by intro w; kernel_rfl
  t37 := by kernel_rfl
  a37 := by intro w; kernel_rfl
  z37 := by intro w; kernel_rfl
  v37 := by intro w; kernel_rfl
  t46 := by kernel_rfl
  a46 := by intro w; kernel_rfl
  z46 := by intro w; kernel_rfl
  v46 := by intro w; kernel_rfl
  t51 := by kernel_rfl
  a51 := by intro w; kernel_rfl
  z51 := by intro w; kernel_rfl
  v51 := by intro w; kernel_rfl
  t53 := by kernel_rfl
  a53 := by intro w; kernel_rfl
  z53 := by intro w; kernel_rfl
  v53 := by intro w; kernel_rfl
  t75 := by kernel_rfl
  a75 := by intro w; kernel_rfl
  z75 := by intro w; kernel_rfl
  v75 := by intro w; kernel_rfl
  t76 := by kernel_rfl
  a76 := by intro w; kernel_rfl
  z76 := by intro w; kernel_rfl
  v76 := by intro w; kernel_rfl
  t85 := by kernel_rfl
  a85 := by intro w; kernel_rfl
  z85 := by intro w; kernel_rfl
  v85 := by intro w; kernel_rfl
  t127 := by kernel_rfl
  a127 := by intro w; kernel_rfl
  z127 := by intro w; kernel_rfl
  v127 := by intro w; kernel_rfl
  t143 := by kernel_rfl
  a143 := by intro w; kernel_rfl
  z143 := by intro w; kernel_rfl
  v143 := by intro w; kernel_rfl
  t145 := by kernel_rfl
  a145 := by intro w; kernel_rfl
  z145 := by intro w; kernel_rfl
  v145 := by intro w; kernel_rfl
  t167 := by kernel_rfl
  a167 := by intro w; kernel_rfl
  z167 := by intro w; kernel_rfl
  v167 := by intro w; kernel_rfl
  t168 := by kernel_rfl
  a168 := by intro w; kernel_rfl
  z168 := by intro w; kernel_rfl
  v168 := by intro w; kernel_rfl
  t171 := by kernel_rfl
  a171 := by intro w; kernel_rfl
  z171 := by intro w; kernel_rfl
  v171 := by intro w; kernel_rfl
  t173 := by kernel_rfl
  a173 := by intro w; kernel_rfl
  z173 := by intro w; kernel_rfl
  v173 := by intro w; kernel_rfl
  t175 := by kernel_rfl
  a175 := by intro w; kernel_rfl
  z175 := by intro w; kernel_rfl
  v175 := by intro w; kernel_rfl
  t210 := by kernel_rfl
  a210 := by intro w; kernel_rfl
  z210 := by intro w; kernel_rfl
  v210 := by intro w; kernel_rfl
  t212 := by kernel_rfl
  a212 := by intro w; kernel_rfl
  z212 := by intro w; kernel_rfl
  v212 := by intro w; kernel_rfl
  t213 := by kernel_rfl
  a213 := by intro w; kernel_rfl
  z213 := by intro w; kernel_rfl
  t232 := by kernel_rfl
  a232 := by intro w; kernel_rfl
  z232 := by intro w; kernel_rfl
  v232 := by intro w; kernel_rfl
  t233 := by kernel_rfl
  a233 := by intro w; kernel_rfl
  z233 := by intro w; kernel_rfl
  v233 := by intro w; kernel_rfl
  g15 := by kernel_rfl
  g16 := by kernel_rfl
  g17 := by kernel_rfl
  g18 := by kernel_rfl
  g19 := by kernel_rfl
  t80 := by kernel_rfl
  a80 := by intro w; kernel_rfl
  z80 := by intro w; kernel_rfl
  v80 := by intro w; kernel_rfl
  i0 := by kernel_rfl
  i2 := by kernel_rfl
  i3 := by kernel_rfl
  i4 := by kernel_rfl
  i5 := by kernel_rfl
  i9 := by kernel_rfl
  i20 := by kernel_rfl
  i21 := by kernel_rfl
  i37 := by kernel_rfl
  i46 := by kernel_rfl
  i51 := by kernel_rfl
  i53 := by kernel_rfl
  i75 := by kernel_rfl
  i76 := by kernel_rfl
  i80 := by kernel_rfl
  i85 := by kernel_rfl
  i127 := by kernel_rfl
  i143 := by kernel_rfl
  i145 := by kernel_rfl
  i167 := by kernel_rfl
  i168 := by kernel_rfl
  i171 := by kernel_rfl
  i173 := by kernel_rfl
  i175 := by kernel_rfl
  i210 := by kernel_rfl
  i212 := by kernel_rfl
  i232 := by kernel_rfl
  i233 := by kernel_rfl
  m15 := by kernel_rfl
  m16 := by kernel_rfl
  m17 := by kernel_rfl
  m18 := by kernel_rfl
  m19 := by kernel_rfl
  c0 := by kernel_rfl
  c2 := by kernel_rfl
  c3 := by kernel_rfl
  c4 := by kernel_rfl
  c5 := by kernel_rfl
  c9 := by kernel_rfl
  c20 := by kernel_rfl
  c21 := by kernel_rfl
  c37 := by kernel_rfl
  c46 := by kernel_rfl
  c51 := by kernel_rfl
  c53 := by kernel_rfl
  c75 := by kernel_rfl
  c76 := by kernel_rfl
  c80 := by kernel_rfl
  c85 := by kernel_rfl
  c127 := by kernel_rfl
  c143 := by kernel_rfl
  c145 := by kernel_rfl
  c167 := by kernel_rfl
  c168 := by kernel_rfl
  c171 := by kernel_rfl
  c173 := by kernel_rfl
  c175 := by kernel_rfl
  c210 := by kernel_rfl
  c212 := by kernel_rfl
  c213 := by kernel_rfl
  c232 := by kernel_rfl
  c233 := by kernel_rfl
theorem starErr : "*" ++ "errors.errorString" = "*errors.errorString" := by decide
theorem rowErr (u : TypeId) (h : Tryz.prog.typeName? 3 u = some "*errors.errorString") : u = 177 :=
  typeName_ptr_named (nm := "errors.errorString") (by rw [starErr]; kernel_rfl) (by kernel_rfl) (by decide) u (by rw [starErr]; exact h)
def layCont_ren : Go.Shelf.Ren := ⟨fun i => match i with | 15 => 118 | 17 => 96 | 20 => 135 | _ => 0, fun i => match i with | 0 => 0 | 2 => 2 | 3 => 3 | 4 => 4 | 5 => 5 | 9 => 9 | 20 => 20 | 21 => 21 | 23 => 125 | 80 => 97 | _ => 0, fun x => x⟩
set_option maxRecDepth 100000 in
theorem layCont : Go.Proofs.LaysGw.n17 Tryz.prog layCont_ren where
  mixed := mix
  f15 := Tryz.func118.trans (congrArg some (by kernel_rfl))
  f17 := Tryz.func96.trans (congrArg some (by kernel_rfl))
  f20 := Tryz.func135.trans (congrArg some (by kernel_rfl))
  t0 := by kernel_rfl
  a0 := by intro w; kernel_rfl
  z0 := by intro w; kernel_rfl
  v0 := by intro w; kernel_rfl
  i0 := by kernel_rfl
  t3 := by kernel_rfl
  a3 := by intro w; kernel_rfl
  z3 := by intro w; kernel_rfl
  v3 := by intro w; kernel_rfl
  i3 := by kernel_rfl
  t4 := by kernel_rfl
  a4 := by intro w; kernel_rfl
  z4 := by intro w; kernel_rfl
  v4 := by intro w; kernel_rfl
  i4 := by kernel_rfl
  t9 := by kernel_rfl
  a9 := by intro w; kernel_rfl
  z9 := by intro w; kernel_rfl
  v9 := by intro w; kernel_rfl
  i9 := by kernel_rfl
  t21 := by kernel_rfl
  a21 := by intro w; kernel_rfl
  z21 := by intro w; kernel_rfl
  v21 := by intro w; kernel_rfl
  i21 := by kernel_rfl
  t23 := by kernel_rfl
  a23 := by intro w; kernel_rfl
  z23 := by intro w; kernel_rfl
  v23 := by intro w; kernel_rfl
  i23 := by kernel_rfl
theorem pred97 (w : World) : PredAt Tryz.prog 97 #[] encR badR w := by
  intro W x hb
  unfold FnGives
  show Calls Tryz.prog 97 #[.int .i32 (x : Int)] W _
  go_enter Tryz.func97, Tryz.ntmps97
  go_wp2
  all_goals
    go_ret
    refine ⟨congrArg (fun b => Ending.returned (Value.bool b)) ?_, 0, rfl⟩
    simp only [badR]
    rw [Bool.eq_iff_iff]
    simp
    try omega
def rho88 : Go.Shelf.Ren := ⟨fun i => match i with | 29 => 105 | _ => 106, fun i => match i with | 24 => 77 | 9 => 111 | 3 => 3 | 4 => 4 | _ => 0, fun x => x⟩
theorem ins88 : InsOk Tryz.prog rho88 88 "slices.Insert[[]pleach/api.Prop,pleach/api.Prop]" Tryz.f105 sProp := by
  refine ⟨⟨mix, Tryz.func88.trans (congrArg some (by kernel_rfl)), Tryz.func105, by kernel_rfl, by kernel_rfl, by kernel_rfl, by kernel_rfl, by kernel_rfl, by kernel_rfl, by kernel_rfl, by kernel_rfl, by kernel_rfl, by decide⟩, by kernel_rfl, by kernel_rfl, by kernel_rfl, by kernel_rfl, by decide⟩
def layItoa_ren : Go.Shelf.Ren := ⟨fun i => match i with | 129 => 131 | 171 => 55 | 243 => 76 | 246 => 95 | 283 => 114 | 284 => 115 | 285 => 116 | 286 => 117 | 317 => 130 | 318 => 132 | 319 => 133 | 320 => 134 | 337 => 144 | 338 => 145 | _ => 0, fun i => match i with | 0 => 0 | 2 => 2 | 3 => 3 | 4 => 4 | 5 => 5 | 9 => 9 | 20 => 20 | 21 => 21 | 37 => 89 | 46 => 126 | 51 => 151 | 53 => 112 | 80 => 97 | 171 => 140 | 173 => 143 | 212 => 150 | 213 => 152 | 232 => 175 | 233 => 176 | _ => 0, fun i => match i with | 17 => 1 | 18 => 6 | 19 => 7 | _ => 0⟩
set_option maxRecDepth 100000 in
theorem layItoa : Go.Proofs.LaysM.n171 Tryz.prog layItoa_ren where
  mixed := mix
  f129 := Tryz.func131.trans (congrArg some (by kernel_rfl))
  f171 := Tryz.func55.trans (congrArg some (by kernel_rfl))
  f243 := Tryz.func76.trans (congrArg some (by kernel_rfl))
  f246 := Tryz.func95.trans (congrArg some (by kernel_rfl))
  f283 := Tryz.func114.trans (congrArg some (by kernel_rfl))
  f284 := Tryz.func115.trans (congrArg some (by kernel_rfl))
  f285 := Tryz.func116.trans (congrArg some (by kernel_rfl))
  f286 := Tryz.func117.trans (congrArg some (by kernel_rfl))
  f317 := Tryz.func130.trans (congrArg some (by kernel_rfl))
  f318 := Tryz.func132.trans (congrArg some (by kernel_rfl))
  f319 := Tryz.func133.trans (congrArg some (by kernel_rfl))
  f320 := Tryz.func134.trans (congrArg some (by kernel_rfl))
  f337 := Tryz.func144.trans (congrArg some (by kernel_rfl))
  f338 := Tryz.func145.trans (congrArg some (by kernel_rfl))
  t0 := by kernel_rfl
  a0 := by intro w; kernel_rfl
  z0 := by intro w; kernel_rfl
  v0 := by intro w; kernel_rfl
  t2 := by kernel_rfl
  a2 := by intro w; kernel_rfl
  z2 := by intro w; kernel_rfl
  v2 := by intro w; kernel_rfl
  t3 := by kernel_rfl
  a3 := by intro w; kernel_rfl
  z3 := by intro w; kernel_rfl
  v3 := by intro w; kernel_rfl
  t4 := by kernel_rfl
  a4 := by intro w; kernel_rfl
  z4 := by intro w; kernel_rfl
  v4 := by intro w; kernel_rfl
  t5 := by kernel_rfl
  a5 := by intro w; kernel_rfl
  z5 := by intro w; kernel_rfl
  v5 := by intro w; kernel_rfl
  t9 := by kernel_rfl
  a9 := by intro w; kernel_rfl
  z9 := by intro w; kernel_rfl
  v9 := by intro w; kernel_rfl
  t20 := by kernel_rfl
  a20 := by intro w; kernel_rfl
  z20 := by intro w; kernel_rfl
  v20 := by intro w; kernel_rfl
  t37 := by kernel_rfl
  a37 := by intro w; kernel_rfl
  z37 := by intro w; kernel_rfl
  v37 := by intro w; kernel_rfl
  t46 := by kernel_rfl
  a46 := by intro w; kernel_rfl
  z46 := by intro w; kernel_rfl
  v46 := by intro w; kernel_rfl
  t51 := by kernel_rfl
  a51 := by intro w; kernel_rfl
  z51 := by intro w; kernel_rfl
  v51 := by intro w; kernel_rfl
  t53 := by kernel_rfl
  a53 := by intro w; kernel_rfl
  z53 := by intro w; kernel_rfl
  v53 := by intro w; kernel_rfl
  t171 := by kernel_rfl
  a171 := by intro w; kernel_rfl
  z171 := by intro w; kernel_rfl
  v171 := by intro w; kernel_rfl
  t173 := by kernel_rfl
  a173 := by intro w; kernel_rfl
  z173 := by intro w; kernel_rfl
  v173 := by intro w; kernel_rfl
  t212 := by kernel_rfl
  a212 := by intro w; kernel_rfl
  z212 := by intro w; kernel_rfl
  v212 := by intro w; kernel_rfl
  t213 := by kernel_rfl
  a213 := by intro w; kernel_rfl
  z213 := by intro w; kernel_rfl
  t232 := by kernel_rfl
  a232 := by intro w; kernel_rfl
  z232 := by intro w; kernel_rfl
  v232 := by intro w; kernel_rfl
  t233 := by kernel_rfl
  a233 := by intro w; kernel_rfl
  z233 := by intro w; kernel_rfl
  v233 := by intro w; kernel_rfl
  g17 := by kernel_rfl
  g18 := by kernel_rfl
  g19 := by kernel_rfl
  i0 := by kernel_rfl
  i2 := by kernel_rfl
  i3 := by kernel_rfl
  i4 := by kernel_rfl
  i5 := by kernel_rfl
  i9 := by kernel_rfl
  i20 := by kernel_rfl
  i37 := by kernel_rfl
  i46 := by kernel_rfl
  i51 := by kernel_rfl
  i53 := by kernel_rfl
  i171 := by kernel_rfl
  i173 := by kernel_rfl
  i212 := by kernel_rfl
  i232 := by kernel_rfl
  i233 := by kernel_rfl
  m17 := by kernel_rfl
  m18 := by kernel_rfl
  m19 := by kernel_rfl
def laySplit_ren : Go.Shelf.Ren := ⟨fun i => match i with | 138 => 90 | 143 => 91 | 146 => 45 | 195 => 107 | 197 => 108 | 217 => 124 | 218 => 109 | 219 => 110 | 221 => 73 | 224 => 126 | 225 => 125 | 260 => 123 | 266 => 142 | 267 => 127 | 268 => 89 | 314 => 143 | _ => 0, fun i => match i with | 0 => 0 | 2 => 2 | 3 => 3 | 4 => 4 | 5 => 5 | 9 => 9 | 20 => 20 | 21 => 21 | 31 => 46 | 46 => 126 | 51 => 151 | 80 => 97 | 105 => 135 | 119 => 163 | 138 => 165 | 139 => 166 | 146 => 167 | _ => 0, fun i => match i with | 1 => 0 | 3 => 2 | 4 => 3 | _ => 0⟩
set_option maxRecDepth 100000 in
theorem laySplit : Go.Proofs.Lays.n146 Tryz.prog laySplit_ren where
  mixed := mix
  f138 := Tryz.func90.trans (congrArg some (by kernel_rfl))
  f143 := Tryz.func91.trans (congrArg some (by kernel_rfl))
  f146 := Tryz.func45.trans (congrArg some (by kernel_rfl))
  f195 := Tryz.func107.trans (congrArg some (by kernel_rfl))
  f197 := Tryz.func108.trans (congrArg some (by kernel_rfl))
  f217 := Tryz.func124.trans (congrArg some (by kernel_rfl))
  f218 := Tryz.func109.trans (congrArg some (by kernel_rfl))
  f219 := Tryz.func110.trans (congrArg some (by kernel_rfl))
  f221 := Tryz.func73.trans (congrArg some (by kernel_rfl))
  f224 := Tryz.func126.trans (congrArg some (by kernel_rfl))
  f225 := Tryz.func125.trans (congrArg some (by kernel_rfl))
  f260 := Tryz.func123.trans (congrArg some (by kernel_rfl))
  f266 := Tryz.func142.trans (congrArg some (by kernel_rfl))
  f267 := Tryz.func127.trans (congrArg some (by kernel_rfl))
  f268 := Tryz.func89.trans (congrArg some (by kernel_rfl))
  f314 := Tryz.func143.trans (congrArg some (by kernel_rfl))
  t0 := by kernel_rfl
  a0 := by intro w; kernel_rfl
  z0 := by intro w; kernel_rfl
  v0 := by intro w; kernel_rfl
  t3 := by kernel_rfl
  a3 := by intro w; kernel_rfl
  z3 := by intro w; kernel_rfl
  v3 := by intro w; kernel_rfl
  t4 := by kernel_rfl
  a4 := by intro w; kernel_rfl
  z4 := by intro w; kernel_rfl
  v4 := by intro w; kernel_rfl
  t5 := by kernel_rfl
  a5 := by intro w; kernel_rfl
  z5 := by intro w; kernel_rfl
  v5 := by intro w; kernel_rfl
  t9 := by kernel_rfl
  a9 := by intro w; kernel_rfl
  z9 := by intro w; kernel_rfl
  v9 := by intro w; kernel_rfl
  t21 := by kernel_rfl
  a21 := by intro w; kernel_rfl
  z21 := by intro w; kernel_rfl
  v21 := by intro w; kernel_rfl
  t31 := by kernel_rfl
  a31 := by intro w; kernel_rfl
  z31 := by intro w; kernel_rfl
  v31 := by intro w; kernel_rfl
  t46 := by kernel_rfl
  a46 := by intro w; kernel_rfl
  z46 := by intro w; kernel_rfl
  v46 := by intro w; kernel_rfl
  t51 := by kernel_rfl
  a51 := by intro w; kernel_rfl
  z51 := by intro w; kernel_rfl
  v51 := by intro w; kernel_rfl
  t105 := by kernel_rfl
  a105 := by intro w; kernel_rfl
  z105 := by intro w; kernel_rfl
  v105 := by intro w; kernel_rfl
  t119 := by kernel_rfl
  a119 := by intro w; kernel_rfl
  z119 := by intro w; kernel_rfl
  t138 := by kernel_rfl
  a138 := by intro w; kernel_rfl
  z138 := by intro w; kernel_rfl
  v138 := by intro w; kernel_rfl
  t139 := by kernel_rfl
  a139 := by intro w; kernel_rfl
  z139 := by intro w; kernel_rfl
  v139 := by intro w; kernel_rfl
  t146 := by kernel_rfl
  a146 := by intro w; kernel_rfl
  z146 := by intro w; kernel_rfl
  v146 := by intro w; kernel_rfl
  g1 := by kernel_rfl
  g3 := by kernel_rfl
  g4 := by kernel_rfl
theorem max_of {w : World} (h : w.ShapedOpen Tryz.prog) : ∃ m, w.cell? ⟨laySplit_ren.g 1, 0, none⟩ = some (.int .i64 m) :=
  cell_of_shapedOpen_int (g := 0) (t := 3) (zero := #[.int .i64 0]) h (of_decide_eq_true (by kernel_rfl)) (by kernel_rfl) rfl (by kernel_rfl) (by kernel_rfl) Tryz.underlying3
def layJoin_ren : Go.Shelf.Ren := ⟨fun i => match i with | 156 => 27 | 165 => 60 | 166 => 61 | 169 => 62 | 240 => 82 | 241 => 83 | 276 => 98 | 277 => 99 | _ => 0, fun i => match i with | 0 => 0 | 2 => 2 | 3 => 3 | 4 => 4 | 5 => 5 | 9 => 9 | 20 => 20 | 21 => 21 | 31 => 46 | 37 => 89 | 70 => 88 | 72 => 91 | 75 => 94 | 76 => 95 | 80 => 97 | 127 => 115 | 164 => 127 | _ => 0, fun x => x⟩
set_option maxRecDepth 100000 in
theorem layJoin : Go.Proofs.Lays.n156 Tryz.prog layJoin_ren where
  mixed := mix
  f156 := Tryz.func27.trans (congrArg some (by kernel_rfl))
  f165 := Tryz.func60.trans (congrArg some (by kernel_rfl))
  f166 := Tryz.func61.trans (congrArg some (by kernel_rfl))
  f169 := Tryz.func62.trans (congrArg some (by kernel_rfl))
  f240 := Tryz.func82.trans (congrArg some (by kernel_rfl))
  f241 := Tryz.func83.trans (congrArg some (by kernel_rfl))
  f276 := Tryz.func98.trans (congrArg some (by kernel_rfl))
  f277 := Tryz.func99.trans (congrArg some (by kernel_rfl))
  t0 := by kernel_rfl
  a0 := by intro w; kernel_rfl
  z0 := by intro w; kernel_rfl
  v0 := by intro w; kernel_rfl
  t3 := by kernel_rfl
  a3 := by intro w; kernel_rfl
  z3 := by intro w; kernel_rfl
  v3 := by intro w; kernel_rfl
  t4 := by kernel_rfl
  a4 := by intro w; kernel_rfl
  z4 := by intro w; kernel_rfl
  v4 := by intro w; kernel_rfl
  t9 := by kernel_rfl
  a9 := by intro w; kernel_rfl
  z9 := by intro w; kernel_rfl
  v9 := by intro w; kernel_rfl
  t20 := by kernel_rfl
  a20 := by intro w; kernel_rfl
  z20 := by intro w; kernel_rfl
  v20 := by intro w; kernel_rfl
  t31 := by kernel_rfl
  a31 := by intro w; kernel_rfl
  z31 := by intro w; kernel_rfl
  v31 := by intro w; kernel_rfl
  t37 := by kernel_rfl
  a37 := by intro w; kernel_rfl
  z37 := by intro w; kernel_rfl
  v37 := by intro w; kernel_rfl
  t70 := by kernel_rfl
  a70 := by intro w; kernel_rfl
  z70 := by intro w; kernel_rfl
  v70 := by intro w; kernel_rfl
  t72 := by kernel_rfl
  a72 := by intro w; kernel_rfl
  z72 := by intro w; kernel_rfl
  v72 := by intro w; kernel_rfl
  t75 := by kernel_rfl
  a75 := by intro w; kernel_rfl
  z75 := by intro w; kernel_rfl
  v75 := by intro w; kernel_rfl
  t76 := by kernel_rfl
  a76 := by intro w; kernel_rfl
  z76 := by intro w; kernel_rfl
  v76 := by intro w; kernel_rfl
  t127 := by kernel_rfl
  a127 := by intro w; kernel_rfl
  z127 := by intro w; kernel_rfl
  v127 := by intro w; kernel_rfl
  t164 := by kernel_rfl
  a164 := by intro w; kernel_rfl
  z164 := by intro w; kernel_rfl
  v164 := by intro w; kernel_rfl
theorem joinExtra : Builder.Extra Tryz.prog layJoin_ren where
  sizeBuilder := by kernel_rfl
  liesBuilder := by kernel_rfl
  t5 := by kernel_rfl
  a5 := by intro w; kernel_rfl
  z5 := by intro w; kernel_rfl
  v5 := by intro w; kernel_rfl
  infoByte := by kernel_rfl
  cellsByte := by kernel_rfl
  sizeByte := by kernel_rfl
  neB5 := by decide
theorem handed_shaped {H : Type} {enc : TypeId × Value → H} {a : Assume} {C : Checked} {os : Os} {f : FuncId} {fn : Func} {s : ChangeSpec} {conds : List PathCond} {apart fresh handsOn again : Bool} {X : World → Array Value → Prop}
    (hX : ∀ (w w' : World) (args : Array Value), w.heap = w'.heap → X w args → X w' args)
    (own : ownKnob C.prog.godebug = none) (started : os.Started) (noInit : C.prog.inits.idxOf? f = none) (hfn : C.prog.funcs[f]? = some fn)
    (witness : ∃ (w : World) (tape : Tape) (i : Input), w.os = os ∧ (w.forCall tape i).Shaped C.prog ∧ i.vars = [] ∧ Input.okWide C.prog (w.forCall tape i) .any w.heap.size f i ∧
      ((s.pre enc C.prog fn conds apart (w.forCall tape i).memory i.args ∧ X (w.forCall tape i).memory i.args) ∧ sizedMet enc C.prog fn (OpenSpec.ofChange s) apart (w.forCall tape i).memory i.args) ∧ a.holds C.prog (lone (Frame.enter C.prog f i.args .normal) [] (w.forCall tape i)))
    (contract : ∀ (W : World) (base : Nat) (args : Array Value) (ds gs : List (DataW H)) (before : List MemPlace),
      (∀ (j : Nat) t v, fn.params[j]? = some t → args[j]? = some v → Value.okWide C.prog W .any base t v) →
      DataW.Whole enc C.prog fn.params.toList s.vars apart W args.toList ds gs before →
      conds.all (PathCond.test C.prog ⟨fn.params.toList, ds, s.plain.varTypes C.prog, gs⟩) = true →
      (DataW.weightsEach C.prog (fn.params.toList ++ s.plain.varTypes C.prog) (ds ++ gs)).all (· ≤ reachBytes) = true → X W args ∧ W.ShapedOpen C.prog →
      a.holds C.prog (lone (Frame.enter C.prog f args .normal) [] W) →
      Calls C.prog f args W fun e W' => ∃ v, e = .returned v ∧ s.post enc C.prog fn apart fresh handsOn again W args v W') :
    ReturnsInHanded a C os f .any (fun w args => (s.pre enc C.prog fn conds apart w args ∧ X w args) ∧ sizedMet enc C.prog fn (OpenSpec.ofChange s) apart w args) (s.post enc C.prog fn apart fresh handsOn again) := by
  refine returnsInHanded_of_calls own started noInit witness ?_
  intro w tape i _ hsh _ hok hpre hholds
  obtain ⟨_, _, _, fn', hfn', _, _, _, _, hval⟩ := hok
  have e : fn' = fn := Option.some.inj (hfn'.symm.trans hfn)
  subst e
  obtain ⟨⟨⟨ds, gs, before, hw, hc⟩, hx⟩, hz⟩ := hpre
  have hw' := DataW.Whole.of_heap (w' := w.forCall tape i) (by rfl) hw
  refine (contract (w.forCall tape i) w.heap.size i.args ds gs before hval hw' hc (hz.weights hw) ⟨hX _ _ _ (by rfl) hx, hsh⟩ hholds).mono fun e W' ⟨v, he, hp⟩ => ?_
  subst he
  exact ChangeSpec.post_blind hp
theorem extok (htab : Lib.TabIs Tryz.prog W₀ "internal/strconv.uint64pow10" .u64 Lib.pow10Tab) {t1 t2 : TypeId} {p1 p2 : Value} (hsyn : W₀.var? Tryz.prog "strconv.ErrSyntax" = some #[.iface t1 p1]) (hran : W₀.var? Tryz.prog "strconv.ErrRange" = some #[.iface t2 p2]) {mx : Int} (hmax : W₀.cell? ⟨laySplit_ren.g 1, 0, none⟩ = some (.int .i64 mx)) : ExtOk W₀ Tryz.prog sg := .of (show extAll W₀ Tryz.prog sgT from
  ⟨.nothing rfl rfl,
  ⟨.nothing rfl rfl,
  ⟨.nothing rfl rfl,
  ⟨.nothing rfl rfl,
  ⟨.nothing rfl rfl,
  ⟨.nothing rfl rfl,
  ⟨.nothing rfl rfl,
  ⟨.nothing rfl rfl,
  ⟨.nothing rfl rfl,
  ⟨.nothing rfl rfl,
  ⟨.nothing rfl rfl,
  ⟨.nothing rfl rfl,
  ⟨.nothing rfl rfl,
  ⟨.nothing rfl rfl,
  ⟨.nothing rfl rfl,
  ⟨(join_ext layJoin joinExtra rfl),
  ⟨.nothing rfl rfl,
  ⟨.nothing rfl rfl,
  ⟨.nothing rfl rfl,
  ⟨.nothing rfl rfl,
  ⟨.nothing rfl rfl,
  ⟨.nothing rfl rfl,
  ⟨.nothing rfl rfl,
  ⟨(split_ext laySplit rfl (by kernel_rfl) hmax),
  ⟨.nothing rfl rfl,
  ⟨.nothing rfl rfl,
  ⟨.nothing rfl rfl,
  ⟨.nothing rfl rfl,
  ⟨.nothing rfl rfl,
  ⟨(itoa_ext layItoa rfl htab),
  ⟨.nothing rfl rfl,
  ⟨.nothing rfl rfl,
  ⟨.nothing rfl rfl,
  ⟨.nothing rfl rfl,
  ⟨.nothing rfl rfl,
  ⟨.nothing rfl rfl,
  ⟨.nothing rfl rfl,
  ⟨.nothing rfl rfl,
  ⟨.nothing rfl rfl,
  ⟨.nothing rfl rfl,
  ⟨.nothing rfl rfl,
  ⟨.nothing rfl rfl,
  ⟨.nothing rfl rfl,
  ⟨.nothing rfl rfl,
  ⟨.nothing rfl rfl,
  ⟨.nothing rfl rfl,
  ⟨.nothing rfl rfl,
  ⟨.nothing rfl rfl,
  ⟨.nothing rfl rfl,
  ⟨.nothing rfl rfl,
  ⟨(ins_ext ins88),
  ⟨.nothing rfl rfl,
  ⟨(cont_ext layCont rfl (enters_of Tryz.func97 (by kernel_rfl) rfl) pred97),
  ⟨(atoi_ext layAtoi rfl hsyn hran),
  ⟨.nothing rfl rfl,
  ⟨.nothing rfl rfl,
  ⟨.nothing rfl rfl,
  ⟨.nothing rfl rfl,
  ⟨.nothing rfl rfl,
  ⟨.nothing rfl rfl,
  ⟨.nothing rfl rfl,
  ⟨.nothing rfl rfl,
  ⟨.nothing rfl rfl,
  trivial⟩⟩⟩⟩⟩⟩⟩⟩⟩⟩⟩⟩⟩⟩⟩⟩⟩⟩⟩⟩⟩⟩⟩⟩⟩⟩⟩⟩⟩⟩⟩⟩⟩⟩⟩⟩⟩⟩⟩⟩⟩⟩⟩⟩⟩⟩⟩⟩⟩⟩⟩⟩⟩⟩⟩⟩⟩⟩⟩⟩⟩⟩⟩)
end Go.Proofs.YthbaafcoidjflaaGreatDoor.AE
end
section
namespace Go.Proofs.YthbaafcoidjflaaGreatDoor.AE.lineGraphs
open Go Go.ChangeShapes Go.WideShapes Go.ChangeAt Go.RowKit
open Go.ChangeMaps (open_string shut_string)
set_option linter.unusedVariables false
def Pure : Prop := ∀ (x0 : den ((.prod (.list (.prod .str (.prod (.list .str) (.list (.prod .str (.prod (.int .i64) (.prod (.int .i64) .str))))))) (.list (.prod .str (.prod .str (.prod .str (.prod (.list .str) (.list (.prod .str (.prod (.int .i64) (.prod (.int .i64) .str)))))))))))) (x1 : den ((.list (.int .i64)))), Gd ((.prod (.list (.prod .str (.prod (.list .str) (.list (.prod .str (.prod (.int .i64) (.prod (.int .i64) .str))))))) (.list (.prod .str (.prod .str (.prod .str (.prod (.list .str) (.list (.prod .str (.prod (.int .i64) (.prod (.int .i64) .str))))))))))) x0 → Gd ((.list (.int .i64))) x1 → ∃ K, F.pleachlaw43_LineGraphs K x0 x1 = some true
theorem door_met (os : Os) (args : Array Value) : laidMetH Tryz.prog Rows.lineGraphsRow.laid ((World.laidAll Tryz.prog os Rows.lineGraphsRow.laid).forCall (fun _ _ => 0) ⟨#[], args, []⟩).memory := by
  rw [MakeChecks.laidMetH_plain _ _ _ (by kernel_rfl)]
  exact laidMet_laidAll _ (by kernel_rfl) (by kernel_rfl)
theorem tab_is : (Rows.laid_internal_strconv_uint64pow10 : DataW Unit) = Lib.tabData .u64 Lib.pow10Tab := by kernel_rfl
theorem tab_of {W : World} (h : laidMetH Tryz.prog Rows.lineGraphsRow.laid W) : Lib.TabIs Tryz.prog W "internal/strconv.uint64pow10" .u64 Lib.pow10Tab := by
  rw [MakeChecks.laidMetH_plain _ _ _ (by kernel_rfl)] at h
  obtain ⟨ps, ⟨_, _, _, _, _, _, _, _, _, _, ⟨_, _, _, _, _, _, _, _, _, _, ⟨g, t, cs, f, p, q, hg, ht, hv, hd, _, _⟩, _⟩, _⟩, _, _⟩ := h
  obtain rfl := Option.some.inj ((show Tryz.prog.globalNamed "internal/strconv.uint64pow10" = some 1 by kernel_rfl).symm.trans hg)
  obtain rfl := Option.some.inj ((show (Tryz.prog.globals[1]?).map (·.type) = some 150 by kernel_rfl).symm.trans ht)
  rw [tab_is] at hd
  unfold Lib.TabIs
  rw [hv, ← Lib.cells_of_tab Tryz.underlying150 Tryz.underlying112 (by kernel_rfl) (by kernel_rfl) hd]
theorem syn_of {W : World} (h : laidMetH Tryz.prog Rows.lineGraphsRow.laid W) : ∃ t p, W.var? Tryz.prog "strconv.ErrSyntax" = some #[.iface t p] := by
  rw [MakeChecks.laidMetH_plain _ _ _ (by kernel_rfl)] at h
  obtain ⟨a1, s1, hv1, _⟩ := laid_sentinel (show laidMet Tryz.prog (_ :: _) W from h.tail.tail.tail.tail.tail) (show Tryz.prog.globalNamed "strconv.ErrSyntax" = some 4 by kernel_rfl) (show (Tryz.prog.globals[4]?).map (·.type) = some 94 by kernel_rfl) Tryz.underlying94 rowErr Tryz.underlying177 Tryz.underlying179 rfl rfl Tryz.underlying9 (by kernel_rfl) (by kernel_rfl)
  exact ⟨_, _, hv1⟩
theorem ran_of {W : World} (h : laidMetH Tryz.prog Rows.lineGraphsRow.laid W) : ∃ t p, W.var? Tryz.prog "strconv.ErrRange" = some #[.iface t p] := by
  rw [MakeChecks.laidMetH_plain _ _ _ (by kernel_rfl)] at h
  obtain ⟨a1, s1, hv1, _⟩ := laid_sentinel (show laidMet Tryz.prog (_ :: _) W from h.tail.tail.tail.tail) (show Tryz.prog.globalNamed "strconv.ErrRange" = some 5 by kernel_rfl) (show (Tryz.prog.globals[5]?).map (·.type) = some 94 by kernel_rfl) Tryz.underlying94 rowErr Tryz.underlying177 Tryz.underlying179 rfl rfl Tryz.underlying9 (by kernel_rfl) (by kernel_rfl)
  exact ⟨_, _, hv1⟩
set_option maxRecDepth 100000 in
theorem lifted (pure : Pure) (os : Os) (started : os.Started) (H : Type) (enc : TypeId × Value → H) :
    ReturnsInHanded {} Tryz.checked os 6 .any (fun w args => (Rows.lineGraphsSpec.pre enc Tryz.prog Tryz.f6 Rows.lineGraphsRow.domain false w args ∧ laidMetH Tryz.prog Rows.lineGraphsRow.laid w) ∧ sizedMet enc Tryz.prog Tryz.f6 (OpenSpec.ofChange Rows.lineGraphsSpec) false w args) (Rows.lineGraphsSpec.post enc Tryz.prog Tryz.f6 false true false false) := by
  refine handed_shaped (C := Tryz.checked) (X := (fun w _ => laidMetH Tryz.prog Rows.lineGraphsRow.laid w)) (fun _ _ _ hh h => h.of_heap hh) own started (by kernel_rfl) Tryz.func6
    (ChangeSpec.witness_shaped (enc := enc) (C := Tryz.checked) (os := os) (X := (fun w _ => laidMetH Tryz.prog Rows.lineGraphsRow.laid w)) false (World.laidAll Tryz.prog os Rows.lineGraphsRow.laid) #[.agg #[.slice none 0 0, .slice none 0 0], .slice none 0 0] 8 (World.laidAll_os _ _ _) (World.shaped_of_ZipB (by kernel_rfl) (by kernel_rfl)) (by kernel_rfl) (by kernel_rfl) (by kernel_rfl) (door_met os _)) ?_
  intro W base args ds gs before hval0 hW hcnd hsz0 ⟨hL, hSh⟩ _
  have hsz : (DataW.weightsEach Tryz.prog (Tryz.f6.params.toList ++ Rows.lineGraphsSpec.plain.varTypes Tryz.prog) (ds ++ gs)).all (· ≤ reachBytes) = true := hsz0
  have hval : ∀ (j : Nat) t v, Tryz.f6.params[j]? = some t → args[j]? = some v → Value.okWide Tryz.prog W .any base t v := hval0
  have hW' := hW
  obtain ⟨p, q, hA0, hV, rfl, hfz, hnd⟩ := hW
  have hA : DataW.TrodAll enc Tryz.prog W 0 (fun _ => true) true Tryz.f6.params.toList args.toList ds p := hA0
  rw [Tryz.params6] at hA hval hsz
  obtain ⟨v0, vs0, d0, ds0, p0, q0, hargs, rfl, rfl, h0, r0⟩ := trodAll_cons hA
  obtain ⟨v1, vs1, d1, ds1, p1, q1, rfl, rfl, rfl, h1, r1⟩ := trodAll_cons r0
  obtain ⟨rfl, rfl, rfl⟩ := trodAll_nil r1
  obtain rfl : args = #[v0, v1] := by cases args; simp_all
  obtain ⟨rfl, rfl⟩ := trodVars_none hV
  have k0 := h0
  have lt0 : ∀ x ∈ p0, x.block < W.heap.size := by obtain ⟨m, hm⟩ := k0; exact DataW.trod_lt m _ _ _ hm
  obtain ⟨cs0, rfl, _⟩ := okWide_struct Tryz.underlying42 (hval 0 42 v0 rfl rfl)
  obtain ⟨fuel0, hf0⟩ := h0
  obtain ⟨x0, S0, G0⟩ := fitT_ok (O := OX (NoX (W₀ := W)) [] []) (fun b => own_none) 20 42 ((.prod (.list (.prod .str (.prod (.list .str) (.list (.prod .str (.prod (.int .i64) (.prod (.int .i64) .str))))))) (.list (.prod .str (.prod .str (.prod .str (.prod (.list .str) (.list (.prod .str (.prod (.int .i64) (.prod (.int .i64) .str))))))))))) (by kernel_rfl) fuel0 _ _ hf0 (fun m hm => by have hq := weights_each hsz (j := 0) (t := 42) rfl rfl m hm; exact of_decide_eq_true hq)
  have k1 := h1
  have lt1 : ∀ x ∈ p1, x.block < W.heap.size := by obtain ⟨m, hm⟩ := k1; exact DataW.trod_lt m _ _ _ hm
  obtain ⟨a1, len1, cap1, rfl⟩ := okWide_slice Tryz.underlying43 (hval 1 43 v1 rfl rfl)
  obtain ⟨fuel1, hf1⟩ := h1
  obtain ⟨x1, S1, G1⟩ := fitT_ok (O := OX (NoX (W₀ := W)) [] []) (fun b => own_none) 20 43 ((.list (.int .i64))) (by kernel_rfl) fuel1 _ _ hf1 (fun m hm => by have hq := weights_each hsz (j := 1) (t := 43) rfl rfl m hm; exact of_decide_eq_true hq)
  obtain ⟨K, hk⟩ := pure x0 x1 G0 G1
  have ha : AV1sR (OX (NoX (W₀ := W)) [] []) W [] [.agg (inj ((.prod (.list (.prod .str (.prod (.list .str) (.list (.prod .str (.prod (.int .i64) (.prod (.int .i64) .str))))))) (.list (.prod .str (.prod .str (.prod .str (.prod (.list .str) (.list (.prod .str (.prod (.int .i64) (.prod (.int .i64) .str))))))))))) x0), .sc (.list ((.int .i64)) x1 false)] (#[.agg cs0, .slice a1 len1 cap1] : Array Value).toList := .cons (arg_agg S0) (.cons (arg_sc S1 rfl) ⟨rfl, by simp⟩)
  refine (law_calls (good Tryz.prog sg (extok (htab := tab_of hL) (hsyn := (syn_of hL).choose_spec.choose_spec) (hran := (ran_of hL).choose_spec.choose_spec) (hmax := (max_of hSh).choose_spec)) mix num K) (f := 6) (t := (true : Bool)) (b := true) hk rfl (fun O w ρ vals σ v h hv => bool_of h hv) ha).mono fun e W' ⟨he, hd⟩ => ?_
  have bel : Below W.heap.size W W' := hd
  subst he
  exact ⟨_, rfl, _, _, _, [], _, [], hW', trodAll_mk1 (shut_bool Tryz.underlying4 _), (trodAll_cons_mk (Below.trod laidOut (by kernel_rfl) (of_decide_eq_true (by kernel_rfl)) k0 bel lt0) (trodAll_cons_mk (Below.trod laidOut (by kernel_rfl) (of_decide_eq_true (by kernel_rfl)) k1 bel lt1) trodAll_mk0)), rfl, bel.frame _, fun h => by cases h⟩
theorem over (pure : Pure) : Rows.lineGraphsRow.holds Tryz.pinned (OpenSpec.ofChange Rows.lineGraphsSpec) :=
  OpenClaim.holds_of_wide 6 Tryz.f6 rfl rfl rfl rfl rfl rfl rfl ⟨rfl, rfl, rfl, rfl, rfl⟩ rfl rfl rfl rfl rfl (by kernel_rfl) Tryz.func6 (by kernel_rfl)
    (of_decide_eq_true (by kernel_rfl)) (by unfold Func.isWrapper; first | (rw [if_pos (by decide +kernel)]; kernel_rfl) | (rw [if_neg (by decide +kernel)]; exact ⟨rfl, rfl⟩))
    (fun os started H enc _ => lifted pure os started H enc)
theorem proved (pure : Pure) : Rows.LineGraphsSaid := over pure
theorem card (pure : Pure) : Rows.LineGraphsCardSaid :=
  Claim7.holds_tied_plain_at .later [] [.data, .data, .data, .data, .sentinel, .sentinel, .pinned] true (true, "37c322a846269f2a6058176da1fdc10782fe381962436e72b44f1cc4d0f1b0e7") true
    (proved pure) (fun _ h => by cases h) (by kernel_rfl) (fun _ h => by cases h) lineGraphs_row_tie rfl ⟨rfl, rfl⟩ (by kernel_rfl) rfl
    (fun f fn hf hfn => by
      obtain rfl : f = 6 := Option.some.inj ((show Tryz.prog.funcNamed "pleach/pleachlaw43.LineGraphs" = some 6 by kernel_rfl).symm.trans hf) |>.symm
      obtain rfl : fn = Tryz.f6 := (Option.some.inj (Tryz.func6.symm.trans hfn)).symm
      refine ⟨by kernel_rfl, fun j t ht => ?_⟩
      rw [Tryz.params6] at ht
      have hm : t ∈ [42, 43] := by
        have := Array.mem_of_getElem? ht
        simpa using this
      simp only [List.mem_cons, List.mem_nil_iff, or_false] at hm
      rcases hm with rfl | rfl
      · exact (show Tryz.prog.wantsStandIn 42 = false by kernel_rfl)
      · exact (show Tryz.prog.wantsStandIn 43 = false by kernel_rfl))
    (by kernel_rfl)
end Go.Proofs.YthbaafcoidjflaaGreatDoor.AE.lineGraphs
end
