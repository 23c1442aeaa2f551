/- The evaluator of the program's form, its soundness, the functions of the given program as it evaluates them, and laws on these. Conditions: as each theorem says. -/
import Derived.Test.YtdblhdpnllckhaaGreatCGraphFindsN2
import Derived.Test.YtdblhdpnllckhaaGreatProg
section
set_option linter.unusedVariables false
set_option maxRecDepth 100000
namespace Go.Proofs.YtdblhdpnllckhaaGreat.AE
open Go
abbrev TValue : Type := Int × Int × ByteArray
abbrev sValue : Sh := (.prod (.int .i64) (.prod (.int .i64) .str))
abbrev TProp : Type := ByteArray × TValue
abbrev sProp : Sh := (.prod .str sValue)
abbrev TNode : Type := ByteArray × (List ByteArray) × List TProp
abbrev sNode : Sh := (.prod .str (.prod (.list .str) (.list sProp)))
abbrev TOp : Type := Int × ByteArray × ByteArray × ByteArray × TProp
abbrev sOp : Sh := (.prod (.int .i64) (.prod .str (.prod .str (.prod .str sProp))))
abbrev TEdge : Type := ByteArray × ByteArray × TNode
abbrev sEdge : Sh := (.prod .str (.prod .str sNode))
abbrev TGraph : Type := (List TNode) × List TEdge
abbrev sGraph : Sh := (.prod (.list sNode) (.list sEdge))
def sgT : List (Nat × Sig) := [
  (3, { ps := [(.agg sGraph), (.sc (.list sOp))], vals := [.sc .bool] }),
  (4, { ps := [(.agg sGraph), .raw, .raw], vals := [.sc .bool] }),
  (6, { ps := [(.agg sGraph)], vals := [.sc .bool] }),
  (7, { ps := [(.sc (.list sOp))], vals := [.sc .bool] }),
  (8, { vals := [.sc .bool] }),
  (9, { ps := [(.agg sGraph)], vals := [.agg sGraph [0, 1]], excl := [(6, [2]), (12, [3])] }),
  (10, { ps := [(.agg sGraph), (.sc (.list sOp))], tup := true, vals := [.agg sGraph, .sc (.int .i64), .sc (.int .i64)] }),
  (11, { ps := [(.agg sGraph), (.sc (.list sOp))], tup := true, vals := [.agg sGraph, .sc (.int .i64), .sc (.int .i64)] }),
  (12, { ps := [(.agg sGraph), (.agg sGraph)], vals := [.sc .bool] }),
  (13, { ps := [(.agg sGraph)], vals := [.sc (.int .i64)] }),
  (14, { ps := [(.agg sGraph), .raw], tup := true, vals := [.agg sNode, .sc .bool] }),
  (15, { ps := [(.agg sGraph), .raw], tup := true, vals := [.agg sEdge, .sc .bool] }),
  (16, { ps := [(.agg sGraph), .raw], vals := [.sc (.int .i64)] }),
  (17, { ps := [(.agg sGraph), .raw], vals := [.sc (.int .i64)] }),
  (18, { ps := [(.agg sNode), (.agg sNode)], vals := [.sc .bool] }),
  (19, { ps := [(.agg sEdge), (.agg sEdge)], vals := [.sc .bool] }),
  (20, { ps := [(.sc (.list sEdge)), (.sc (.list sEdge))], vals := [.sc .bool] }),
  (21, { ps := [(.agg sGraph), .raw], vals := [.own sEdge] }),
  (22, { ps := [(.agg sGraph), .raw], vals := [.own sEdge], coer := [(5, (.own sEdge))] }),
  (23, { ps := [(.agg sGraph), .raw], vals := [.own sEdge] }),
  (24, { ps := [(.agg sGraph), .raw], vals := [.own sEdge], coer := [(5, (.own sEdge))] }),
  (25, { ps := [(.sc (.list sNode)), (.sc (.list sNode))], vals := [.sc .bool] }),
  (26, { ps := [(.agg sGraph), .raw], vals := [.own sNode], coer := [(5, (.own sNode))] }),
  (27, { ps := [(.agg sGraph), .raw], vals := [.own sNode], coer := [(5, (.own sNode))] }),
  (32, { ps := [(.sc (.list .str)), (.sc (.list sProp))], vals := [.sc (.int .i64)] }),
  (33, { ps := [(.sc (.list sNode))], vals := [.own sNode] }),
  (34, { ps := [(.sc (.list sEdge))], vals := [.own sEdge] }),
  (35, { ps := [(.sc (.list .str))], vals := [.own .str] }),
  (36, { ps := [(.sc (.list sProp))], vals := [.own sProp] }),
  (37, { ps := [(.agg sGraph)], vals := [.sc (.int .i64)] }),
  (38, { ps := [.raw, (.agg sOp)], vals := [.sc (.int .i64)], blks := [.cells 0 sGraph [0, 1]] }),
  (39, { ps := [(.agg sGraph), (.agg sOp)], tup := true, vals := [.agg sGraph, .sc (.int .i64)] }),
  (40, { ps := [(.agg sNode)], vals := [.sc (.int .i64)] }),
  (41, { ps := [(.agg sEdge)], vals := [.sc (.int .i64)] }),
  (42, { ps := [(.agg sGraph), .raw], tup := true, vals := [.sc (.int .i64), .sc .bool] }),
  (43, { ps := [(.agg sGraph), .raw], tup := true, vals := [.sc (.int .i64), .sc .bool] }),
  (44, { ps := [(.sc (.list .str)), (.sc (.list .str))], vals := [.sc .bool] }),
  (45, { ps := [(.sc (.list sProp)), (.sc (.list sProp))], vals := [.sc .bool] }),
  (46, { ps := [(.agg sGraph), .raw], vals := [.own sEdge], blks := [.cells 0 .str], coer := [(5, (.own sEdge))] }),
  (47, { ps := [(.agg sEdge)], vals := [.sc .bool], blks := [.cells 0 .str] }),
  (48, { ps := [(.agg sEdge)], vals := [.sc .bool], blks := [.cells 0 .str] }),
  (49, { ps := [(.sc (.list .str)), .raw], tup := true, vals := [.sc (.int .i64), .sc .bool] }),
  (50, { ps := [(.sc (.list .str)), .raw], vals := [.sc .bool] }),
  (59, { ps := [(.agg sNode)], vals := [.sc (.int .i64)] }),
  (60, { ps := [(.agg sEdge)], vals := [.sc (.int .i64)] }),
  (61, { ps := [(.agg sOp)], vals := [.sc (.int .i64)] }),
  (62, { ps := [.raw, (.agg sOp)], vals := [.sc (.int .i64)], blks := [.cells 0 sGraph [0, 1]], excl := [(2, [1, 2]), (7, [2, 3, 4]), (9, [1, 2]), (14, [1, 3, 4])] }),
  (63, { ps := [.raw, (.agg sOp)], vals := [.sc (.int .i64)], blks := [.cells 0 sGraph [0, 1]], excl := [(2, [1, 2]), (7, [0, 1, 2]), (9, [1, 2]), (10, [1, 2]), (11, [1, 2]), (18, [0, 1, 2])] }),
  (64, { ps := [.raw, (.agg sOp)], vals := [.sc (.int .i64)], blks := [.cells 0 sGraph [0, 1]], excl := [(2, [1, 2]), (7, [1, 2])] }),
  (65, { ps := [(.agg sOp)], vals := [.sc .bool] }),
  (66, { ps := [(.agg sGraph), (.agg sOp)], tup := true, vals := [.agg sGraph, .sc (.int .i64)], excl := [(16, [1, 2]), (28, [1, 2])] }),
  (67, { ps := [(.agg sGraph)], vals := [.own sEdge] }),
  (68, { ps := [(.sc (.list .str)), (.sc (.list sProp)), (.agg sOp)], tup := true, vals := [.sc (.list .str), .sc (.list sProp), .sc (.int .i64)] }),
  (69, { ps := [(.agg sGraph)], vals := [.own sNode] }),
  (70, { vals := [.sc .bool] }),
  (71, { ps := [(.sc (.list .str)), (.sc (.list sProp))], vals := [.sc (.int .i64)] }),
  (72, { ps := [(.sc (.list sNode)), .raw, .raw], tup := true, vals := [.sc (.int .i64), .sc .bool] }),
  (73, { ps := [(.agg sNode), .raw], vals := [.sc (.int .i64)] }),
  (74, { vals := [.sc (.int .i64)] }),
  (75, { ps := [(.sc (.list sEdge)), .raw, .raw], tup := true, vals := [.sc (.int .i64), .sc .bool] }),
  (76, { ps := [(.agg sEdge), .raw], vals := [.sc (.int .i64)] }),
  (77, { ps := [(.sc (.list .str)), .raw], tup := true, vals := [.sc (.int .i64), .sc .bool] }),
  (87, { vals := [.sc (.int .i64)] }),
  (88, { ps := [(.sc (.list .str)), (.sc (.list sProp))], vals := [.sc (.int .i64)] }),
  (89, { ps := [(.sc (.list sProp)), .raw, (.agg sValue)], tup := true, vals := [.own sProp, .sc (.int .i64)] }),
  (90, { vals := [.sc .bool] }),
  (91, { ps := [(.sc (.list .str)), (.sc (.list sProp)), (.agg sOp)], tup := true, vals := [.own .str, .own sProp, .sc (.int .i64)], coer := [(0, (.sc (.list .str))), (1, (.sc (.list sProp)))] }),
  (92, { ps := [(.own sNode), .raw, (.sc (.list sNode))], vals := [.own sNode] }),
  (93, { ps := [(.own sEdge), .raw, (.sc (.list sEdge))], vals := [.own sEdge] }),
  (94, { ps := [(.own sEdge), .raw, .raw], vals := [.own sEdge], excl := [(5, [0])] }),
  (95, { ps := [(.sc (.list sEdge)), .raw], vals := [.sc .bool], blks := [.cells 0 sOp] }),
  (96, { ps := [(.agg sEdge)], vals := [.sc .bool], blks := [.cells 0 sOp] }),
  (97, { ps := [(.own sNode), .raw, .raw], vals := [.own sNode], excl := [(5, [0])] }),
  (98, { ps := [(.agg sValue)], vals := [.sc .bool] }),
  (99, { ps := [(.agg sGraph), (.agg sNode)], vals := [.agg sGraph], coer := [(5, (.own sNode))] }),
  (100, { ps := [(.agg sGraph), (.agg sEdge)], vals := [.agg sGraph], coer := [(5, (.own sEdge))] }),
  (101, { ps := [(.sc (.list .str)), .raw], tup := true, vals := [.sc (.list .str), .sc (.int .i64)] }),
  (102, { ps := [(.sc (.list .str)), .raw], tup := true, vals := [.own .str, .sc (.int .i64)] }),
  (103, { ps := [(.sc (.list sProp)), .raw, (.agg sValue)], tup := true, vals := [.own sProp, .sc (.int .i64)], coer := [(8, (.own sProp))] }),
  (104, { ps := [(.sc (.list sProp)), .raw], tup := true, vals := [.own sProp, .sc (.int .i64)] }),
  (105, { ps := [(.sc (.list .str))], vals := [.sc (.int .i64)] }),
  (106, { ps := [(.sc (.list sProp))], vals := [.sc (.int .i64)] }),
  (107, { vals := [.sc .bool] }),
  (108, { vals := [.sc .bool] }),
  (109, { vals := [.sc .bool] }),
  (122, { vals := [.sc .bool] }),
  (123, { ps := [(.sc (.list .str))], vals := [.sc (.int .i64)] }),
  (124, { ps := [(.sc (.list sProp))], vals := [.sc (.int .i64)] }),
  (125, { ps := [(.agg sValue)], vals := [.sc (.int .i64)] }),
  (126, { ps := [(.sc (.list sProp)), .raw], tup := true, vals := [.sc (.int .i64), .sc .bool] }),
  (127, { ps := [(.own sProp), .raw, (.sc (.list sProp))], vals := [.own sProp] }),
  (128, { ps := [(.sc (.list .str)), .raw], tup := true, vals := [.own .str, .sc (.int .i64)] }),
  (129, { ps := [(.sc (.list .str)), .raw], tup := true, vals := [.own .str, .sc (.int .i64)] }),
  (130, { ps := [(.sc (.list sProp)), .raw], tup := true, vals := [.own sProp, .sc (.int .i64)] }),
  (135, { ps := [(.sc (.list sEdge)), .raw], vals := [.sc (.int .i64)], blks := [.cells 0 sOp] }),
  (136, { ps := [(.sc (.list .str)), .raw], vals := [.sc (.list .str)] }),
  (137, { ps := [(.sc (.list .str)), (.sc (.list .str))], vals := [.own .str], coer := [(5, (.own .str))] }),
  (138, { ps := [(.sc (.list sProp)), .raw], vals := [.sc (.int .i64)] }),
  (153, { ps := [(.sc (.list sProp)), .raw, .raw], tup := true, vals := [.sc (.int .i64), .sc .bool] }),
  (154, { ps := [(.agg sProp), .raw], vals := [.sc (.int .i64)] }),
  (157, { ps := [(.sc (.list .str)), .raw], tup := true, vals := [.own .str, .sc .bool] }),
  (158, { ps := [(.sc (.list .str)), .raw], tup := true, vals := [.own .str, .sc .bool] }),
  (159, { ps := [(.own sProp), .raw, .raw], vals := [.own sProp], excl := [(5, [0])] }),
  (162, { ps := [(.sc (.list .str)), .raw], vals := [.sc (.int .i64)] }),
  (178, { ps := [(.own .str), .raw, (.sc (.list .str))], vals := [.own .str] }),
  (179, { ps := [(.own .str), .raw, .raw], vals := [.own .str], excl := [(5, [0])] })]
abbrev sg : FuncId → Sig := sigOf sgT
noncomputable def F.pleachref26_weight (K : Nat) (a0 : List ByteArray) (a1 : List TProp) : Option (Int) := evFn Tryz.prog sg K 32 [.sc (.list .str a0 false), .sc (.list sProp a1 false)] []
noncomputable def F.pleachref26_weight.at (K : Nat) (p ns : List Nat) (s : St) : Option (Int) := atFn Tryz.prog sg K 32 0 p ns s
noncomputable def F.pleachref26_weight.in (K : Nat) (H : List Nat → List Nat → St → Option (Int)) (p ns : List Nat) (s : St) : Option (Int) := inFn Tryz.prog sg K 32 0 [] H p ns s
theorem F.pleachref26_weight.in_eq K p ns s : F.pleachref26_weight.at K p ns s = F.pleachref26_weight.in K (F.pleachref26_weight.at K) p ns s := atFn_eq (P := Tryz.prog) (sg := sg) (K := K) (f := 32) (m := 0) [] p ns s
theorem F.pleachref26_weight.in_main K a0 a1 : F.pleachref26_weight (K + 1) a0 a1 = F.pleachref26_weight.in K (F.pleachref26_weight.at K) [] [] ⟨slots [.sc (.list .str a0 false), .sc (.list sProp a1 false)] 0, []⟩ := evFn_eq (P := Tryz.prog) (sg := sg) (K := K) (f := 32) (args := [.sc (.list .str a0 false), .sc (.list sProp a1 false)]) (σ := []) [] (by kernel_rfl)
def F.pleachref26_weight.l111010.st (a0 : List ByteArray) (a1 : List TProp) (x0 : Int) (x1 : Int) : St := ⟨[(0, vL .str a0), (1, vL sProp a1), (5, vI x0), (6, vI x1)], []⟩
noncomputable def F.pleachref26_weight.l111010 (K n0 : Nat) (a0 : List ByteArray) (a1 : List TProp) (x0 : Int) (x1 : Int) := F.pleachref26_weight.at K [1, 1, 1, 0, 1, 0] [n0] (F.pleachref26_weight.l111010.st a0 a1 x0 x1)
def F.pleachref26_weight.l1111010.st (a0 : List ByteArray) (a1 : List TProp) (x0 : Int) (x1 : Int) : St := ⟨[(1, vL sProp a1), (5, vI x0), (7, vI x1)], []⟩
noncomputable def F.pleachref26_weight.l1111010 (K n0 : Nat) (a0 : List ByteArray) (a1 : List TProp) (x0 : Int) (x1 : Int) := F.pleachref26_weight.at K [1, 1, 1, 1, 0, 1, 0] [n0] (F.pleachref26_weight.l1111010.st a0 a1 x0 x1)
noncomputable def F.pleachref26_weight.l111010.B (c0 : (List ByteArray) → (List TProp) → (Int) → (Int) → Option (Int)) (c1 : (List ByteArray) → (List TProp) → (Int) → (Int) → Option (Int)) (a0 : List ByteArray) (a1 : List TProp) (x0 : Int) (x1 : Int) : Option (Int) :=
    (bif (decide (x1 < (a0.length : Int))) then (guardK (decide (0 ≤ x1) && decide (x1 < (a0.length : Int))) (c0 a0 a1 (w64 (x0 + (if 5000 < ((rd .str a0 x1.toNat).size : Int) then 5000 else ((rd .str a0 x1.toNat).size : Int)))) (w64 (x1 + 1)))) else (c1 a0 a1 x0 0))
theorem F.pleachref26_weight.l111010.eq K n0 a0 a1 x0 x1 : F.pleachref26_weight.l111010 K (n0 + 1) a0 a1 x0 x1 = F.pleachref26_weight.l111010.B (F.pleachref26_weight.l111010 K n0) (F.pleachref26_weight.l1111010 K K) a0 a1 x0 x1 := (F.pleachref26_weight.in_eq K [1, 1, 1, 0, 1, 0] [n0 + 1] (F.pleachref26_weight.l111010.st a0 a1 x0 x1)).trans ((show ∀ H, F.pleachref26_weight.in K H [1, 1, 1, 0, 1, 0] [n0 + 1] (F.pleachref26_weight.l111010.st a0 a1 x0 x1) = F.pleachref26_weight.l111010.B (fun a0 a1 x0 x1 => H [1, 1, 1, 0, 1, 0] [n0] (F.pleachref26_weight.l111010.st a0 a1 x0 x1)) (fun a0 a1 x0 x1 => H [1, 1, 1, 1, 0, 1, 0] [K] (F.pleachref26_weight.l1111010.st a0 a1 x0 x1)) a0 a1 x0 x1 from by intro H; kernel_rfl) (F.pleachref26_weight.at K))
noncomputable def F.pleachref26_weight.l1111010.B (c0 : (List ByteArray) → (List TProp) → (Int) → (Int) → Option (Int)) (a0 : List ByteArray) (a1 : List TProp) (x0 : Int) (x1 : Int) : Option (Int) :=
    (bif (decide (x1 < (a1.length : Int))) then (guardK (decide (0 ≤ x1) && decide (x1 < (a1.length : Int))) (guardK (decide (0 ≤ x1) && decide (x1 < (a1.length : Int))) (c0 a0 a1 (w64 ((w64 (x0 + (if 5000 < (((rd sProp a1 x1.toNat).1).size : Int) then 5000 else (((rd sProp a1 x1.toNat).1).size : Int)))) + (if 5000 < (((((rd sProp a1 x1.toNat).2).2).2).size : Int) then 5000 else (((((rd sProp a1 x1.toNat).2).2).2).size : Int)))) (w64 (x1 + 1))))) else (some x0))
theorem F.pleachref26_weight.l1111010.eq K n0 a0 a1 x0 x1 : F.pleachref26_weight.l1111010 K (n0 + 1) a0 a1 x0 x1 = F.pleachref26_weight.l1111010.B (F.pleachref26_weight.l1111010 K n0) a0 a1 x0 x1 := (F.pleachref26_weight.in_eq K [1, 1, 1, 1, 0, 1, 0] [n0 + 1] (F.pleachref26_weight.l1111010.st a0 a1 x0 x1)).trans ((show ∀ H, F.pleachref26_weight.in K H [1, 1, 1, 1, 0, 1, 0] [n0 + 1] (F.pleachref26_weight.l1111010.st a0 a1 x0 x1) = F.pleachref26_weight.l1111010.B (fun a0 a1 x0 x1 => H [1, 1, 1, 1, 0, 1, 0] [n0] (F.pleachref26_weight.l1111010.st a0 a1 x0 x1)) a0 a1 x0 x1 from by intro H; kernel_rfl) (F.pleachref26_weight.at K))
noncomputable def F.pleachref26_weight.B (c0 : (List ByteArray) → (List TProp) → (Int) → (Int) → Option (Int)) (a0 : List ByteArray) (a1 : List TProp) : Option (Int) :=
    (bif (decide ((a0.length : Int) > 20)) then (some 100000) else (bif (decide ((a1.length : Int) > 20)) then (some 100000) else (c0 a0 a1 0 0)))
theorem F.pleachref26_weight.eq K a0 a1 : F.pleachref26_weight (K + 1) a0 a1 = F.pleachref26_weight.B (F.pleachref26_weight.l111010 K K) a0 a1 := (F.pleachref26_weight.in_main K a0 a1).trans ((show ∀ H, F.pleachref26_weight.in K H [] [] ⟨slots [.sc (.list .str a0 false), .sc (.list sProp a1 false)] 0, []⟩ = F.pleachref26_weight.B (fun a0 a1 x0 x1 => H [1, 1, 1, 0, 1, 0] [K] (F.pleachref26_weight.l111010.st a0 a1 x0 x1)) a0 a1 from by intro H; kernel_rfl) (F.pleachref26_weight.at K))
noncomputable def V.pleachref26_weight.l111010 (a0 : List ByteArray) (a1 : List TProp) (x0 : Int) (x1 : Int) := lim fun v => F.pleachref26_weight.l111010 (v 0) (v 1) a0 a1 x0 x1
noncomputable def V.pleachref26_weight.l1111010 (a0 : List ByteArray) (a1 : List TProp) (x0 : Int) (x1 : Int) := lim fun v => F.pleachref26_weight.l1111010 (v 0) (v 1) a0 a1 x0 x1
noncomputable def V.pleachref26_weight (a0 : List ByteArray) (a1 : List TProp) := lim fun v => F.pleachref26_weight (v 0) a0 a1
theorem V.pleachref26_weight.l111010.of a0 a1 x0 x1 {r} (h : F.pleachref26_weight.l111010.B V.pleachref26_weight.l111010 V.pleachref26_weight.l1111010 a0 a1 x0 x1 = some r) : V.pleachref26_weight.l111010 a0 a1 x0 x1 = some r :=
  App.to (App.step 1 (fun v => F.pleachref26_weight.l111010.eq (v 0) (v 1) a0 a1 x0 x1) (by unfold F.pleachref26_weight.l111010.B; repeat' first | exact App.val | exact App.no | exact App.lim | exact (App.enter 1 App.lim) | apply App.cond | apply App.guard | apply App.meet | apply App.ite | refine App.bind ?_ fun _ => ?_)) h
theorem V.pleachref26_weight.l1111010.of a0 a1 x0 x1 {r} (h : F.pleachref26_weight.l1111010.B V.pleachref26_weight.l1111010 a0 a1 x0 x1 = some r) : V.pleachref26_weight.l1111010 a0 a1 x0 x1 = some r :=
  App.to (App.step 1 (fun v => F.pleachref26_weight.l1111010.eq (v 0) (v 1) a0 a1 x0 x1) (by unfold F.pleachref26_weight.l1111010.B; repeat' first | exact App.val | exact App.no | exact App.lim | apply App.cond | apply App.guard | apply App.meet | apply App.ite | refine App.bind ?_ fun _ => ?_)) h
theorem V.pleachref26_weight.of a0 a1 {r} (h : F.pleachref26_weight.B V.pleachref26_weight.l111010 a0 a1 = some r) : V.pleachref26_weight a0 a1 = some r :=
  App.to (App.step 0 (fun v => F.pleachref26_weight.eq (v 0) a0 a1) (by unfold F.pleachref26_weight.B; repeat' first | exact App.val | exact App.no | exact App.lim | exact (App.enter 1 App.lim) | apply App.cond | apply App.guard | apply App.meet | apply App.ite | refine App.bind ?_ fun _ => ?_)) h
noncomputable def F.pleachref26_Few (K : Nat) (a0 : TGraph) : Option (Bool) := evFn Tryz.prog sg K 6 [.agg [.list sNode a0.1 false, .list sEdge a0.2 false]] []
noncomputable def F.pleachref26_Few.at (K : Nat) (p ns : List Nat) (s : St) : Option (Bool) := atFn Tryz.prog sg K 6 0 p ns s
noncomputable def F.pleachref26_Few.in (K : Nat) (H : List Nat → List Nat → St → Option (Bool)) (p ns : List Nat) (s : St) : Option (Bool) := inFn Tryz.prog sg K 6 0 [] H p ns s
theorem F.pleachref26_Few.in_eq K p ns s : F.pleachref26_Few.at K p ns s = F.pleachref26_Few.in K (F.pleachref26_Few.at K) p ns s := atFn_eq (P := Tryz.prog) (sg := sg) (K := K) (f := 6) (m := 0) [] p ns s
theorem F.pleachref26_Few.in_main K a0 : F.pleachref26_Few (K + 1) a0 = F.pleachref26_Few.in K (F.pleachref26_Few.at K) [] [] ⟨slots [.agg [.list sNode a0.1 false, .list sEdge a0.2 false]] 0, []⟩ := evFn_eq (P := Tryz.prog) (sg := sg) (K := K) (f := 6) (args := [.agg [.list sNode a0.1 false, .list sEdge a0.2 false]]) (σ := []) [] (by kernel_rfl)
def F.pleachref26_Few.l111010.st (a0 : TGraph) (x0 : Int) (x1 : Int) : St := ⟨[(1, .one (.sc (.ref 0 0))), (3, vI x0), (4, vI x1)], [.cells 25 [.list sNode a0.1 false, .list sEdge a0.2 false]]⟩
noncomputable def F.pleachref26_Few.l111010 (K n0 : Nat) (a0 : TGraph) (x0 : Int) (x1 : Int) := F.pleachref26_Few.at K [1, 1, 1, 0, 1, 0] [n0] (F.pleachref26_Few.l111010.st a0 x0 x1)
def F.pleachref26_Few.l1111010.st (a0 : TGraph) (x0 : Int) (x1 : Int) : St := ⟨[(1, .one (.sc (.ref 0 0))), (3, vI x0), (5, vI x1)], [.cells 25 [.list sNode a0.1 false, .list sEdge a0.2 false]]⟩
noncomputable def F.pleachref26_Few.l1111010 (K n0 : Nat) (a0 : TGraph) (x0 : Int) (x1 : Int) := F.pleachref26_Few.at K [1, 1, 1, 1, 0, 1, 0] [n0] (F.pleachref26_Few.l1111010.st a0 x0 x1)
noncomputable def F.pleachref26_Few.l111010.B (c0 : (List ByteArray) → (List TProp) → Option (Int)) (c1 : (TGraph) → (Int) → (Int) → Option (Bool)) (c2 : (TGraph) → (Int) → (Int) → Option (Bool)) (a0 : TGraph) (x0 : Int) (x1 : Int) : Option (Bool) :=
    (bif (decide (x1 < (a0.1.length : Int))) then (guardK (decide (0 ≤ x1) && decide (x1 < (a0.1.length : Int))) (guardK (decide (0 ≤ x1) && decide (x1 < (a0.1.length : Int))) (guardK (decide (0 ≤ x1) && decide (x1 < (a0.1.length : Int))) ((c0 (((rd sNode a0.1 x1.toNat).2).1) (((rd sNode a0.1 x1.toNat).2).2)).bind fun t0 => (c1 a0 (w64 ((w64 (x0 + (if 5000 < (((rd sNode a0.1 x1.toNat).1).size : Int) then 5000 else (((rd sNode a0.1 x1.toNat).1).size : Int)))) + t0)) (w64 (x1 + 1))))))) else (c2 a0 x0 0))
theorem F.pleachref26_Few.l111010.eq K n0 a0 x0 x1 : F.pleachref26_Few.l111010 K (n0 + 1) a0 x0 x1 = F.pleachref26_Few.l111010.B (F.pleachref26_weight K) (F.pleachref26_Few.l111010 K n0) (F.pleachref26_Few.l1111010 K K) a0 x0 x1 := (F.pleachref26_Few.in_eq K [1, 1, 1, 0, 1, 0] [n0 + 1] (F.pleachref26_Few.l111010.st a0 x0 x1)).trans ((show ∀ H, F.pleachref26_Few.in K H [1, 1, 1, 0, 1, 0] [n0 + 1] (F.pleachref26_Few.l111010.st a0 x0 x1) = F.pleachref26_Few.l111010.B (F.pleachref26_weight K) (fun a0 x0 x1 => H [1, 1, 1, 0, 1, 0] [n0] (F.pleachref26_Few.l111010.st a0 x0 x1)) (fun a0 x0 x1 => H [1, 1, 1, 1, 0, 1, 0] [K] (F.pleachref26_Few.l1111010.st a0 x0 x1)) a0 x0 x1 from by intro H; kernel_rfl) (F.pleachref26_Few.at K))
noncomputable def F.pleachref26_Few.l1111010.B (c0 : (List ByteArray) → (List TProp) → Option (Int)) (c1 : (TGraph) → (Int) → (Int) → Option (Bool)) (a0 : TGraph) (x0 : Int) (x1 : Int) : Option (Bool) :=
    (bif (decide (x1 < (a0.2.length : Int))) then (guardK (decide (0 ≤ x1) && decide (x1 < (a0.2.length : Int))) ((c0 (((((rd sEdge a0.2 x1.toNat).2).2).2).1) (((((rd sEdge a0.2 x1.toNat).2).2).2).2)).bind fun t1 => (c1 a0 (w64 ((w64 ((w64 ((w64 (x0 + (if 5000 < (((rd sEdge a0.2 x1.toNat).1).size : Int) then 5000 else (((rd sEdge a0.2 x1.toNat).1).size : Int)))) + (if 5000 < ((((rd sEdge a0.2 x1.toNat).2).1).size : Int) then 5000 else ((((rd sEdge a0.2 x1.toNat).2).1).size : Int)))) + (if 5000 < (((((rd sEdge a0.2 x1.toNat).2).2).1).size : Int) then 5000 else (((((rd sEdge a0.2 x1.toNat).2).2).1).size : Int)))) + t1)) (w64 (x1 + 1))))) else (some (decide (x0 ≤ 5000))))
theorem F.pleachref26_Few.l1111010.eq K n0 a0 x0 x1 : F.pleachref26_Few.l1111010 K (n0 + 1) a0 x0 x1 = F.pleachref26_Few.l1111010.B (F.pleachref26_weight K) (F.pleachref26_Few.l1111010 K n0) a0 x0 x1 := (F.pleachref26_Few.in_eq K [1, 1, 1, 1, 0, 1, 0] [n0 + 1] (F.pleachref26_Few.l1111010.st a0 x0 x1)).trans ((show ∀ H, F.pleachref26_Few.in K H [1, 1, 1, 1, 0, 1, 0] [n0 + 1] (F.pleachref26_Few.l1111010.st a0 x0 x1) = F.pleachref26_Few.l1111010.B (F.pleachref26_weight K) (fun a0 x0 x1 => H [1, 1, 1, 1, 0, 1, 0] [n0] (F.pleachref26_Few.l1111010.st a0 x0 x1)) a0 x0 x1 from by intro H; kernel_rfl) (F.pleachref26_Few.at K))
noncomputable def F.pleachref26_Few.B (c0 : (TGraph) → (Int) → (Int) → Option (Bool)) (a0 : TGraph) : Option (Bool) :=
    (bif (decide ((a0.1.length : Int) > 40)) then (some false) else (bif (decide ((a0.2.length : Int) > 60)) then (some false) else (c0 a0 0 0)))
theorem F.pleachref26_Few.eq K a0 : F.pleachref26_Few (K + 1) a0 = F.pleachref26_Few.B (F.pleachref26_Few.l111010 K K) a0 := (F.pleachref26_Few.in_main K a0).trans ((show ∀ H, F.pleachref26_Few.in K H [] [] ⟨slots [.agg [.list sNode a0.1 false, .list sEdge a0.2 false]] 0, []⟩ = F.pleachref26_Few.B (fun a0 x0 x1 => H [1, 1, 1, 0, 1, 0] [K] (F.pleachref26_Few.l111010.st a0 x0 x1)) a0 from by intro H; kernel_rfl) (F.pleachref26_Few.at K))
noncomputable def V.pleachref26_Few.l111010 (a0 : TGraph) (x0 : Int) (x1 : Int) := lim fun v => F.pleachref26_Few.l111010 (v 0) (v 1) a0 x0 x1
noncomputable def V.pleachref26_Few.l1111010 (a0 : TGraph) (x0 : Int) (x1 : Int) := lim fun v => F.pleachref26_Few.l1111010 (v 0) (v 1) a0 x0 x1
noncomputable def V.pleachref26_Few (a0 : TGraph) := lim fun v => F.pleachref26_Few (v 0) a0
theorem V.pleachref26_Few.l111010.of a0 x0 x1 {r} (h : F.pleachref26_Few.l111010.B V.pleachref26_weight V.pleachref26_Few.l111010 V.pleachref26_Few.l1111010 a0 x0 x1 = some r) : V.pleachref26_Few.l111010 a0 x0 x1 = some r :=
  App.to (App.step 1 (fun v => F.pleachref26_Few.l111010.eq (v 0) (v 1) a0 x0 x1) (by unfold F.pleachref26_Few.l111010.B; repeat' first | exact App.val | exact App.no | exact App.lim | exact (App.enter 1 App.lim) | apply App.cond | apply App.guard | apply App.meet | apply App.ite | refine App.bind ?_ fun _ => ?_)) h
theorem V.pleachref26_Few.l1111010.of a0 x0 x1 {r} (h : F.pleachref26_Few.l1111010.B V.pleachref26_weight V.pleachref26_Few.l1111010 a0 x0 x1 = some r) : V.pleachref26_Few.l1111010 a0 x0 x1 = some r :=
  App.to (App.step 1 (fun v => F.pleachref26_Few.l1111010.eq (v 0) (v 1) a0 x0 x1) (by unfold F.pleachref26_Few.l1111010.B; repeat' first | exact App.val | exact App.no | exact App.lim | apply App.cond | apply App.guard | apply App.meet | apply App.ite | refine App.bind ?_ fun _ => ?_)) h
theorem V.pleachref26_Few.of a0 {r} (h : F.pleachref26_Few.B V.pleachref26_Few.l111010 a0 = some r) : V.pleachref26_Few a0 = some r :=
  App.to (App.step 0 (fun v => F.pleachref26_Few.eq (v 0) a0) (by unfold F.pleachref26_Few.B; repeat' first | exact App.val | exact App.no | exact App.lim | exact (App.enter 1 App.lim) | apply App.cond | apply App.guard | apply App.meet | apply App.ite | refine App.bind ?_ fun _ => ?_)) h
noncomputable def F.name_fits (K : Nat) (a0 : Int) : Option (Bool) := evFn Tryz.prog sg K 122 [.sc (.val (.int .u8 a0))] []
noncomputable def F.name_fits.B (a0 : Int) : Option (Bool) :=
    (bif (decide (a0 ≥ 97)) then (bif (decide (a0 ≤ 122)) then (some true) else (bif (decide (a0 ≥ 48)) then (bif (decide (a0 ≤ 57)) then (some true) else (some (a0 == 45))) else (some (a0 == 45)))) else (bif (decide (a0 ≥ 48)) then (bif (decide (a0 ≤ 57)) then (some true) else (some (a0 == 45))) else (some (a0 == 45))))
theorem F.name_fits.eq K a0 : F.name_fits (K + 1) a0 = F.name_fits.B a0 := by kernel_rfl
noncomputable def V.name_fits (a0 : Int) := lim fun v => F.name_fits (v 0) a0
theorem V.name_fits.of a0 {r} (h : F.name_fits.B a0 = some r) : V.name_fits a0 = some r :=
  App.to (App.step 0 (fun v => F.name_fits.eq (v 0) a0) (by unfold F.name_fits.B; repeat' first | exact App.val | exact App.no | exact App.lim | apply App.cond | apply App.guard | apply App.meet | apply App.ite | refine App.bind ?_ fun _ => ?_)) h
noncomputable def F.name_Check (K : Nat) (a0 : ByteArray) : Option (Int) := evFn Tryz.prog sg K 87 [.sc (.val (.string a0))] []
noncomputable def F.name_Check.at (K : Nat) (p ns : List Nat) (s : St) : Option (Int) := atFn Tryz.prog sg K 87 0 p ns s
noncomputable def F.name_Check.in (K : Nat) (H : List Nat → List Nat → St → Option (Int)) (p ns : List Nat) (s : St) : Option (Int) := inFn Tryz.prog sg K 87 0 [] H p ns s
theorem F.name_Check.in_eq K p ns s : F.name_Check.at K p ns s = F.name_Check.in K (F.name_Check.at K) p ns s := atFn_eq (P := Tryz.prog) (sg := sg) (K := K) (f := 87) (m := 0) [] p ns s
theorem F.name_Check.in_main K a0 : F.name_Check (K + 1) a0 = F.name_Check.in K (F.name_Check.at K) [] [] ⟨slots [.sc (.val (.string a0))] 0, []⟩ := evFn_eq (P := Tryz.prog) (sg := sg) (K := K) (f := 87) (args := [.sc (.val (.string a0))]) (σ := []) [] (by kernel_rfl)
def F.name_Check.l11010.st (a0 : ByteArray) (x0 : Int) : St := ⟨[(0, vS a0), (12, vI (a0.size : Int)), (13, vI x0)], []⟩
noncomputable def F.name_Check.l11010 (K n0 : Nat) (a0 : ByteArray) (x0 : Int) := F.name_Check.at K [1, 1, 0, 1, 0] [n0] (F.name_Check.l11010.st a0 x0)
noncomputable def F.name_Check.l11010.B (c0 : (Int) → Option (Bool)) (c1 : (ByteArray) → (Int) → Option (Int)) (a0 : ByteArray) (x0 : Int) : Option (Int) :=
    (bif (decide (x0 < (a0.size : Int))) then (guardK (decide (0 ≤ x0) && decide (x0 < (a0.size : Int))) ((c0 (byteAt a0 x0)).bind fun t0 => (bif (!t0) then (some 2) else (c1 a0 (w64 (x0 + 1)))))) else (some 0))
theorem F.name_Check.l11010.eq K n0 a0 x0 : F.name_Check.l11010 K (n0 + 1) a0 x0 = F.name_Check.l11010.B (F.name_fits K) (F.name_Check.l11010 K n0) a0 x0 := (F.name_Check.in_eq K [1, 1, 0, 1, 0] [n0 + 1] (F.name_Check.l11010.st a0 x0)).trans ((show ∀ H, F.name_Check.in K H [1, 1, 0, 1, 0] [n0 + 1] (F.name_Check.l11010.st a0 x0) = F.name_Check.l11010.B (F.name_fits K) (fun a0 x0 => H [1, 1, 0, 1, 0] [n0] (F.name_Check.l11010.st a0 x0)) a0 x0 from by intro H; kernel_rfl) (F.name_Check.at K))
noncomputable def F.name_Check.B (c0 : (ByteArray) → (Int) → Option (Int)) (a0 : ByteArray) : Option (Int) :=
    (bif (strEq a0 (⟨#[]⟩ : ByteArray)) then (some 2) else (bif (decide ((a0.size : Int) > 12)) then (some 2) else (c0 a0 0)))
theorem F.name_Check.eq K a0 : F.name_Check (K + 1) a0 = F.name_Check.B (F.name_Check.l11010 K K) a0 := (F.name_Check.in_main K a0).trans ((show ∀ H, F.name_Check.in K H [] [] ⟨slots [.sc (.val (.string a0))] 0, []⟩ = F.name_Check.B (fun a0 x0 => H [1, 1, 0, 1, 0] [K] (F.name_Check.l11010.st a0 x0)) a0 from by intro H; kernel_rfl) (F.name_Check.at K))
noncomputable def V.name_Check.l11010 (a0 : ByteArray) (x0 : Int) := lim fun v => F.name_Check.l11010 (v 0) (v 1) a0 x0
noncomputable def V.name_Check (a0 : ByteArray) := lim fun v => F.name_Check (v 0) a0
theorem V.name_Check.l11010.of a0 x0 {r} (h : F.name_Check.l11010.B V.name_fits V.name_Check.l11010 a0 x0 = some r) : V.name_Check.l11010 a0 x0 = some r :=
  App.to (App.step 1 (fun v => F.name_Check.l11010.eq (v 0) (v 1) a0 x0) (by unfold F.name_Check.l11010.B; repeat' first | exact App.val | exact App.no | exact App.lim | apply App.cond | apply App.guard | apply App.meet | apply App.ite | refine App.bind ?_ fun _ => ?_)) h
theorem V.name_Check.of a0 {r} (h : F.name_Check.B V.name_Check.l11010 a0 = some r) : V.name_Check a0 = some r :=
  App.to (App.step 0 (fun v => F.name_Check.eq (v 0) a0) (by unfold F.name_Check.B; repeat' first | exact App.val | exact App.no | exact App.lim | exact (App.enter 1 App.lim) | apply App.cond | apply App.guard | apply App.meet | apply App.ite | refine App.bind ?_ fun _ => ?_)) h
noncomputable def F.name_Row (K : Nat) (a0 : List ByteArray) : Option (Int) := evFn Tryz.prog sg K 123 [.sc (.list .str a0 false)] []
noncomputable def F.name_Row.at (K : Nat) (p ns : List Nat) (s : St) : Option (Int) := atFn Tryz.prog sg K 123 0 p ns s
noncomputable def F.name_Row.in (K : Nat) (H : List Nat → List Nat → St → Option (Int)) (p ns : List Nat) (s : St) : Option (Int) := inFn Tryz.prog sg K 123 0 [] H p ns s
theorem F.name_Row.in_eq K p ns s : F.name_Row.at K p ns s = F.name_Row.in K (F.name_Row.at K) p ns s := atFn_eq (P := Tryz.prog) (sg := sg) (K := K) (f := 123) (m := 0) [] p ns s
theorem F.name_Row.in_main K a0 : F.name_Row (K + 1) a0 = F.name_Row.in K (F.name_Row.at K) [] [] ⟨slots [.sc (.list .str a0 false)] 0, []⟩ := evFn_eq (P := Tryz.prog) (sg := sg) (K := K) (f := 123) (args := [.sc (.list .str a0 false)]) (σ := []) [] (by kernel_rfl)
def F.name_Row.l1010.st (a0 : List ByteArray) (x0 : Int) : St := ⟨[(0, vL .str a0), (6, vL .str a0), (7, vI (a0.length : Int)), (8, vI x0)], []⟩
noncomputable def F.name_Row.l1010 (K n0 : Nat) (a0 : List ByteArray) (x0 : Int) := F.name_Row.at K [1, 0, 1, 0] [n0] (F.name_Row.l1010.st a0 x0)
noncomputable def F.name_Row.l1010.B (c0 : (ByteArray) → Option (Int)) (c1 : (List ByteArray) → (Int) → Option (Int)) (a0 : List ByteArray) (x0 : Int) : Option (Int) :=
    (bif (decide (x0 < (a0.length : Int))) then (guardK (decide (0 ≤ x0) && decide (x0 < (a0.length : Int))) ((c0 (rd .str a0 x0.toNat)).bind fun t0 => (bif (t0 != 0) then (some t0) else (bif (decide (x0 > 0)) then (guardK (decide (0 ≤ (w64 (x0 - 1))) && decide ((w64 (x0 - 1)) < (a0.length : Int))) (bif (!strLt (rd .str a0 ((w64 (x0 - 1)).toNat)) (rd .str a0 x0.toNat)) then (some 4) else (c1 a0 (w64 (x0 + 1))))) else (c1 a0 (w64 (x0 + 1))))))) else (some 0))
theorem F.name_Row.l1010.eq K n0 a0 x0 : F.name_Row.l1010 K (n0 + 1) a0 x0 = F.name_Row.l1010.B (F.name_Check K) (F.name_Row.l1010 K n0) a0 x0 := (F.name_Row.in_eq K [1, 0, 1, 0] [n0 + 1] (F.name_Row.l1010.st a0 x0)).trans ((show ∀ H, F.name_Row.in K H [1, 0, 1, 0] [n0 + 1] (F.name_Row.l1010.st a0 x0) = F.name_Row.l1010.B (F.name_Check K) (fun a0 x0 => H [1, 0, 1, 0] [n0] (F.name_Row.l1010.st a0 x0)) a0 x0 from by intro H; kernel_rfl) (F.name_Row.at K))
noncomputable def F.name_Row.B (c0 : (List ByteArray) → (Int) → Option (Int)) (a0 : List ByteArray) : Option (Int) :=
    (c0 a0 0)
theorem F.name_Row.eq K a0 : F.name_Row (K + 1) a0 = F.name_Row.B (F.name_Row.l1010 K K) a0 := (F.name_Row.in_main K a0).trans ((show ∀ H, F.name_Row.in K H [] [] ⟨slots [.sc (.list .str a0 false)] 0, []⟩ = F.name_Row.B (fun a0 x0 => H [1, 0, 1, 0] [K] (F.name_Row.l1010.st a0 x0)) a0 from by intro H; kernel_rfl) (F.name_Row.at K))
noncomputable def V.name_Row.l1010 (a0 : List ByteArray) (x0 : Int) := lim fun v => F.name_Row.l1010 (v 0) (v 1) a0 x0
noncomputable def V.name_Row (a0 : List ByteArray) := lim fun v => F.name_Row (v 0) a0
theorem V.name_Row.l1010.of a0 x0 {r} (h : F.name_Row.l1010.B V.name_Check V.name_Row.l1010 a0 x0 = some r) : V.name_Row.l1010 a0 x0 = some r :=
  App.to (App.step 1 (fun v => F.name_Row.l1010.eq (v 0) (v 1) a0 x0) (by unfold F.name_Row.l1010.B; repeat' first | exact App.val | exact App.no | exact App.lim | apply App.cond | apply App.guard | apply App.meet | apply App.ite | refine App.bind ?_ fun _ => ?_)) h
theorem V.name_Row.of a0 {r} (h : F.name_Row.B V.name_Row.l1010 a0 = some r) : V.name_Row a0 = some r :=
  App.to (App.step 0 (fun v => F.name_Row.eq (v 0) a0) (by unfold F.name_Row.B; repeat' first | exact App.val | exact App.no | exact App.lim | exact (App.enter 1 App.lim) | apply App.cond | apply App.guard | apply App.meet | apply App.ite | refine App.bind ?_ fun _ => ?_)) h
noncomputable def F.value_Check (K : Nat) (a0 : TValue) : Option (Int) := evFn Tryz.prog sg K 125 [.agg [.val (.int .i64 a0.1), .val (.int .i64 a0.2.1), .val (.string a0.2.2)]] []
noncomputable def F.value_Check.B (a0 : TValue) : Option (Int) :=
    (bif (a0.1 == 1) then (bif (a0.2.1 == 0) then (bif (!(strEq a0.2.2 (⟨#[]⟩ : ByteArray))) then (some 2) else (some 0)) else (bif (a0.2.1 == 1) then (bif (!(strEq a0.2.2 (⟨#[]⟩ : ByteArray))) then (some 2) else (some 0)) else (some 2))) else (bif (a0.1 == 2) then (bif (!(strEq a0.2.2 (⟨#[]⟩ : ByteArray))) then (some 2) else (some 0)) else (bif (a0.1 == 3) then (bif (a0.2.1 == 0) then (bif (!(decide ((a0.2.2.size : Int) ≤ 64))) then (some 2) else (some 0)) else (some 2)) else (some 2))))
theorem F.value_Check.eq K a0 : F.value_Check (K + 1) a0 = F.value_Check.B a0 := by kernel_rfl
noncomputable def V.value_Check (a0 : TValue) := lim fun v => F.value_Check (v 0) a0
theorem V.value_Check.of a0 {r} (h : F.value_Check.B a0 = some r) : V.value_Check a0 = some r :=
  App.to (App.step 0 (fun v => F.value_Check.eq (v 0) a0) (by unfold F.value_Check.B; repeat' first | exact App.val | exact App.no | exact App.lim | apply App.cond | apply App.guard | apply App.meet | apply App.ite | refine App.bind ?_ fun _ => ?_)) h
noncomputable def F.elem_CheckProps (K : Nat) (a0 : List TProp) : Option (Int) := evFn Tryz.prog sg K 124 [.sc (.list sProp a0 false)] []
noncomputable def F.elem_CheckProps.at (K : Nat) (p ns : List Nat) (s : St) : Option (Int) := atFn Tryz.prog sg K 124 0 p ns s
noncomputable def F.elem_CheckProps.in (K : Nat) (H : List Nat → List Nat → St → Option (Int)) (p ns : List Nat) (s : St) : Option (Int) := inFn Tryz.prog sg K 124 0 [] H p ns s
theorem F.elem_CheckProps.in_eq K p ns s : F.elem_CheckProps.at K p ns s = F.elem_CheckProps.in K (F.elem_CheckProps.at K) p ns s := atFn_eq (P := Tryz.prog) (sg := sg) (K := K) (f := 124) (m := 0) [] p ns s
theorem F.elem_CheckProps.in_main K a0 : F.elem_CheckProps (K + 1) a0 = F.elem_CheckProps.in K (F.elem_CheckProps.at K) [] [] ⟨slots [.sc (.list sProp a0 false)] 0, []⟩ := evFn_eq (P := Tryz.prog) (sg := sg) (K := K) (f := 124) (args := [.sc (.list sProp a0 false)]) (σ := []) [] (by kernel_rfl)
def F.elem_CheckProps.l11010.st (a0 : List TProp) (x0 : Int) : St := ⟨[(0, vL sProp a0), (8, vL sProp a0), (9, vI (a0.length : Int)), (10, vI x0)], []⟩
noncomputable def F.elem_CheckProps.l11010 (K n0 : Nat) (a0 : List TProp) (x0 : Int) := F.elem_CheckProps.at K [1, 1, 0, 1, 0] [n0] (F.elem_CheckProps.l11010.st a0 x0)
noncomputable def F.elem_CheckProps.l11010.B (c0 : (ByteArray) → Option (Int)) (c1 : (TValue) → Option (Int)) (c2 : (List TProp) → (Int) → Option (Int)) (a0 : List TProp) (x0 : Int) : Option (Int) :=
    (bif (decide (x0 < (a0.length : Int))) then (guardK (decide (0 ≤ x0) && decide (x0 < (a0.length : Int))) ((c0 ((rd sProp a0 x0.toNat).1)).bind fun t0 => (bif (t0 != 0) then (some 2) else ((c1 (((rd sProp a0 x0.toNat).2).1, (((rd sProp a0 x0.toNat).2).2).1, (((rd sProp a0 x0.toNat).2).2).2)).bind fun t1 => (bif (t1 != 0) then (some 2) else (bif (decide (x0 > 0)) then (guardK (decide (0 ≤ (w64 (x0 - 1))) && decide ((w64 (x0 - 1)) < (a0.length : Int))) (bif (!strLt ((rd sProp a0 ((w64 (x0 - 1)).toNat)).1) ((rd sProp a0 x0.toNat).1)) then (some 4) else (c2 a0 (w64 (x0 + 1))))) else (c2 a0 (w64 (x0 + 1))))))))) else (some 0))
theorem F.elem_CheckProps.l11010.eq K n0 a0 x0 : F.elem_CheckProps.l11010 K (n0 + 1) a0 x0 = F.elem_CheckProps.l11010.B (F.name_Check K) (F.value_Check K) (F.elem_CheckProps.l11010 K n0) a0 x0 := (F.elem_CheckProps.in_eq K [1, 1, 0, 1, 0] [n0 + 1] (F.elem_CheckProps.l11010.st a0 x0)).trans ((show ∀ H, F.elem_CheckProps.in K H [1, 1, 0, 1, 0] [n0 + 1] (F.elem_CheckProps.l11010.st a0 x0) = F.elem_CheckProps.l11010.B (F.name_Check K) (F.value_Check K) (fun a0 x0 => H [1, 1, 0, 1, 0] [n0] (F.elem_CheckProps.l11010.st a0 x0)) a0 x0 from by intro H; kernel_rfl) (F.elem_CheckProps.at K))
noncomputable def F.elem_CheckProps.B (c0 : (List TProp) → (Int) → Option (Int)) (a0 : List TProp) : Option (Int) :=
    (bif (decide ((a0.length : Int) > 8)) then (some 5) else (c0 a0 0))
theorem F.elem_CheckProps.eq K a0 : F.elem_CheckProps (K + 1) a0 = F.elem_CheckProps.B (F.elem_CheckProps.l11010 K K) a0 := (F.elem_CheckProps.in_main K a0).trans ((show ∀ H, F.elem_CheckProps.in K H [] [] ⟨slots [.sc (.list sProp a0 false)] 0, []⟩ = F.elem_CheckProps.B (fun a0 x0 => H [1, 1, 0, 1, 0] [K] (F.elem_CheckProps.l11010.st a0 x0)) a0 from by intro H; kernel_rfl) (F.elem_CheckProps.at K))
noncomputable def V.elem_CheckProps.l11010 (a0 : List TProp) (x0 : Int) := lim fun v => F.elem_CheckProps.l11010 (v 0) (v 1) a0 x0
noncomputable def V.elem_CheckProps (a0 : List TProp) := lim fun v => F.elem_CheckProps (v 0) a0
theorem V.elem_CheckProps.l11010.of a0 x0 {r} (h : F.elem_CheckProps.l11010.B V.name_Check V.value_Check V.elem_CheckProps.l11010 a0 x0 = some r) : V.elem_CheckProps.l11010 a0 x0 = some r :=
  App.to (App.step 1 (fun v => F.elem_CheckProps.l11010.eq (v 0) (v 1) a0 x0) (by unfold F.elem_CheckProps.l11010.B; repeat' first | exact App.val | exact App.no | exact App.lim | apply App.cond | apply App.guard | apply App.meet | apply App.ite | refine App.bind ?_ fun _ => ?_)) h
theorem V.elem_CheckProps.of a0 {r} (h : F.elem_CheckProps.B V.elem_CheckProps.l11010 a0 = some r) : V.elem_CheckProps a0 = some r :=
  App.to (App.step 0 (fun v => F.elem_CheckProps.eq (v 0) a0) (by unfold F.elem_CheckProps.B; repeat' first | exact App.val | exact App.no | exact App.lim | exact (App.enter 1 App.lim) | apply App.cond | apply App.guard | apply App.meet | apply App.ite | refine App.bind ?_ fun _ => ?_)) h
noncomputable def F.elem_rest (K : Nat) (a0 : List ByteArray) (a1 : List TProp) : Option (Int) := evFn Tryz.prog sg K 88 [.sc (.list .str a0 false), .sc (.list sProp a1 false)] []
noncomputable def F.elem_rest.B (c0 : (List ByteArray) → Option (Int)) (c1 : (List TProp) → Option (Int)) (a0 : List ByteArray) (a1 : List TProp) : Option (Int) :=
    (bif (decide ((a0.length : Int) > 8)) then (some 5) else ((c0 a0).bind fun t0 => (bif (t0 != 0) then (some t0) else ((c1 a1).bind fun t1 => (some t1)))))
theorem F.elem_rest.eq K a0 a1 : F.elem_rest (K + 1) a0 a1 = F.elem_rest.B (F.name_Row K) (F.elem_CheckProps K) a0 a1 := by kernel_rfl
noncomputable def V.elem_rest (a0 : List ByteArray) (a1 : List TProp) := lim fun v => F.elem_rest (v 0) a0 a1
theorem V.elem_rest.of a0 a1 {r} (h : F.elem_rest.B V.name_Row V.elem_CheckProps a0 a1 = some r) : V.elem_rest a0 a1 = some r :=
  App.to (App.step 0 (fun v => F.elem_rest.eq (v 0) a0 a1) (by unfold F.elem_rest.B; repeat' first | exact App.val | exact App.no | exact App.lim | apply App.cond | apply App.guard | apply App.meet | apply App.ite | refine App.bind ?_ fun _ => ?_)) h
noncomputable def F.elem_CheckNode (K : Nat) (a0 : TNode) : Option (Int) := evFn Tryz.prog sg K 59 [.agg [.val (.string a0.1), .list .str a0.2.1 false, .list sProp a0.2.2 false]] []
noncomputable def F.elem_CheckNode.B (c0 : (ByteArray) → Option (Int)) (c1 : (List ByteArray) → (List TProp) → Option (Int)) (a0 : TNode) : Option (Int) :=
    ((c0 a0.1).bind fun t0 => (bif (t0 != 0) then (some t0) else ((c1 a0.2.1 a0.2.2).bind fun t1 => (some t1))))
theorem F.elem_CheckNode.eq K a0 : F.elem_CheckNode (K + 1) a0 = F.elem_CheckNode.B (F.name_Check K) (F.elem_rest K) a0 := by kernel_rfl
noncomputable def V.elem_CheckNode (a0 : TNode) := lim fun v => F.elem_CheckNode (v 0) a0
theorem V.elem_CheckNode.of a0 {r} (h : F.elem_CheckNode.B V.name_Check V.elem_rest a0 = some r) : V.elem_CheckNode a0 = some r :=
  App.to (App.step 0 (fun v => F.elem_CheckNode.eq (v 0) a0) (by unfold F.elem_CheckNode.B; repeat' first | exact App.val | exact App.no | exact App.lim | apply App.cond | apply App.guard | apply App.meet | apply App.ite | refine App.bind ?_ fun _ => ?_)) h
noncomputable def F.elem_CheckEdge (K : Nat) (a0 : TEdge) : Option (Int) := evFn Tryz.prog sg K 60 [.agg [.val (.string a0.1), .val (.string a0.2.1), .val (.string a0.2.2.1), .list .str a0.2.2.2.1 false, .list sProp a0.2.2.2.2 false]] []
noncomputable def F.elem_CheckEdge.at (K : Nat) (p ns : List Nat) (s : St) : Option (Int) := atFn Tryz.prog sg K 60 0 p ns s
noncomputable def F.elem_CheckEdge.in (K : Nat) (H : List Nat → List Nat → St → Option (Int)) (p ns : List Nat) (s : St) : Option (Int) := inFn Tryz.prog sg K 60 0 [] H p ns s
theorem F.elem_CheckEdge.in_eq K p ns s : F.elem_CheckEdge.at K p ns s = F.elem_CheckEdge.in K (F.elem_CheckEdge.at K) p ns s := atFn_eq (P := Tryz.prog) (sg := sg) (K := K) (f := 60) (m := 0) [] p ns s
theorem F.elem_CheckEdge.in_main K a0 : F.elem_CheckEdge (K + 1) a0 = F.elem_CheckEdge.in K (F.elem_CheckEdge.at K) [] [] ⟨slots [.agg [.val (.string a0.1), .val (.string a0.2.1), .val (.string a0.2.2.1), .list .str a0.2.2.2.1 false, .list sProp a0.2.2.2.2 false]] 0, []⟩ := evFn_eq (P := Tryz.prog) (sg := sg) (K := K) (f := 60) (args := [.agg [.val (.string a0.1), .val (.string a0.2.1), .val (.string a0.2.2.1), .list .str a0.2.2.2.1 false, .list sProp a0.2.2.2.2 false]]) (σ := []) [] (by kernel_rfl)
def F.elem_CheckEdge.l1010.st (a0 : TEdge) (x0 : Int) : St := ⟨[(1, .one (.sc (.ref 0 0))), (12, .one (.agg [.val (.string a0.1), .val (.string a0.2.1), .val (.string a0.2.2.1)])), (13, vI x0)], [.cells 46 [.val (.string a0.1), .val (.string a0.2.1), .val (.string a0.2.2.1), .list .str a0.2.2.2.1 false, .list sProp a0.2.2.2.2 false]]⟩
noncomputable def F.elem_CheckEdge.l1010 (K n0 : Nat) (a0 : TEdge) (x0 : Int) := F.elem_CheckEdge.at K [1, 0, 1, 0] [n0] (F.elem_CheckEdge.l1010.st a0 x0)
noncomputable def F.elem_CheckEdge.l1010.B (c0 : (ByteArray) → Option (Int)) (c1 : (TEdge) → (Int) → Option (Int)) (c2 : (List ByteArray) → (List TProp) → Option (Int)) (a0 : TEdge) (x0 : Int) : Option (Int) :=
    (bif (decide (x0 < 3)) then (bif (x0 == 0) then ((c0 a0.1).bind fun t0 => (bif (t0 != 0) then (some t0) else (c1 a0 (w64 (x0 + 1))))) else (bif (x0 == 1) then ((c0 a0.2.1).bind fun t1 => (bif (t1 != 0) then (some t1) else (c1 a0 (w64 (x0 + 1))))) else (bif (x0 == 2) then ((c0 a0.2.2.1).bind fun t2 => (bif (t2 != 0) then (some t2) else (c1 a0 (w64 (x0 + 1))))) else none))) else ((c2 a0.2.2.2.1 a0.2.2.2.2).bind fun t3 => (some t3)))
theorem F.elem_CheckEdge.l1010.eq K n0 a0 x0 : F.elem_CheckEdge.l1010 K (n0 + 1) a0 x0 = F.elem_CheckEdge.l1010.B (F.name_Check K) (F.elem_CheckEdge.l1010 K n0) (F.elem_rest K) a0 x0 := (F.elem_CheckEdge.in_eq K [1, 0, 1, 0] [n0 + 1] (F.elem_CheckEdge.l1010.st a0 x0)).trans ((show ∀ H, F.elem_CheckEdge.in K H [1, 0, 1, 0] [n0 + 1] (F.elem_CheckEdge.l1010.st a0 x0) = F.elem_CheckEdge.l1010.B (F.name_Check K) (fun a0 x0 => H [1, 0, 1, 0] [n0] (F.elem_CheckEdge.l1010.st a0 x0)) (F.elem_rest K) a0 x0 from by intro H; kernel_rfl) (F.elem_CheckEdge.at K))
noncomputable def F.elem_CheckEdge.B (c0 : (TEdge) → (Int) → Option (Int)) (a0 : TEdge) : Option (Int) :=
    (c0 a0 0)
theorem F.elem_CheckEdge.eq K a0 : F.elem_CheckEdge (K + 1) a0 = F.elem_CheckEdge.B (F.elem_CheckEdge.l1010 K K) a0 := (F.elem_CheckEdge.in_main K a0).trans ((show ∀ H, F.elem_CheckEdge.in K H [] [] ⟨slots [.agg [.val (.string a0.1), .val (.string a0.2.1), .val (.string a0.2.2.1), .list .str a0.2.2.2.1 false, .list sProp a0.2.2.2.2 false]] 0, []⟩ = F.elem_CheckEdge.B (fun a0 x0 => H [1, 0, 1, 0] [K] (F.elem_CheckEdge.l1010.st a0 x0)) a0 from by intro H; kernel_rfl) (F.elem_CheckEdge.at K))
noncomputable def V.elem_CheckEdge.l1010 (a0 : TEdge) (x0 : Int) := lim fun v => F.elem_CheckEdge.l1010 (v 0) (v 1) a0 x0
noncomputable def V.elem_CheckEdge (a0 : TEdge) := lim fun v => F.elem_CheckEdge (v 0) a0
theorem V.elem_CheckEdge.l1010.of a0 x0 {r} (h : F.elem_CheckEdge.l1010.B V.name_Check V.elem_CheckEdge.l1010 V.elem_rest a0 x0 = some r) : V.elem_CheckEdge.l1010 a0 x0 = some r :=
  App.to (App.step 1 (fun v => F.elem_CheckEdge.l1010.eq (v 0) (v 1) a0 x0) (by unfold F.elem_CheckEdge.l1010.B; repeat' first | exact App.val | exact App.no | exact App.lim | apply App.cond | apply App.guard | apply App.meet | apply App.ite | refine App.bind ?_ fun _ => ?_)) h
theorem V.elem_CheckEdge.of a0 {r} (h : F.elem_CheckEdge.B V.elem_CheckEdge.l1010 a0 = some r) : V.elem_CheckEdge a0 = some r :=
  App.to (App.step 0 (fun v => F.elem_CheckEdge.eq (v 0) a0) (by unfold F.elem_CheckEdge.B; repeat' first | exact App.val | exact App.no | exact App.lim | exact (App.enter 1 App.lim) | apply App.cond | apply App.guard | apply App.meet | apply App.ite | refine App.bind ?_ fun _ => ?_)) h
noncomputable def F.cmp_isNaN_string (K : Nat) (a0 : ByteArray) : Option (Bool) := evFn Tryz.prog sg K 107 [.sc (.val (.string a0))] []
noncomputable def F.cmp_isNaN_string.B (a0 : ByteArray) : Option (Bool) :=
    (some (!strEq a0 a0))
theorem F.cmp_isNaN_string.eq K a0 : F.cmp_isNaN_string (K + 1) a0 = F.cmp_isNaN_string.B a0 := by kernel_rfl
noncomputable def V.cmp_isNaN_string (a0 : ByteArray) := lim fun v => F.cmp_isNaN_string (v 0) a0
theorem V.cmp_isNaN_string.of a0 {r} (h : F.cmp_isNaN_string.B a0 = some r) : V.cmp_isNaN_string a0 = some r :=
  App.to (App.step 0 (fun v => F.cmp_isNaN_string.eq (v 0) a0) (by unfold F.cmp_isNaN_string.B; repeat' first | exact App.val | exact App.no | exact App.lim | apply App.cond | apply App.guard | apply App.meet | apply App.ite | refine App.bind ?_ fun _ => ?_)) h
noncomputable def F.cmp_Compare_string (K : Nat) (a0 : ByteArray) (a1 : ByteArray) : Option (Int) := evFn Tryz.prog sg K 74 [.sc (.val (.string a0)), .sc (.val (.string a1))] []
noncomputable def F.cmp_Compare_string.B (c0 : (ByteArray) → Option (Bool)) (a0 : ByteArray) (a1 : ByteArray) : Option (Int) :=
    ((c0 a0).bind fun t0 => ((c0 a1).bind fun t1 => (bif t0 then (bif t1 then (some 0) else (some (-1))) else (bif t1 then (some 1) else (bif (strLt a0 a1) then (some (-1)) else (bif (!(strLt a0 a1 || strEq a0 a1)) then (some 1) else (some 0)))))))
theorem F.cmp_Compare_string.eq K a0 a1 : F.cmp_Compare_string (K + 1) a0 a1 = F.cmp_Compare_string.B (F.cmp_isNaN_string K) a0 a1 := by kernel_rfl
noncomputable def V.cmp_Compare_string (a0 : ByteArray) (a1 : ByteArray) := lim fun v => F.cmp_Compare_string (v 0) a0 a1
theorem V.cmp_Compare_string.of a0 a1 {r} (h : F.cmp_Compare_string.B V.cmp_isNaN_string a0 a1 = some r) : V.cmp_Compare_string a0 a1 = some r :=
  App.to (App.step 0 (fun v => F.cmp_Compare_string.eq (v 0) a0 a1) (by unfold F.cmp_Compare_string.B; repeat' first | exact App.val | exact App.no | exact App.lim | apply App.cond | apply App.guard | apply App.meet | apply App.ite | refine App.bind ?_ fun _ => ?_)) h
noncomputable def F.graph_node_1 (K : Nat) (a0 : TNode) (a1 : ByteArray) : Option (Int) := evFn Tryz.prog sg K 73 [.agg [.val (.string a0.1), .list .str a0.2.1 false, .list sProp a0.2.2 false], .sc (.val (.string a1))] []
noncomputable def F.graph_node_1.B (c0 : (ByteArray) → (ByteArray) → Option (Int)) (a0 : TNode) (a1 : ByteArray) : Option (Int) :=
    ((c0 a0.1 a1).bind fun t0 => (some t0))
theorem F.graph_node_1.eq K a0 a1 : F.graph_node_1 (K + 1) a0 a1 = F.graph_node_1.B (F.cmp_Compare_string K) a0 a1 := by kernel_rfl
noncomputable def V.graph_node_1 (a0 : TNode) (a1 : ByteArray) := lim fun v => F.graph_node_1 (v 0) a0 a1
theorem V.graph_node_1.of a0 a1 {r} (h : F.graph_node_1.B V.cmp_Compare_string a0 a1 = some r) : V.graph_node_1 a0 a1 = some r :=
  App.to (App.step 0 (fun v => F.graph_node_1.eq (v 0) a0 a1) (by unfold F.graph_node_1.B; repeat' first | exact App.val | exact App.no | exact App.lim | apply App.cond | apply App.guard | apply App.meet | apply App.ite | refine App.bind ?_ fun _ => ?_)) h
noncomputable def F.slices_BinarySearchFunc_apiNodeapiNodestring_by_graph_node_1 (K : Nat) (a0 : List TNode) (a1 : ByteArray) : Option (Int × Bool) := evFn Tryz.prog sg K 72 [.sc (.list sNode a0 false), .sc (.val (.string a1)), .sc (.fn 73 [])] []
noncomputable def F.slices_BinarySearchFunc_apiNodeapiNodestring_by_graph_node_1.at (K : Nat) (p ns : List Nat) (s : St) : Option (Int × Bool) := atFn Tryz.prog sg K 72 0 p ns s
noncomputable def F.slices_BinarySearchFunc_apiNodeapiNodestring_by_graph_node_1.in (K : Nat) (H : List Nat → List Nat → St → Option (Int × Bool)) (p ns : List Nat) (s : St) : Option (Int × Bool) := inFn Tryz.prog sg K 72 0 [] H p ns s
theorem F.slices_BinarySearchFunc_apiNodeapiNodestring_by_graph_node_1.in_eq K p ns s : F.slices_BinarySearchFunc_apiNodeapiNodestring_by_graph_node_1.at K p ns s = F.slices_BinarySearchFunc_apiNodeapiNodestring_by_graph_node_1.in K (F.slices_BinarySearchFunc_apiNodeapiNodestring_by_graph_node_1.at K) p ns s := atFn_eq (P := Tryz.prog) (sg := sg) (K := K) (f := 72) (m := 0) [] p ns s
theorem F.slices_BinarySearchFunc_apiNodeapiNodestring_by_graph_node_1.in_main K a0 a1 : F.slices_BinarySearchFunc_apiNodeapiNodestring_by_graph_node_1 (K + 1) a0 a1 = F.slices_BinarySearchFunc_apiNodeapiNodestring_by_graph_node_1.in K (F.slices_BinarySearchFunc_apiNodeapiNodestring_by_graph_node_1.at K) [] [] ⟨slots [.sc (.list sNode a0 false), .sc (.val (.string a1)), .sc (.fn 73 [])] 0, []⟩ := evFn_eq (P := Tryz.prog) (sg := sg) (K := K) (f := 72) (args := [.sc (.list sNode a0 false), .sc (.val (.string a1)), .sc (.fn 73 [])]) (σ := []) [] (by kernel_rfl)
def F.slices_BinarySearchFunc_apiNodeapiNodestring_by_graph_node_1.l11100.st (a0 : List TNode) (a1 : ByteArray) (x0 : Int) (x1 : Int) : St := ⟨[(0, vL sNode a0), (1, vS a1), (2, .one (.sc (.fn 73 []))), (8, vI (a0.length : Int)), (9, vI x0), (10, vI x1)], []⟩
noncomputable def F.slices_BinarySearchFunc_apiNodeapiNodestring_by_graph_node_1.l11100 (K n0 : Nat) (a0 : List TNode) (a1 : ByteArray) (x0 : Int) (x1 : Int) := F.slices_BinarySearchFunc_apiNodeapiNodestring_by_graph_node_1.at K [1, 1, 1, 0, 0] [n0] (F.slices_BinarySearchFunc_apiNodeapiNodestring_by_graph_node_1.l11100.st a0 a1 x0 x1)
noncomputable def F.slices_BinarySearchFunc_apiNodeapiNodestring_by_graph_node_1.l11100.B (c0 : (TNode) → (ByteArray) → Option (Int)) (c1 : (List TNode) → (ByteArray) → (Int) → (Int) → Option (Int × Bool)) (a0 : List TNode) (a1 : ByteArray) (x0 : Int) (x1 : Int) : Option (Int × Bool) :=
    (bif (decide (x0 < x1)) then (guardK (decide (0 ≤ (w64 (Int.fdiv (IntKind.wrap .u64 (w64 (x0 + x1))) (2 ^ 1)))) && decide ((w64 (Int.fdiv (IntKind.wrap .u64 (w64 (x0 + x1))) (2 ^ 1))) < (a0.length : Int))) ((c0 ((rd sNode a0 ((w64 (Int.fdiv (IntKind.wrap .u64 (w64 (x0 + x1))) (2 ^ 1))).toNat)).1, ((rd sNode a0 ((w64 (Int.fdiv (IntKind.wrap .u64 (w64 (x0 + x1))) (2 ^ 1))).toNat)).2).1, ((rd sNode a0 ((w64 (Int.fdiv (IntKind.wrap .u64 (w64 (x0 + x1))) (2 ^ 1))).toNat)).2).2) a1).bind fun t0 => (bif (decide (t0 < 0)) then (c1 a0 a1 (w64 ((w64 (Int.fdiv (IntKind.wrap .u64 (w64 (x0 + x1))) (2 ^ 1))) + 1)) x1) else (c1 a0 a1 x0 (w64 (Int.fdiv (IntKind.wrap .u64 (w64 (x0 + x1))) (2 ^ 1))))))) else (bif (decide (x0 < (a0.length : Int))) then (guardK (decide (0 ≤ x0) && decide (x0 < (a0.length : Int))) ((c0 ((rd sNode a0 x0.toNat).1, ((rd sNode a0 x0.toNat).2).1, ((rd sNode a0 x0.toNat).2).2) a1).bind fun t1 => (some (x0, (t1 == 0))))) else (some (x0, false))))
theorem F.slices_BinarySearchFunc_apiNodeapiNodestring_by_graph_node_1.l11100.eq K n0 a0 a1 x0 x1 : F.slices_BinarySearchFunc_apiNodeapiNodestring_by_graph_node_1.l11100 K (n0 + 1) a0 a1 x0 x1 = F.slices_BinarySearchFunc_apiNodeapiNodestring_by_graph_node_1.l11100.B (F.graph_node_1 K) (F.slices_BinarySearchFunc_apiNodeapiNodestring_by_graph_node_1.l11100 K n0) a0 a1 x0 x1 := (F.slices_BinarySearchFunc_apiNodeapiNodestring_by_graph_node_1.in_eq K [1, 1, 1, 0, 0] [n0 + 1] (F.slices_BinarySearchFunc_apiNodeapiNodestring_by_graph_node_1.l11100.st a0 a1 x0 x1)).trans ((show ∀ H, F.slices_BinarySearchFunc_apiNodeapiNodestring_by_graph_node_1.in K H [1, 1, 1, 0, 0] [n0 + 1] (F.slices_BinarySearchFunc_apiNodeapiNodestring_by_graph_node_1.l11100.st a0 a1 x0 x1) = F.slices_BinarySearchFunc_apiNodeapiNodestring_by_graph_node_1.l11100.B (F.graph_node_1 K) (fun a0 a1 x0 x1 => H [1, 1, 1, 0, 0] [n0] (F.slices_BinarySearchFunc_apiNodeapiNodestring_by_graph_node_1.l11100.st a0 a1 x0 x1)) a0 a1 x0 x1 from by intro H; kernel_rfl) (F.slices_BinarySearchFunc_apiNodeapiNodestring_by_graph_node_1.at K))
noncomputable def F.slices_BinarySearchFunc_apiNodeapiNodestring_by_graph_node_1.B (c0 : (List TNode) → (ByteArray) → (Int) → (Int) → Option (Int × Bool)) (a0 : List TNode) (a1 : ByteArray) : Option (Int × Bool) :=
    (c0 a0 a1 0 (a0.length : Int))
theorem F.slices_BinarySearchFunc_apiNodeapiNodestring_by_graph_node_1.eq K a0 a1 : F.slices_BinarySearchFunc_apiNodeapiNodestring_by_graph_node_1 (K + 1) a0 a1 = F.slices_BinarySearchFunc_apiNodeapiNodestring_by_graph_node_1.B (F.slices_BinarySearchFunc_apiNodeapiNodestring_by_graph_node_1.l11100 K K) a0 a1 := (F.slices_BinarySearchFunc_apiNodeapiNodestring_by_graph_node_1.in_main K a0 a1).trans ((show ∀ H, F.slices_BinarySearchFunc_apiNodeapiNodestring_by_graph_node_1.in K H [] [] ⟨slots [.sc (.list sNode a0 false), .sc (.val (.string a1)), .sc (.fn 73 [])] 0, []⟩ = F.slices_BinarySearchFunc_apiNodeapiNodestring_by_graph_node_1.B (fun a0 a1 x0 x1 => H [1, 1, 1, 0, 0] [K] (F.slices_BinarySearchFunc_apiNodeapiNodestring_by_graph_node_1.l11100.st a0 a1 x0 x1)) a0 a1 from by intro H; kernel_rfl) (F.slices_BinarySearchFunc_apiNodeapiNodestring_by_graph_node_1.at K))
noncomputable def V.slices_BinarySearchFunc_apiNodeapiNodestring_by_graph_node_1.l11100 (a0 : List TNode) (a1 : ByteArray) (x0 : Int) (x1 : Int) := lim fun v => F.slices_BinarySearchFunc_apiNodeapiNodestring_by_graph_node_1.l11100 (v 0) (v 1) a0 a1 x0 x1
noncomputable def V.slices_BinarySearchFunc_apiNodeapiNodestring_by_graph_node_1 (a0 : List TNode) (a1 : ByteArray) := lim fun v => F.slices_BinarySearchFunc_apiNodeapiNodestring_by_graph_node_1 (v 0) a0 a1
theorem V.slices_BinarySearchFunc_apiNodeapiNodestring_by_graph_node_1.l11100.of a0 a1 x0 x1 {r} (h : F.slices_BinarySearchFunc_apiNodeapiNodestring_by_graph_node_1.l11100.B V.graph_node_1 V.slices_BinarySearchFunc_apiNodeapiNodestring_by_graph_node_1.l11100 a0 a1 x0 x1 = some r) : V.slices_BinarySearchFunc_apiNodeapiNodestring_by_graph_node_1.l11100 a0 a1 x0 x1 = some r :=
  App.to (App.step 1 (fun v => F.slices_BinarySearchFunc_apiNodeapiNodestring_by_graph_node_1.l11100.eq (v 0) (v 1) a0 a1 x0 x1) (by unfold F.slices_BinarySearchFunc_apiNodeapiNodestring_by_graph_node_1.l11100.B; repeat' first | exact App.val | exact App.no | exact App.lim | apply App.cond | apply App.guard | apply App.meet | apply App.ite | refine App.bind ?_ fun _ => ?_)) h
theorem V.slices_BinarySearchFunc_apiNodeapiNodestring_by_graph_node_1.of a0 a1 {r} (h : F.slices_BinarySearchFunc_apiNodeapiNodestring_by_graph_node_1.B V.slices_BinarySearchFunc_apiNodeapiNodestring_by_graph_node_1.l11100 a0 a1 = some r) : V.slices_BinarySearchFunc_apiNodeapiNodestring_by_graph_node_1 a0 a1 = some r :=
  App.to (App.step 0 (fun v => F.slices_BinarySearchFunc_apiNodeapiNodestring_by_graph_node_1.eq (v 0) a0 a1) (by unfold F.slices_BinarySearchFunc_apiNodeapiNodestring_by_graph_node_1.B; repeat' first | exact App.val | exact App.no | exact App.lim | exact (App.enter 1 App.lim) | apply App.cond | apply App.guard | apply App.meet | apply App.ite | refine App.bind ?_ fun _ => ?_)) h
noncomputable def F.graph_node (K : Nat) (a0 : TGraph) (a1 : ByteArray) : Option (Int × Bool) := evFn Tryz.prog sg K 42 [.agg [.list sNode a0.1 false, .list sEdge a0.2 false], .sc (.val (.string a1))] []
noncomputable def F.graph_node.B (c0 : (List TNode) → (ByteArray) → Option (Int × Bool)) (a0 : TGraph) (a1 : ByteArray) : Option (Int × Bool) :=
    ((c0 a0.1 a1).bind fun t0 => (some (t0.1, t0.2)))
theorem F.graph_node.eq K a0 a1 : F.graph_node (K + 1) a0 a1 = F.graph_node.B (F.slices_BinarySearchFunc_apiNodeapiNodestring_by_graph_node_1 K) a0 a1 := by kernel_rfl
noncomputable def V.graph_node (a0 : TGraph) (a1 : ByteArray) := lim fun v => F.graph_node (v 0) a0 a1
theorem V.graph_node.of a0 a1 {r} (h : F.graph_node.B V.slices_BinarySearchFunc_apiNodeapiNodestring_by_graph_node_1 a0 a1 = some r) : V.graph_node a0 a1 = some r :=
  App.to (App.step 0 (fun v => F.graph_node.eq (v 0) a0 a1) (by unfold F.graph_node.B; repeat' first | exact App.val | exact App.no | exact App.lim | apply App.cond | apply App.guard | apply App.meet | apply App.ite | refine App.bind ?_ fun _ => ?_)) h
noncomputable def F.graph_Check (K : Nat) (a0 : TGraph) : Option (Int) := evFn Tryz.prog sg K 37 [.agg [.list sNode a0.1 false, .list sEdge a0.2 false]] []
noncomputable def F.graph_Check.at (K : Nat) (p ns : List Nat) (s : St) : Option (Int) := atFn Tryz.prog sg K 37 0 p ns s
noncomputable def F.graph_Check.in (K : Nat) (H : List Nat → List Nat → St → Option (Int)) (p ns : List Nat) (s : St) : Option (Int) := inFn Tryz.prog sg K 37 0 [] H p ns s
theorem F.graph_Check.in_eq K p ns s : F.graph_Check.at K p ns s = F.graph_Check.in K (F.graph_Check.at K) p ns s := atFn_eq (P := Tryz.prog) (sg := sg) (K := K) (f := 37) (m := 0) [] p ns s
theorem F.graph_Check.in_main K a0 : F.graph_Check (K + 1) a0 = F.graph_Check.in K (F.graph_Check.at K) [] [] ⟨slots [.agg [.list sNode a0.1 false, .list sEdge a0.2 false]] 0, []⟩ := evFn_eq (P := Tryz.prog) (sg := sg) (K := K) (f := 37) (args := [.agg [.list sNode a0.1 false, .list sEdge a0.2 false]]) (σ := []) [] (by kernel_rfl)
def F.graph_Check.l11010.st (a0 : TGraph) (x0 : Int) : St := ⟨[(1, .one (.sc (.ref 0 0))), (24, vL sNode a0.1), (25, vI (a0.1.length : Int)), (26, vI x0)], [.cells 25 [.list sNode a0.1 false, .list sEdge a0.2 false]]⟩
noncomputable def F.graph_Check.l11010 (K n0 : Nat) (a0 : TGraph) (x0 : Int) := F.graph_Check.at K [1, 1, 0, 1, 0] [n0] (F.graph_Check.l11010.st a0 x0)
def F.graph_Check.l111010.st (a0 : TGraph) (x0 : Int) : St := ⟨[(1, .one (.sc (.ref 0 0))), (52, vL sEdge a0.2), (53, vI (a0.2.length : Int)), (54, vI x0)], [.cells 25 [.list sNode a0.1 false, .list sEdge a0.2 false]]⟩
noncomputable def F.graph_Check.l111010 (K n0 : Nat) (a0 : TGraph) (x0 : Int) := F.graph_Check.at K [1, 1, 1, 0, 1, 0] [n0] (F.graph_Check.l111010.st a0 x0)
noncomputable def F.graph_Check.l11010.B (c0 : (TNode) → Option (Int)) (c1 : (TGraph) → (Int) → Option (Int)) (c2 : (TGraph) → (Int) → Option (Int)) (a0 : TGraph) (x0 : Int) : Option (Int) :=
    (bif (decide (x0 < (a0.1.length : Int))) then (guardK (decide (0 ≤ x0) && decide (x0 < (a0.1.length : Int))) ((c0 ((rd sNode a0.1 x0.toNat).1, ((rd sNode a0.1 x0.toNat).2).1, ((rd sNode a0.1 x0.toNat).2).2)).bind fun t0 => (bif (t0 != 0) then (some t0) else (bif (decide (x0 > 0)) then (guardK (decide (0 ≤ (w64 (x0 - 1))) && decide ((w64 (x0 - 1)) < (a0.1.length : Int))) (bif (!strLt ((rd sNode a0.1 ((w64 (x0 - 1)).toNat)).1) ((rd sNode a0.1 x0.toNat).1)) then (some 4) else (c1 a0 (w64 (x0 + 1))))) else (c1 a0 (w64 (x0 + 1))))))) else (c2 a0 0))
theorem F.graph_Check.l11010.eq K n0 a0 x0 : F.graph_Check.l11010 K (n0 + 1) a0 x0 = F.graph_Check.l11010.B (F.elem_CheckNode K) (F.graph_Check.l11010 K n0) (F.graph_Check.l111010 K K) a0 x0 := (F.graph_Check.in_eq K [1, 1, 0, 1, 0] [n0 + 1] (F.graph_Check.l11010.st a0 x0)).trans ((show ∀ H, F.graph_Check.in K H [1, 1, 0, 1, 0] [n0 + 1] (F.graph_Check.l11010.st a0 x0) = F.graph_Check.l11010.B (F.elem_CheckNode K) (fun a0 x0 => H [1, 1, 0, 1, 0] [n0] (F.graph_Check.l11010.st a0 x0)) (fun a0 x0 => H [1, 1, 1, 0, 1, 0] [K] (F.graph_Check.l111010.st a0 x0)) a0 x0 from by intro H; kernel_rfl) (F.graph_Check.at K))
noncomputable def F.graph_Check.l111010.B (c0 : (TEdge) → Option (Int)) (c1 : (TGraph) → (ByteArray) → Option (Int × Bool)) (c2 : (TGraph) → (Int) → Option (Int)) (a0 : TGraph) (x0 : Int) : Option (Int) :=
    (bif (decide (x0 < (a0.2.length : Int))) then (guardK (decide (0 ≤ x0) && decide (x0 < (a0.2.length : Int))) ((c0 ((rd sEdge a0.2 x0.toNat).1, ((rd sEdge a0.2 x0.toNat).2).1, (((rd sEdge a0.2 x0.toNat).2).2).1, ((((rd sEdge a0.2 x0.toNat).2).2).2).1, ((((rd sEdge a0.2 x0.toNat).2).2).2).2)).bind fun t1 => (bif (t1 != 0) then (some t1) else (bif (decide (x0 > 0)) then (guardK (decide (0 ≤ (w64 (x0 - 1))) && decide ((w64 (x0 - 1)) < (a0.2.length : Int))) (bif (!strLt ((rd sEdge a0.2 ((w64 (x0 - 1)).toNat)).1) ((rd sEdge a0.2 x0.toNat).1)) then (some 4) else ((c1 (a0.1, a0.2) (((rd sEdge a0.2 x0.toNat).2).1)).bind fun t2 => ((c1 (a0.1, a0.2) ((((rd sEdge a0.2 x0.toNat).2).2).1)).bind fun t3 => (bif (!t2.2) then (some 9) else (bif (!t3.2) then (some 9) else (c2 a0 (w64 (x0 + 1))))))))) else ((c1 (a0.1, a0.2) (((rd sEdge a0.2 x0.toNat).2).1)).bind fun t4 => ((c1 (a0.1, a0.2) ((((rd sEdge a0.2 x0.toNat).2).2).1)).bind fun t5 => (bif (!t4.2) then (some 9) else (bif (!t5.2) then (some 9) else (c2 a0 (w64 (x0 + 1))))))))))) else (some 0))
theorem F.graph_Check.l111010.eq K n0 a0 x0 : F.graph_Check.l111010 K (n0 + 1) a0 x0 = F.graph_Check.l111010.B (F.elem_CheckEdge K) (F.graph_node K) (F.graph_Check.l111010 K n0) a0 x0 := (F.graph_Check.in_eq K [1, 1, 1, 0, 1, 0] [n0 + 1] (F.graph_Check.l111010.st a0 x0)).trans ((show ∀ H, F.graph_Check.in K H [1, 1, 1, 0, 1, 0] [n0 + 1] (F.graph_Check.l111010.st a0 x0) = F.graph_Check.l111010.B (F.elem_CheckEdge K) (F.graph_node K) (fun a0 x0 => H [1, 1, 1, 0, 1, 0] [n0] (F.graph_Check.l111010.st a0 x0)) a0 x0 from by intro H; kernel_rfl) (F.graph_Check.at K))
noncomputable def F.graph_Check.B (c0 : (TGraph) → (Int) → Option (Int)) (a0 : TGraph) : Option (Int) :=
    (bif (decide ((a0.1.length : Int) > 500)) then (some 5) else (bif (decide ((a0.2.length : Int) > 1000)) then (some 5) else (c0 a0 0)))
theorem F.graph_Check.eq K a0 : F.graph_Check (K + 1) a0 = F.graph_Check.B (F.graph_Check.l11010 K K) a0 := (F.graph_Check.in_main K a0).trans ((show ∀ H, F.graph_Check.in K H [] [] ⟨slots [.agg [.list sNode a0.1 false, .list sEdge a0.2 false]] 0, []⟩ = F.graph_Check.B (fun a0 x0 => H [1, 1, 0, 1, 0] [K] (F.graph_Check.l11010.st a0 x0)) a0 from by intro H; kernel_rfl) (F.graph_Check.at K))
noncomputable def V.graph_Check.l11010 (a0 : TGraph) (x0 : Int) := lim fun v => F.graph_Check.l11010 (v 0) (v 1) a0 x0
noncomputable def V.graph_Check.l111010 (a0 : TGraph) (x0 : Int) := lim fun v => F.graph_Check.l111010 (v 0) (v 1) a0 x0
noncomputable def V.graph_Check (a0 : TGraph) := lim fun v => F.graph_Check (v 0) a0
theorem V.graph_Check.l11010.of a0 x0 {r} (h : F.graph_Check.l11010.B V.elem_CheckNode V.graph_Check.l11010 V.graph_Check.l111010 a0 x0 = some r) : V.graph_Check.l11010 a0 x0 = some r :=
  App.to (App.step 1 (fun v => F.graph_Check.l11010.eq (v 0) (v 1) a0 x0) (by unfold F.graph_Check.l11010.B; repeat' first | exact App.val | exact App.no | exact App.lim | exact (App.enter 1 App.lim) | apply App.cond | apply App.guard | apply App.meet | apply App.ite | refine App.bind ?_ fun _ => ?_)) h
theorem V.graph_Check.l111010.of a0 x0 {r} (h : F.graph_Check.l111010.B V.elem_CheckEdge V.graph_node V.graph_Check.l111010 a0 x0 = some r) : V.graph_Check.l111010 a0 x0 = some r :=
  App.to (App.step 1 (fun v => F.graph_Check.l111010.eq (v 0) (v 1) a0 x0) (by unfold F.graph_Check.l111010.B; repeat' first | exact App.val | exact App.no | exact App.lim | apply App.cond | apply App.guard | apply App.meet | apply App.ite | refine App.bind ?_ fun _ => ?_)) h
theorem V.graph_Check.of a0 {r} (h : F.graph_Check.B V.graph_Check.l11010 a0 = some r) : V.graph_Check a0 = some r :=
  App.to (App.step 0 (fun v => F.graph_Check.eq (v 0) a0) (by unfold F.graph_Check.B; repeat' first | exact App.val | exact App.no | exact App.lim | exact (App.enter 1 App.lim) | apply App.cond | apply App.guard | apply App.meet | apply App.ite | refine App.bind ?_ fun _ => ?_)) h
noncomputable def F.slices_Clone_apiNodeapiNode (K : Nat) (a0 : List TNode) : Option ((List TNode)) := evFn Tryz.prog sg K 33 [.sc (.list sNode a0 false)] []
noncomputable def F.slices_Clone_apiNodeapiNode.B (a0 : List TNode) : Option ((List TNode)) :=
    (bif a0.isEmpty then meet (some ([])) (guardK (decide (0 + a0.length ≤ nmax)) (some ([] ++ a0))) else (guardK (decide (0 + a0.length ≤ nmax)) (some ([] ++ a0))))
theorem F.slices_Clone_apiNodeapiNode.eq K a0 : F.slices_Clone_apiNodeapiNode (K + 1) a0 = F.slices_Clone_apiNodeapiNode.B a0 := by kernel_rfl
noncomputable def V.slices_Clone_apiNodeapiNode (a0 : List TNode) := lim fun v => F.slices_Clone_apiNodeapiNode (v 0) a0
theorem V.slices_Clone_apiNodeapiNode.of a0 {r} (h : F.slices_Clone_apiNodeapiNode.B a0 = some r) : V.slices_Clone_apiNodeapiNode a0 = some r :=
  App.to (App.step 0 (fun v => F.slices_Clone_apiNodeapiNode.eq (v 0) a0) (by unfold F.slices_Clone_apiNodeapiNode.B; repeat' first | exact App.val | exact App.no | exact App.lim | apply App.cond | apply App.guard | apply App.meet | apply App.ite | refine App.bind ?_ fun _ => ?_)) h
noncomputable def F.slices_Clone_apiEdgeapiEdge (K : Nat) (a0 : List TEdge) : Option ((List TEdge)) := evFn Tryz.prog sg K 34 [.sc (.list sEdge a0 false)] []
noncomputable def F.slices_Clone_apiEdgeapiEdge.B (a0 : List TEdge) : Option ((List TEdge)) :=
    (bif a0.isEmpty then meet (some ([])) (guardK (decide (0 + a0.length ≤ nmax)) (some ([] ++ a0))) else (guardK (decide (0 + a0.length ≤ nmax)) (some ([] ++ a0))))
theorem F.slices_Clone_apiEdgeapiEdge.eq K a0 : F.slices_Clone_apiEdgeapiEdge (K + 1) a0 = F.slices_Clone_apiEdgeapiEdge.B a0 := by kernel_rfl
noncomputable def V.slices_Clone_apiEdgeapiEdge (a0 : List TEdge) := lim fun v => F.slices_Clone_apiEdgeapiEdge (v 0) a0
theorem V.slices_Clone_apiEdgeapiEdge.of a0 {r} (h : F.slices_Clone_apiEdgeapiEdge.B a0 = some r) : V.slices_Clone_apiEdgeapiEdge a0 = some r :=
  App.to (App.step 0 (fun v => F.slices_Clone_apiEdgeapiEdge.eq (v 0) a0) (by unfold F.slices_Clone_apiEdgeapiEdge.B; repeat' first | exact App.val | exact App.no | exact App.lim | apply App.cond | apply App.guard | apply App.meet | apply App.ite | refine App.bind ?_ fun _ => ?_)) h
noncomputable def F.slices_Clone_stringstring (K : Nat) (a0 : List ByteArray) : Option ((List ByteArray)) := evFn Tryz.prog sg K 35 [.sc (.list .str a0 false)] []
noncomputable def F.slices_Clone_stringstring.B (a0 : List ByteArray) : Option ((List ByteArray)) :=
    (bif a0.isEmpty then meet (some ([])) (guardK (decide (0 + a0.length ≤ nmax)) (some ([] ++ a0))) else (guardK (decide (0 + a0.length ≤ nmax)) (some ([] ++ a0))))
theorem F.slices_Clone_stringstring.eq K a0 : F.slices_Clone_stringstring (K + 1) a0 = F.slices_Clone_stringstring.B a0 := by kernel_rfl
noncomputable def V.slices_Clone_stringstring (a0 : List ByteArray) := lim fun v => F.slices_Clone_stringstring (v 0) a0
theorem V.slices_Clone_stringstring.of a0 {r} (h : F.slices_Clone_stringstring.B a0 = some r) : V.slices_Clone_stringstring a0 = some r :=
  App.to (App.step 0 (fun v => F.slices_Clone_stringstring.eq (v 0) a0) (by unfold F.slices_Clone_stringstring.B; repeat' first | exact App.val | exact App.no | exact App.lim | apply App.cond | apply App.guard | apply App.meet | apply App.ite | refine App.bind ?_ fun _ => ?_)) h
noncomputable def F.slices_Clone_apiPropapiProp (K : Nat) (a0 : List TProp) : Option ((List TProp)) := evFn Tryz.prog sg K 36 [.sc (.list sProp a0 false)] []
noncomputable def F.slices_Clone_apiPropapiProp.B (a0 : List TProp) : Option ((List TProp)) :=
    (bif a0.isEmpty then meet (some ([])) (guardK (decide (0 + a0.length ≤ nmax)) (some ([] ++ a0))) else (guardK (decide (0 + a0.length ≤ nmax)) (some ([] ++ a0))))
theorem F.slices_Clone_apiPropapiProp.eq K a0 : F.slices_Clone_apiPropapiProp (K + 1) a0 = F.slices_Clone_apiPropapiProp.B a0 := by kernel_rfl
noncomputable def V.slices_Clone_apiPropapiProp (a0 : List TProp) := lim fun v => F.slices_Clone_apiPropapiProp (v 0) a0
theorem V.slices_Clone_apiPropapiProp.of a0 {r} (h : F.slices_Clone_apiPropapiProp.B a0 = some r) : V.slices_Clone_apiPropapiProp a0 = some r :=
  App.to (App.step 0 (fun v => F.slices_Clone_apiPropapiProp.eq (v 0) a0) (by unfold F.slices_Clone_apiPropapiProp.B; repeat' first | exact App.val | exact App.no | exact App.lim | apply App.cond | apply App.guard | apply App.meet | apply App.ite | refine App.bind ?_ fun _ => ?_)) h
noncomputable def F.graph_Copy (K : Nat) (a0 : TGraph) : Option (TGraph) := evFn Tryz.prog sg K 9 [.agg [.list sNode a0.1 false, .list sEdge a0.2 false]] []
noncomputable def F.graph_Copy.at (K : Nat) (p ns : List Nat) (s : St) : Option (TGraph) := atFn Tryz.prog sg K 9 0 p ns s
noncomputable def F.graph_Copy.in (K : Nat) (H : List Nat → List Nat → St → Option (TGraph)) (p ns : List Nat) (s : St) : Option (TGraph) := inFn Tryz.prog sg K 9 0 [[1, 1], [1, 1, 0, 1, 0, 0, 1, 1, 1], [1, 1, 1, 0, 1, 0, 0, 1, 1, 1]] H p ns s
theorem F.graph_Copy.in_eq K p ns s : F.graph_Copy.at K p ns s = F.graph_Copy.in K (F.graph_Copy.at K) p ns s := atFn_eq (P := Tryz.prog) (sg := sg) (K := K) (f := 9) (m := 0) [[1, 1], [1, 1, 0, 1, 0, 0, 1, 1, 1], [1, 1, 1, 0, 1, 0, 0, 1, 1, 1]] p ns s
theorem F.graph_Copy.in_main K a0 : F.graph_Copy (K + 1) a0 = F.graph_Copy.in K (F.graph_Copy.at K) [] [] ⟨slots [.agg [.list sNode a0.1 false, .list sEdge a0.2 false]] 0, []⟩ := evFn_eq (P := Tryz.prog) (sg := sg) (K := K) (f := 9) (args := [.agg [.list sNode a0.1 false, .list sEdge a0.2 false]]) (σ := []) [[1, 1], [1, 1, 0, 1, 0, 0, 1, 1, 1], [1, 1, 1, 0, 1, 0, 0, 1, 1, 1]] (by kernel_rfl)
def F.graph_Copy.j11.st (a0 : TGraph) (x0 : List TNode) (x1 : List TEdge) : St := ⟨[(2, .one (.sc (.ref 0 0))), (3, .one (.sc (.ref 1 0)))], [.cells 25 [.val (.slice none 0 0), .val (.slice none 0 0)], .cells 25 [.own 2 none, .own 3 none], .elems sNode x0, .elems sEdge x1]⟩
noncomputable def F.graph_Copy.j11 (K : Nat) (a0 : TGraph) (x0 : List TNode) (x1 : List TEdge) := F.graph_Copy.at K [1, 1] [] (F.graph_Copy.j11.st a0 x0 x1)
def F.graph_Copy.l11010.st (a0 : TGraph) (x0 : Int) (x1 : Int) (x2 : List TNode) (x3 : List TEdge) : St := ⟨[(2, .one (.sc (.ref 0 0))), (3, .one (.sc (.ref 1 0))), (17, vI x0), (18, vI x1)], [.cells 25 [.val (.slice none 0 0), .val (.slice none 0 0)], .cells 25 [.own 2 none, .own 3 none], .elems sNode x2, .elems sEdge x3]⟩
noncomputable def F.graph_Copy.l11010 (K n0 : Nat) (a0 : TGraph) (x0 : Int) (x1 : Int) (x2 : List TNode) (x3 : List TEdge) := F.graph_Copy.at K [1, 1, 0, 1, 0] [n0] (F.graph_Copy.l11010.st a0 x0 x1 x2 x3)
def F.graph_Copy.j110100111.st (a0 : TGraph) (x0 : Int) (x1 : Int) (x2 : List TNode) (x3 : List TEdge) : St := ⟨[(2, .one (.sc (.ref 0 0))), (3, .one (.sc (.ref 1 0))), (17, vI x0), (18, vI x1)], [.cells 25 [.val (.slice none 0 0), .val (.slice none 0 0)], .cells 25 [.own 2 none, .own 3 none], .elems sNode x2, .elems sEdge x3]⟩
noncomputable def F.graph_Copy.j110100111 (K n0 : Nat) (a0 : TGraph) (x0 : Int) (x1 : Int) (x2 : List TNode) (x3 : List TEdge) := F.graph_Copy.at K [1, 1, 0, 1, 0, 0, 1, 1, 1] [n0] (F.graph_Copy.j110100111.st a0 x0 x1 x2 x3)
def F.graph_Copy.l111010.st (a0 : TGraph) (x0 : Int) (x1 : Int) (x2 : List TNode) (x3 : List TEdge) : St := ⟨[(2, .one (.sc (.ref 0 0))), (3, .one (.sc (.ref 1 0))), (44, vI x0), (45, vI x1)], [.cells 25 [.val (.slice none 0 0), .val (.slice none 0 0)], .cells 25 [.own 2 none, .own 3 none], .elems sNode x2, .elems sEdge x3]⟩
noncomputable def F.graph_Copy.l111010 (K n0 : Nat) (a0 : TGraph) (x0 : Int) (x1 : Int) (x2 : List TNode) (x3 : List TEdge) := F.graph_Copy.at K [1, 1, 1, 0, 1, 0] [n0] (F.graph_Copy.l111010.st a0 x0 x1 x2 x3)
def F.graph_Copy.j1110100111.st (a0 : TGraph) (x0 : Int) (x1 : Int) (x2 : List TNode) (x3 : List TEdge) : St := ⟨[(2, .one (.sc (.ref 0 0))), (3, .one (.sc (.ref 1 0))), (44, vI x0), (45, vI x1)], [.cells 25 [.val (.slice none 0 0), .val (.slice none 0 0)], .cells 25 [.own 2 none, .own 3 none], .elems sNode x2, .elems sEdge x3]⟩
noncomputable def F.graph_Copy.j1110100111 (K n0 : Nat) (a0 : TGraph) (x0 : Int) (x1 : Int) (x2 : List TNode) (x3 : List TEdge) := F.graph_Copy.at K [1, 1, 1, 0, 1, 0, 0, 1, 1, 1] [n0] (F.graph_Copy.j1110100111.st a0 x0 x1 x2 x3)
noncomputable def F.graph_Copy.j11.B (c0 : (TGraph) → (Int) → (Int) → (List TNode) → (List TEdge) → Option (TGraph)) (a0 : TGraph) (x0 : List TNode) (x1 : List TEdge) : Option (TGraph) :=
    (c0 a0 (x0.length : Int) 0 x0 x1)
theorem F.graph_Copy.j11.eq K a0 x0 x1 : F.graph_Copy.j11 K a0 x0 x1 = F.graph_Copy.j11.B (F.graph_Copy.l11010 K K) a0 x0 x1 := (F.graph_Copy.in_eq K [1, 1] [] (F.graph_Copy.j11.st a0 x0 x1)).trans ((show ∀ H, F.graph_Copy.in K H [1, 1] [] (F.graph_Copy.j11.st a0 x0 x1) = F.graph_Copy.j11.B (fun a0 x0 x1 x2 x3 => H [1, 1, 0, 1, 0] [K] (F.graph_Copy.l11010.st a0 x0 x1 x2 x3)) a0 x0 x1 from by intro H; kernel_rfl) (F.graph_Copy.at K))
noncomputable def F.graph_Copy.l11010.B (c0 : (List ByteArray) → Option ((List ByteArray))) (c1 : (List TProp) → Option ((List TProp))) (c2 : (TGraph) → (Int) → (Int) → (List TNode) → (List TEdge) → Option (TGraph)) (c3 : (TGraph) → (Int) → (Int) → (List TNode) → (List TEdge) → Option (TGraph)) (a0 : TGraph) (x0 : Int) (x1 : Int) (x2 : List TNode) (x3 : List TEdge) : Option (TGraph) :=
    (bif (decide (x1 < x0)) then (guardK (decide (0 ≤ x1) && decide (x1 < (x2.length : Int))) (meet (meet ((c0 (((rd sNode x2 x1.toNat).2).1)).bind fun t5 => ((c1 (((rd sNode x2 x1.toNat).2).2)).bind fun t6 => (c2 a0 x0 x1 ((x2.set x1.toNat ((rd sNode x2 x1.toNat).1, t5, ((rd sNode x2 x1.toNat).2).2)).set x1.toNat ((rd sNode (x2.set x1.toNat ((rd sNode x2 x1.toNat).1, t5, ((rd sNode x2 x1.toNat).2).2)) x1.toNat).1, ((rd sNode (x2.set x1.toNat ((rd sNode x2 x1.toNat).1, t5, ((rd sNode x2 x1.toNat).2).2)) x1.toNat).2).1, t6)) x3))) ((c0 (((rd sNode x2 x1.toNat).2).1)).bind fun t7 => ((c1 (((rd sNode x2 x1.toNat).2).2)).bind fun t8 => (c2 a0 x0 x1 ((x2.set x1.toNat ((rd sNode x2 x1.toNat).1, t7, ((rd sNode x2 x1.toNat).2).2)).set x1.toNat ((rd sNode (x2.set x1.toNat ((rd sNode x2 x1.toNat).1, t7, ((rd sNode x2 x1.toNat).2).2)) x1.toNat).1, ((rd sNode (x2.set x1.toNat ((rd sNode x2 x1.toNat).1, t7, ((rd sNode x2 x1.toNat).2).2)) x1.toNat).2).1, t8)) x3)))) ((c0 (((rd sNode x2 x1.toNat).2).1)).bind fun t9 => ((c1 (((rd sNode x2 x1.toNat).2).2)).bind fun t10 => (c2 a0 x0 x1 ((x2.set x1.toNat ((rd sNode x2 x1.toNat).1, t9, ((rd sNode x2 x1.toNat).2).2)).set x1.toNat ((rd sNode (x2.set x1.toNat ((rd sNode x2 x1.toNat).1, t9, ((rd sNode x2 x1.toNat).2).2)) x1.toNat).1, ((rd sNode (x2.set x1.toNat ((rd sNode x2 x1.toNat).1, t9, ((rd sNode x2 x1.toNat).2).2)) x1.toNat).2).1, t10)) x3))))) else (c3 a0 (x3.length : Int) 0 x2 x3))
theorem F.graph_Copy.l11010.eq K n0 a0 x0 x1 x2 x3 : F.graph_Copy.l11010 K (n0 + 1) a0 x0 x1 x2 x3 = F.graph_Copy.l11010.B (F.slices_Clone_stringstring K) (F.slices_Clone_apiPropapiProp K) (F.graph_Copy.j110100111 K n0) (F.graph_Copy.l111010 K K) a0 x0 x1 x2 x3 := (F.graph_Copy.in_eq K [1, 1, 0, 1, 0] [n0 + 1] (F.graph_Copy.l11010.st a0 x0 x1 x2 x3)).trans ((show ∀ H, F.graph_Copy.in K H [1, 1, 0, 1, 0] [n0 + 1] (F.graph_Copy.l11010.st a0 x0 x1 x2 x3) = F.graph_Copy.l11010.B (F.slices_Clone_stringstring K) (F.slices_Clone_apiPropapiProp K) (fun a0 x0 x1 x2 x3 => H [1, 1, 0, 1, 0, 0, 1, 1, 1] [n0] (F.graph_Copy.j110100111.st a0 x0 x1 x2 x3)) (fun a0 x0 x1 x2 x3 => H [1, 1, 1, 0, 1, 0] [K] (F.graph_Copy.l111010.st a0 x0 x1 x2 x3)) a0 x0 x1 x2 x3 from by intro H; kernel_rfl) (F.graph_Copy.at K))
noncomputable def F.graph_Copy.j110100111.B (c0 : (TGraph) → (Int) → (Int) → (List TNode) → (List TEdge) → Option (TGraph)) (a0 : TGraph) (x0 : Int) (x1 : Int) (x2 : List TNode) (x3 : List TEdge) : Option (TGraph) :=
    (c0 a0 x0 (w64 (x1 + 1)) x2 x3)
theorem F.graph_Copy.j110100111.eq K n0 a0 x0 x1 x2 x3 : F.graph_Copy.j110100111 K n0 a0 x0 x1 x2 x3 = F.graph_Copy.j110100111.B (F.graph_Copy.l11010 K n0) a0 x0 x1 x2 x3 := (F.graph_Copy.in_eq K [1, 1, 0, 1, 0, 0, 1, 1, 1] [n0] (F.graph_Copy.j110100111.st a0 x0 x1 x2 x3)).trans ((show ∀ H, F.graph_Copy.in K H [1, 1, 0, 1, 0, 0, 1, 1, 1] [n0] (F.graph_Copy.j110100111.st a0 x0 x1 x2 x3) = F.graph_Copy.j110100111.B (fun a0 x0 x1 x2 x3 => H [1, 1, 0, 1, 0] [n0] (F.graph_Copy.l11010.st a0 x0 x1 x2 x3)) a0 x0 x1 x2 x3 from by intro H; kernel_rfl) (F.graph_Copy.at K))
noncomputable def F.graph_Copy.l111010.B (c0 : (List ByteArray) → Option ((List ByteArray))) (c1 : (List TProp) → Option ((List TProp))) (c2 : (TGraph) → (Int) → (Int) → (List TNode) → (List TEdge) → Option (TGraph)) (a0 : TGraph) (x0 : Int) (x1 : Int) (x2 : List TNode) (x3 : List TEdge) : Option (TGraph) :=
    (bif (decide (x1 < x0)) then (guardK (decide (0 ≤ x1) && decide (x1 < (x3.length : Int))) (meet (meet ((c0 (((((rd sEdge x3 x1.toNat).2).2).2).1)).bind fun t11 => ((c1 (((((rd sEdge x3 x1.toNat).2).2).2).2)).bind fun t12 => (c2 a0 x0 x1 x2 ((x3.set x1.toNat ((rd sEdge x3 x1.toNat).1, ((rd sEdge x3 x1.toNat).2).1, (((rd sEdge x3 x1.toNat).2).2).1, t11, ((((rd sEdge x3 x1.toNat).2).2).2).2)).set x1.toNat ((rd sEdge (x3.set x1.toNat ((rd sEdge x3 x1.toNat).1, ((rd sEdge x3 x1.toNat).2).1, (((rd sEdge x3 x1.toNat).2).2).1, t11, ((((rd sEdge x3 x1.toNat).2).2).2).2)) x1.toNat).1, ((rd sEdge (x3.set x1.toNat ((rd sEdge x3 x1.toNat).1, ((rd sEdge x3 x1.toNat).2).1, (((rd sEdge x3 x1.toNat).2).2).1, t11, ((((rd sEdge x3 x1.toNat).2).2).2).2)) x1.toNat).2).1, (((rd sEdge (x3.set x1.toNat ((rd sEdge x3 x1.toNat).1, ((rd sEdge x3 x1.toNat).2).1, (((rd sEdge x3 x1.toNat).2).2).1, t11, ((((rd sEdge x3 x1.toNat).2).2).2).2)) x1.toNat).2).2).1, ((((rd sEdge (x3.set x1.toNat ((rd sEdge x3 x1.toNat).1, ((rd sEdge x3 x1.toNat).2).1, (((rd sEdge x3 x1.toNat).2).2).1, t11, ((((rd sEdge x3 x1.toNat).2).2).2).2)) x1.toNat).2).2).2).1, t12))))) ((c0 (((((rd sEdge x3 x1.toNat).2).2).2).1)).bind fun t13 => ((c1 (((((rd sEdge x3 x1.toNat).2).2).2).2)).bind fun t14 => (c2 a0 x0 x1 x2 ((x3.set x1.toNat ((rd sEdge x3 x1.toNat).1, ((rd sEdge x3 x1.toNat).2).1, (((rd sEdge x3 x1.toNat).2).2).1, t13, ((((rd sEdge x3 x1.toNat).2).2).2).2)).set x1.toNat ((rd sEdge (x3.set x1.toNat ((rd sEdge x3 x1.toNat).1, ((rd sEdge x3 x1.toNat).2).1, (((rd sEdge x3 x1.toNat).2).2).1, t13, ((((rd sEdge x3 x1.toNat).2).2).2).2)) x1.toNat).1, ((rd sEdge (x3.set x1.toNat ((rd sEdge x3 x1.toNat).1, ((rd sEdge x3 x1.toNat).2).1, (((rd sEdge x3 x1.toNat).2).2).1, t13, ((((rd sEdge x3 x1.toNat).2).2).2).2)) x1.toNat).2).1, (((rd sEdge (x3.set x1.toNat ((rd sEdge x3 x1.toNat).1, ((rd sEdge x3 x1.toNat).2).1, (((rd sEdge x3 x1.toNat).2).2).1, t13, ((((rd sEdge x3 x1.toNat).2).2).2).2)) x1.toNat).2).2).1, ((((rd sEdge (x3.set x1.toNat ((rd sEdge x3 x1.toNat).1, ((rd sEdge x3 x1.toNat).2).1, (((rd sEdge x3 x1.toNat).2).2).1, t13, ((((rd sEdge x3 x1.toNat).2).2).2).2)) x1.toNat).2).2).2).1, t14)))))) ((c0 (((((rd sEdge x3 x1.toNat).2).2).2).1)).bind fun t15 => ((c1 (((((rd sEdge x3 x1.toNat).2).2).2).2)).bind fun t16 => (c2 a0 x0 x1 x2 ((x3.set x1.toNat ((rd sEdge x3 x1.toNat).1, ((rd sEdge x3 x1.toNat).2).1, (((rd sEdge x3 x1.toNat).2).2).1, t15, ((((rd sEdge x3 x1.toNat).2).2).2).2)).set x1.toNat ((rd sEdge (x3.set x1.toNat ((rd sEdge x3 x1.toNat).1, ((rd sEdge x3 x1.toNat).2).1, (((rd sEdge x3 x1.toNat).2).2).1, t15, ((((rd sEdge x3 x1.toNat).2).2).2).2)) x1.toNat).1, ((rd sEdge (x3.set x1.toNat ((rd sEdge x3 x1.toNat).1, ((rd sEdge x3 x1.toNat).2).1, (((rd sEdge x3 x1.toNat).2).2).1, t15, ((((rd sEdge x3 x1.toNat).2).2).2).2)) x1.toNat).2).1, (((rd sEdge (x3.set x1.toNat ((rd sEdge x3 x1.toNat).1, ((rd sEdge x3 x1.toNat).2).1, (((rd sEdge x3 x1.toNat).2).2).1, t15, ((((rd sEdge x3 x1.toNat).2).2).2).2)) x1.toNat).2).2).1, ((((rd sEdge (x3.set x1.toNat ((rd sEdge x3 x1.toNat).1, ((rd sEdge x3 x1.toNat).2).1, (((rd sEdge x3 x1.toNat).2).2).1, t15, ((((rd sEdge x3 x1.toNat).2).2).2).2)) x1.toNat).2).2).2).1, t16))))))) else (some (x2, x3)))
theorem F.graph_Copy.l111010.eq K n0 a0 x0 x1 x2 x3 : F.graph_Copy.l111010 K (n0 + 1) a0 x0 x1 x2 x3 = F.graph_Copy.l111010.B (F.slices_Clone_stringstring K) (F.slices_Clone_apiPropapiProp K) (F.graph_Copy.j1110100111 K n0) a0 x0 x1 x2 x3 := (F.graph_Copy.in_eq K [1, 1, 1, 0, 1, 0] [n0 + 1] (F.graph_Copy.l111010.st a0 x0 x1 x2 x3)).trans ((show ∀ H, F.graph_Copy.in K H [1, 1, 1, 0, 1, 0] [n0 + 1] (F.graph_Copy.l111010.st a0 x0 x1 x2 x3) = F.graph_Copy.l111010.B (F.slices_Clone_stringstring K) (F.slices_Clone_apiPropapiProp K) (fun a0 x0 x1 x2 x3 => H [1, 1, 1, 0, 1, 0, 0, 1, 1, 1] [n0] (F.graph_Copy.j1110100111.st a0 x0 x1 x2 x3)) a0 x0 x1 x2 x3 from by intro H; kernel_rfl) (F.graph_Copy.at K))
noncomputable def F.graph_Copy.j1110100111.B (c0 : (TGraph) → (Int) → (Int) → (List TNode) → (List TEdge) → Option (TGraph)) (a0 : TGraph) (x0 : Int) (x1 : Int) (x2 : List TNode) (x3 : List TEdge) : Option (TGraph) :=
    (c0 a0 x0 (w64 (x1 + 1)) x2 x3)
theorem F.graph_Copy.j1110100111.eq K n0 a0 x0 x1 x2 x3 : F.graph_Copy.j1110100111 K n0 a0 x0 x1 x2 x3 = F.graph_Copy.j1110100111.B (F.graph_Copy.l111010 K n0) a0 x0 x1 x2 x3 := (F.graph_Copy.in_eq K [1, 1, 1, 0, 1, 0, 0, 1, 1, 1] [n0] (F.graph_Copy.j1110100111.st a0 x0 x1 x2 x3)).trans ((show ∀ H, F.graph_Copy.in K H [1, 1, 1, 0, 1, 0, 0, 1, 1, 1] [n0] (F.graph_Copy.j1110100111.st a0 x0 x1 x2 x3) = F.graph_Copy.j1110100111.B (fun a0 x0 x1 x2 x3 => H [1, 1, 1, 0, 1, 0] [n0] (F.graph_Copy.l111010.st a0 x0 x1 x2 x3)) a0 x0 x1 x2 x3 from by intro H; kernel_rfl) (F.graph_Copy.at K))
noncomputable def F.graph_Copy.B (c0 : (List TNode) → Option ((List TNode))) (c1 : (List TEdge) → Option ((List TEdge))) (c2 : (TGraph) → (List TNode) → (List TEdge) → Option (TGraph)) (a0 : TGraph) : Option (TGraph) :=
    (meet ((c0 a0.1).bind fun t0 => (meet ((c1 a0.2).bind fun t1 => (c2 a0 t0 t1)) ((c1 a0.2).bind fun t2 => (c2 a0 t0 t2)))) ((c0 a0.1).bind fun t3 => ((c1 a0.2).bind fun t4 => (c2 a0 t3 t4))))
theorem F.graph_Copy.eq K a0 : F.graph_Copy (K + 1) a0 = F.graph_Copy.B (F.slices_Clone_apiNodeapiNode K) (F.slices_Clone_apiEdgeapiEdge K) (F.graph_Copy.j11 K) a0 := (F.graph_Copy.in_main K a0).trans ((show ∀ H, F.graph_Copy.in K H [] [] ⟨slots [.agg [.list sNode a0.1 false, .list sEdge a0.2 false]] 0, []⟩ = F.graph_Copy.B (F.slices_Clone_apiNodeapiNode K) (F.slices_Clone_apiEdgeapiEdge K) (fun a0 x0 x1 => H [1, 1] [] (F.graph_Copy.j11.st a0 x0 x1)) a0 from by intro H; kernel_rfl) (F.graph_Copy.at K))
noncomputable def V.graph_Copy.j11 (a0 : TGraph) (x0 : List TNode) (x1 : List TEdge) := lim fun v => F.graph_Copy.j11 (v 0) a0 x0 x1
noncomputable def V.graph_Copy.l11010 (a0 : TGraph) (x0 : Int) (x1 : Int) (x2 : List TNode) (x3 : List TEdge) := lim fun v => F.graph_Copy.l11010 (v 0) (v 1) a0 x0 x1 x2 x3
noncomputable def V.graph_Copy.j110100111 (a0 : TGraph) (x0 : Int) (x1 : Int) (x2 : List TNode) (x3 : List TEdge) := lim fun v => F.graph_Copy.j110100111 (v 0) (v 1) a0 x0 x1 x2 x3
noncomputable def V.graph_Copy.l111010 (a0 : TGraph) (x0 : Int) (x1 : Int) (x2 : List TNode) (x3 : List TEdge) := lim fun v => F.graph_Copy.l111010 (v 0) (v 1) a0 x0 x1 x2 x3
noncomputable def V.graph_Copy.j1110100111 (a0 : TGraph) (x0 : Int) (x1 : Int) (x2 : List TNode) (x3 : List TEdge) := lim fun v => F.graph_Copy.j1110100111 (v 0) (v 1) a0 x0 x1 x2 x3
noncomputable def V.graph_Copy (a0 : TGraph) := lim fun v => F.graph_Copy (v 0) a0
theorem V.graph_Copy.j11.of a0 x0 x1 {r} (h : F.graph_Copy.j11.B V.graph_Copy.l11010 a0 x0 x1 = some r) : V.graph_Copy.j11 a0 x0 x1 = some r :=
  App.to (App.same (fun v => F.graph_Copy.j11.eq (v 0) a0 x0 x1) (by unfold F.graph_Copy.j11.B; repeat' first | exact App.val | exact App.no | exact App.lim | exact (App.enter 1 App.lim) | apply App.cond | apply App.guard | apply App.meet | apply App.ite | refine App.bind ?_ fun _ => ?_)) h
theorem V.graph_Copy.l11010.of a0 x0 x1 x2 x3 {r} (h : F.graph_Copy.l11010.B V.slices_Clone_stringstring V.slices_Clone_apiPropapiProp V.graph_Copy.j110100111 V.graph_Copy.l111010 a0 x0 x1 x2 x3 = some r) : V.graph_Copy.l11010 a0 x0 x1 x2 x3 = some r :=
  App.to (App.step 1 (fun v => F.graph_Copy.l11010.eq (v 0) (v 1) a0 x0 x1 x2 x3) (by unfold F.graph_Copy.l11010.B; repeat' first | exact App.val | exact App.no | exact App.lim | exact (App.enter 1 App.lim) | apply App.cond | apply App.guard | apply App.meet | apply App.ite | refine App.bind ?_ fun _ => ?_)) h
theorem V.graph_Copy.j110100111.of a0 x0 x1 x2 x3 {r} (h : F.graph_Copy.j110100111.B V.graph_Copy.l11010 a0 x0 x1 x2 x3 = some r) : V.graph_Copy.j110100111 a0 x0 x1 x2 x3 = some r :=
  App.to (App.same (fun v => F.graph_Copy.j110100111.eq (v 0) (v 1) a0 x0 x1 x2 x3) (by unfold F.graph_Copy.j110100111.B; repeat' first | exact App.val | exact App.no | exact App.lim | apply App.cond | apply App.guard | apply App.meet | apply App.ite | refine App.bind ?_ fun _ => ?_)) h
theorem V.graph_Copy.l111010.of a0 x0 x1 x2 x3 {r} (h : F.graph_Copy.l111010.B V.slices_Clone_stringstring V.slices_Clone_apiPropapiProp V.graph_Copy.j1110100111 a0 x0 x1 x2 x3 = some r) : V.graph_Copy.l111010 a0 x0 x1 x2 x3 = some r :=
  App.to (App.step 1 (fun v => F.graph_Copy.l111010.eq (v 0) (v 1) a0 x0 x1 x2 x3) (by unfold F.graph_Copy.l111010.B; repeat' first | exact App.val | exact App.no | exact App.lim | apply App.cond | apply App.guard | apply App.meet | apply App.ite | refine App.bind ?_ fun _ => ?_)) h
theorem V.graph_Copy.j1110100111.of a0 x0 x1 x2 x3 {r} (h : F.graph_Copy.j1110100111.B V.graph_Copy.l111010 a0 x0 x1 x2 x3 = some r) : V.graph_Copy.j1110100111 a0 x0 x1 x2 x3 = some r :=
  App.to (App.same (fun v => F.graph_Copy.j1110100111.eq (v 0) (v 1) a0 x0 x1 x2 x3) (by unfold F.graph_Copy.j1110100111.B; repeat' first | exact App.val | exact App.no | exact App.lim | apply App.cond | apply App.guard | apply App.meet | apply App.ite | refine App.bind ?_ fun _ => ?_)) h
theorem V.graph_Copy.of a0 {r} (h : F.graph_Copy.B V.slices_Clone_apiNodeapiNode V.slices_Clone_apiEdgeapiEdge V.graph_Copy.j11 a0 = some r) : V.graph_Copy a0 = some r :=
  App.to (App.step 0 (fun v => F.graph_Copy.eq (v 0) a0) (by unfold F.graph_Copy.B; repeat' first | exact App.val | exact App.no | exact App.lim | apply App.cond | apply App.guard | apply App.meet | apply App.ite | refine App.bind ?_ fun _ => ?_)) h
noncomputable def F.graph_Right (K : Nat) (a0 : TOp) : Option (Int) := evFn Tryz.prog sg K 61 [.agg [.val (.int .i64 a0.1), .val (.string a0.2.1), .val (.string a0.2.2.1), .val (.string a0.2.2.2.1), .val (.string a0.2.2.2.2.1), .val (.int .i64 a0.2.2.2.2.2.1), .val (.int .i64 a0.2.2.2.2.2.2.1), .val (.string a0.2.2.2.2.2.2.2)]] []
noncomputable def F.graph_Right.at (K : Nat) (p ns : List Nat) (s : St) : Option (Int) := atFn Tryz.prog sg K 61 0 p ns s
noncomputable def F.graph_Right.in (K : Nat) (H : List Nat → List Nat → St → Option (Int)) (p ns : List Nat) (s : St) : Option (Int) := inFn Tryz.prog sg K 61 0 [[1, 1, 1, 0, 1, 0, 1], [1, 1, 1, 0, 1, 0, 1, 1, 1, 1, 1], [1, 1, 1, 0, 1, 0, 1, 1, 1, 1, 1, 1, 1], [1, 1, 1, 1], [1, 1, 1, 1, 1]] H p ns s
theorem F.graph_Right.in_eq K p ns s : F.graph_Right.at K p ns s = F.graph_Right.in K (F.graph_Right.at K) p ns s := atFn_eq (P := Tryz.prog) (sg := sg) (K := K) (f := 61) (m := 0) [[1, 1, 1, 0, 1, 0, 1], [1, 1, 1, 0, 1, 0, 1, 1, 1, 1, 1], [1, 1, 1, 0, 1, 0, 1, 1, 1, 1, 1, 1, 1], [1, 1, 1, 1], [1, 1, 1, 1, 1]] p ns s
theorem F.graph_Right.in_main K a0 : F.graph_Right (K + 1) a0 = F.graph_Right.in K (F.graph_Right.at K) [] [] ⟨slots [.agg [.val (.int .i64 a0.1), .val (.string a0.2.1), .val (.string a0.2.2.1), .val (.string a0.2.2.2.1), .val (.string a0.2.2.2.2.1), .val (.int .i64 a0.2.2.2.2.2.1), .val (.int .i64 a0.2.2.2.2.2.2.1), .val (.string a0.2.2.2.2.2.2.2)]] 0, []⟩ := evFn_eq (P := Tryz.prog) (sg := sg) (K := K) (f := 61) (args := [.agg [.val (.int .i64 a0.1), .val (.string a0.2.1), .val (.string a0.2.2.1), .val (.string a0.2.2.2.1), .val (.string a0.2.2.2.2.1), .val (.int .i64 a0.2.2.2.2.2.1), .val (.int .i64 a0.2.2.2.2.2.2.1), .val (.string a0.2.2.2.2.2.2.2)]]) (σ := []) [[1, 1, 1, 0, 1, 0, 1], [1, 1, 1, 0, 1, 0, 1, 1, 1, 1, 1], [1, 1, 1, 0, 1, 0, 1, 1, 1, 1, 1, 1, 1], [1, 1, 1, 1], [1, 1, 1, 1, 1]] (by kernel_rfl)
def F.graph_Right.j1110101.st (a0 : TOp) (x0 : Bool) : St := ⟨[(1, .one (.sc (.ref 0 0))), (3, vB true), (11, vI a0.1), (12, vB x0)], [.cells 67 [.val (.int .i64 a0.1), .val (.string a0.2.1), .val (.string a0.2.2.1), .val (.string a0.2.2.2.1), .val (.string a0.2.2.2.2.1), .val (.int .i64 a0.2.2.2.2.2.1), .val (.int .i64 a0.2.2.2.2.2.2.1), .val (.string a0.2.2.2.2.2.2.2)]]⟩
noncomputable def F.graph_Right.j1110101 (K : Nat) (a0 : TOp) (x0 : Bool) := F.graph_Right.at K [1, 1, 1, 0, 1, 0, 1] [] (F.graph_Right.j1110101.st a0 x0)
def F.graph_Right.j11101011111.st (a0 : TOp) (x0 : Bool) : St := ⟨[(1, .one (.sc (.ref 0 0))), (11, vI a0.1), (28, vB x0)], [.cells 67 [.val (.int .i64 a0.1), .val (.string a0.2.1), .val (.string a0.2.2.1), .val (.string a0.2.2.2.1), .val (.string a0.2.2.2.2.1), .val (.int .i64 a0.2.2.2.2.2.1), .val (.int .i64 a0.2.2.2.2.2.2.1), .val (.string a0.2.2.2.2.2.2.2)]]⟩
noncomputable def F.graph_Right.j11101011111 (K : Nat) (a0 : TOp) (x0 : Bool) := F.graph_Right.at K [1, 1, 1, 0, 1, 0, 1, 1, 1, 1, 1] [] (F.graph_Right.j11101011111.st a0 x0)
def F.graph_Right.j1111.st (a0 : TOp) (x0 : Bool) : St := ⟨[(3, vB x0)], []⟩
noncomputable def F.graph_Right.j1111 (K : Nat) (a0 : TOp) (x0 : Bool) := F.graph_Right.at K [1, 1, 1, 1] [] (F.graph_Right.j1111.st a0 x0)
def F.graph_Right.j11111.st (a0 : TOp) : St := ⟨[], []⟩
noncomputable def F.graph_Right.j11111 (K : Nat) (a0 : TOp) := F.graph_Right.at K [1, 1, 1, 1, 1] [] (F.graph_Right.j11111.st a0)
noncomputable def F.graph_Right.j1110101.B (c0 : (TOp) → (Bool) → Option (Int)) (c1 : (ByteArray) → Option (Int)) (c2 : (TOp) → (Bool) → Option (Int)) (a0 : TOp) (x0 : Bool) : Option (Int) :=
    (bif x0 then (c0 a0 true) else (bif (a0.1 == 3) then ((c1 a0.2.2.1).bind fun t1 => (bif (t1 == 0) then ((c1 a0.2.2.2.1).bind fun t2 => (c0 a0 (t2 == 0))) else (c0 a0 false))) else (bif (a0.1 == 5) then (c2 a0 (a0.1 == 5)) else (bif (a0.1 == 6) then (c2 a0 (a0.1 == 6)) else (bif (a0.1 == 7) then (c2 a0 (a0.1 == 7)) else (bif (a0.1 == 8) then (c2 a0 (a0.1 == 8)) else (bif (a0.1 == 10) then (c2 a0 (a0.1 == 10)) else (c2 a0 (a0.1 == 12)))))))))
theorem F.graph_Right.j1110101.eq K a0 x0 : F.graph_Right.j1110101 K a0 x0 = F.graph_Right.j1110101.B (F.graph_Right.j1111 K) (F.name_Check K) (F.graph_Right.j11101011111 K) a0 x0 := (F.graph_Right.in_eq K [1, 1, 1, 0, 1, 0, 1] [] (F.graph_Right.j1110101.st a0 x0)).trans ((show ∀ H, F.graph_Right.in K H [1, 1, 1, 0, 1, 0, 1] [] (F.graph_Right.j1110101.st a0 x0) = F.graph_Right.j1110101.B (fun a0 x0 => H [1, 1, 1, 1] [] (F.graph_Right.j1111.st a0 x0)) (F.name_Check K) (fun a0 x0 => H [1, 1, 1, 0, 1, 0, 1, 1, 1, 1, 1] [] (F.graph_Right.j11101011111.st a0 x0)) a0 x0 from by intro H; kernel_rfl) (F.graph_Right.at K))
noncomputable def F.graph_Right.j1111.B (c0 : (TOp) → Option (Int)) (a0 : TOp) (x0 : Bool) : Option (Int) :=
    (bif (!x0) then (some 2) else (c0 a0))
theorem F.graph_Right.j1111.eq K a0 x0 : F.graph_Right.j1111 K a0 x0 = F.graph_Right.j1111.B (F.graph_Right.j11111 K) a0 x0 := (F.graph_Right.in_eq K [1, 1, 1, 1] [] (F.graph_Right.j1111.st a0 x0)).trans ((show ∀ H, F.graph_Right.in K H [1, 1, 1, 1] [] (F.graph_Right.j1111.st a0 x0) = F.graph_Right.j1111.B (fun a0 => H [1, 1, 1, 1, 1] [] (F.graph_Right.j11111.st a0)) a0 x0 from by intro H; kernel_rfl) (F.graph_Right.at K))
noncomputable def F.graph_Right.j11111.B (a0 : TOp) : Option (Int) :=
    (some 0)
theorem F.graph_Right.j11111.eq K a0 : F.graph_Right.j11111 K a0 = F.graph_Right.j11111.B a0 := (F.graph_Right.in_eq K [1, 1, 1, 1, 1] [] (F.graph_Right.j11111.st a0)).trans ((show ∀ H, F.graph_Right.in K H [1, 1, 1, 1, 1] [] (F.graph_Right.j11111.st a0) = F.graph_Right.j11111.B a0 from by intro H; kernel_rfl) (F.graph_Right.at K))
noncomputable def F.graph_Right.B (c0 : (ByteArray) → Option (Int)) (c1 : (TOp) → (Bool) → Option (Int)) (a0 : TOp) : Option (Int) :=
    ((c0 a0.2.1).bind fun t0 => (bif (t0 != 0) then (some 2) else (bif (a0.1 == 1) then (c1 a0 (a0.1 == 1)) else (bif (a0.1 == 2) then (c1 a0 (a0.1 == 2)) else (c1 a0 (a0.1 == 4))))))
theorem F.graph_Right.eq K a0 : F.graph_Right (K + 1) a0 = F.graph_Right.B (F.name_Check K) (F.graph_Right.j1110101 K) a0 := (F.graph_Right.in_main K a0).trans ((show ∀ H, F.graph_Right.in K H [] [] ⟨slots [.agg [.val (.int .i64 a0.1), .val (.string a0.2.1), .val (.string a0.2.2.1), .val (.string a0.2.2.2.1), .val (.string a0.2.2.2.2.1), .val (.int .i64 a0.2.2.2.2.2.1), .val (.int .i64 a0.2.2.2.2.2.2.1), .val (.string a0.2.2.2.2.2.2.2)]] 0, []⟩ = F.graph_Right.B (F.name_Check K) (fun a0 x0 => H [1, 1, 1, 0, 1, 0, 1] [] (F.graph_Right.j1110101.st a0 x0)) a0 from by intro H; kernel_rfl) (F.graph_Right.at K))
noncomputable def V.graph_Right.j1110101 (a0 : TOp) (x0 : Bool) := lim fun v => F.graph_Right.j1110101 (v 0) a0 x0
noncomputable def V.graph_Right.j11101011111 (a0 : TOp) (x0 : Bool) := lim fun v => F.graph_Right.j11101011111 (v 0) a0 x0
noncomputable def V.graph_Right.j1111 (a0 : TOp) (x0 : Bool) := lim fun v => F.graph_Right.j1111 (v 0) a0 x0
noncomputable def V.graph_Right.j11111 (a0 : TOp) := lim fun v => F.graph_Right.j11111 (v 0) a0
noncomputable def V.graph_Right (a0 : TOp) := lim fun v => F.graph_Right (v 0) a0
theorem V.graph_Right.j1110101.of a0 x0 {r} (h : F.graph_Right.j1110101.B V.graph_Right.j1111 V.name_Check V.graph_Right.j11101011111 a0 x0 = some r) : V.graph_Right.j1110101 a0 x0 = some r :=
  App.to (App.same (fun v => F.graph_Right.j1110101.eq (v 0) a0 x0) (by unfold F.graph_Right.j1110101.B; repeat' first | exact App.val | exact App.no | exact App.lim | apply App.cond | apply App.guard | apply App.meet | apply App.ite | refine App.bind ?_ fun _ => ?_)) h
theorem V.graph_Right.j1111.of a0 x0 {r} (h : F.graph_Right.j1111.B V.graph_Right.j11111 a0 x0 = some r) : V.graph_Right.j1111 a0 x0 = some r :=
  App.to (App.same (fun v => F.graph_Right.j1111.eq (v 0) a0 x0) (by unfold F.graph_Right.j1111.B; repeat' first | exact App.val | exact App.no | exact App.lim | apply App.cond | apply App.guard | apply App.meet | apply App.ite | refine App.bind ?_ fun _ => ?_)) h
theorem V.graph_Right.j11111.of a0 {r} (h : F.graph_Right.j11111.B a0 = some r) : V.graph_Right.j11111 a0 = some r :=
  App.to (App.same (fun v => F.graph_Right.j11111.eq (v 0) a0) (by unfold F.graph_Right.j11111.B; repeat' first | exact App.val | exact App.no | exact App.lim | apply App.cond | apply App.guard | apply App.meet | apply App.ite | refine App.bind ?_ fun _ => ?_)) h
theorem V.graph_Right.of a0 {r} (h : F.graph_Right.B V.name_Check V.graph_Right.j1110101 a0 = some r) : V.graph_Right a0 = some r :=
  App.to (App.step 0 (fun v => F.graph_Right.eq (v 0) a0) (by unfold F.graph_Right.B; repeat' first | exact App.val | exact App.no | exact App.lim | apply App.cond | apply App.guard | apply App.meet | apply App.ite | refine App.bind ?_ fun _ => ?_)) h
noncomputable def F.slices_Insert_apiNodeapiNode (K : Nat) (a0 : List TNode) (a1 : Int) (a2 : List TNode) : Option ((List TNode)) := evFn Tryz.prog sg K 92 [.sc (.own 0 none), .sc (.val (.int .i64 a1)), .sc (.list sNode a2 false)] [.elems sNode a0]
noncomputable def V.slices_Insert_apiNodeapiNode (a0 : List TNode) (a1 : Int) (a2 : List TNode) := lim fun v => F.slices_Insert_apiNodeapiNode (v 0) a0 a1 a2
noncomputable def F.graph_edge_1 (K : Nat) (a0 : TEdge) (a1 : ByteArray) : Option (Int) := evFn Tryz.prog sg K 76 [.agg [.val (.string a0.1), .val (.string a0.2.1), .val (.string a0.2.2.1), .list .str a0.2.2.2.1 false, .list sProp a0.2.2.2.2 false], .sc (.val (.string a1))] []
noncomputable def F.graph_edge_1.B (c0 : (ByteArray) → (ByteArray) → Option (Int)) (a0 : TEdge) (a1 : ByteArray) : Option (Int) :=
    ((c0 a0.1 a1).bind fun t0 => (some t0))
theorem F.graph_edge_1.eq K a0 a1 : F.graph_edge_1 (K + 1) a0 a1 = F.graph_edge_1.B (F.cmp_Compare_string K) a0 a1 := by kernel_rfl
noncomputable def V.graph_edge_1 (a0 : TEdge) (a1 : ByteArray) := lim fun v => F.graph_edge_1 (v 0) a0 a1
theorem V.graph_edge_1.of a0 a1 {r} (h : F.graph_edge_1.B V.cmp_Compare_string a0 a1 = some r) : V.graph_edge_1 a0 a1 = some r :=
  App.to (App.step 0 (fun v => F.graph_edge_1.eq (v 0) a0 a1) (by unfold F.graph_edge_1.B; repeat' first | exact App.val | exact App.no | exact App.lim | apply App.cond | apply App.guard | apply App.meet | apply App.ite | refine App.bind ?_ fun _ => ?_)) h
noncomputable def F.slices_BinarySearchFunc_apiEdgeapiEdgestring_by_graph_edge_1 (K : Nat) (a0 : List TEdge) (a1 : ByteArray) : Option (Int × Bool) := evFn Tryz.prog sg K 75 [.sc (.list sEdge a0 false), .sc (.val (.string a1)), .sc (.fn 76 [])] []
noncomputable def F.slices_BinarySearchFunc_apiEdgeapiEdgestring_by_graph_edge_1.at (K : Nat) (p ns : List Nat) (s : St) : Option (Int × Bool) := atFn Tryz.prog sg K 75 0 p ns s
noncomputable def F.slices_BinarySearchFunc_apiEdgeapiEdgestring_by_graph_edge_1.in (K : Nat) (H : List Nat → List Nat → St → Option (Int × Bool)) (p ns : List Nat) (s : St) : Option (Int × Bool) := inFn Tryz.prog sg K 75 0 [] H p ns s
theorem F.slices_BinarySearchFunc_apiEdgeapiEdgestring_by_graph_edge_1.in_eq K p ns s : F.slices_BinarySearchFunc_apiEdgeapiEdgestring_by_graph_edge_1.at K p ns s = F.slices_BinarySearchFunc_apiEdgeapiEdgestring_by_graph_edge_1.in K (F.slices_BinarySearchFunc_apiEdgeapiEdgestring_by_graph_edge_1.at K) p ns s := atFn_eq (P := Tryz.prog) (sg := sg) (K := K) (f := 75) (m := 0) [] p ns s
theorem F.slices_BinarySearchFunc_apiEdgeapiEdgestring_by_graph_edge_1.in_main K a0 a1 : F.slices_BinarySearchFunc_apiEdgeapiEdgestring_by_graph_edge_1 (K + 1) a0 a1 = F.slices_BinarySearchFunc_apiEdgeapiEdgestring_by_graph_edge_1.in K (F.slices_BinarySearchFunc_apiEdgeapiEdgestring_by_graph_edge_1.at K) [] [] ⟨slots [.sc (.list sEdge a0 false), .sc (.val (.string a1)), .sc (.fn 76 [])] 0, []⟩ := evFn_eq (P := Tryz.prog) (sg := sg) (K := K) (f := 75) (args := [.sc (.list sEdge a0 false), .sc (.val (.string a1)), .sc (.fn 76 [])]) (σ := []) [] (by kernel_rfl)
def F.slices_BinarySearchFunc_apiEdgeapiEdgestring_by_graph_edge_1.l11100.st (a0 : List TEdge) (a1 : ByteArray) (x0 : Int) (x1 : Int) : St := ⟨[(0, vL sEdge a0), (1, vS a1), (2, .one (.sc (.fn 76 []))), (8, vI (a0.length : Int)), (9, vI x0), (10, vI x1)], []⟩
noncomputable def F.slices_BinarySearchFunc_apiEdgeapiEdgestring_by_graph_edge_1.l11100 (K n0 : Nat) (a0 : List TEdge) (a1 : ByteArray) (x0 : Int) (x1 : Int) := F.slices_BinarySearchFunc_apiEdgeapiEdgestring_by_graph_edge_1.at K [1, 1, 1, 0, 0] [n0] (F.slices_BinarySearchFunc_apiEdgeapiEdgestring_by_graph_edge_1.l11100.st a0 a1 x0 x1)
noncomputable def F.slices_BinarySearchFunc_apiEdgeapiEdgestring_by_graph_edge_1.l11100.B (c0 : (TEdge) → (ByteArray) → Option (Int)) (c1 : (List TEdge) → (ByteArray) → (Int) → (Int) → Option (Int × Bool)) (a0 : List TEdge) (a1 : ByteArray) (x0 : Int) (x1 : Int) : Option (Int × Bool) :=
    (bif (decide (x0 < x1)) then (guardK (decide (0 ≤ (w64 (Int.fdiv (IntKind.wrap .u64 (w64 (x0 + x1))) (2 ^ 1)))) && decide ((w64 (Int.fdiv (IntKind.wrap .u64 (w64 (x0 + x1))) (2 ^ 1))) < (a0.length : Int))) ((c0 ((rd sEdge a0 ((w64 (Int.fdiv (IntKind.wrap .u64 (w64 (x0 + x1))) (2 ^ 1))).toNat)).1, ((rd sEdge a0 ((w64 (Int.fdiv (IntKind.wrap .u64 (w64 (x0 + x1))) (2 ^ 1))).toNat)).2).1, (((rd sEdge a0 ((w64 (Int.fdiv (IntKind.wrap .u64 (w64 (x0 + x1))) (2 ^ 1))).toNat)).2).2).1, ((((rd sEdge a0 ((w64 (Int.fdiv (IntKind.wrap .u64 (w64 (x0 + x1))) (2 ^ 1))).toNat)).2).2).2).1, ((((rd sEdge a0 ((w64 (Int.fdiv (IntKind.wrap .u64 (w64 (x0 + x1))) (2 ^ 1))).toNat)).2).2).2).2) a1).bind fun t0 => (bif (decide (t0 < 0)) then (c1 a0 a1 (w64 ((w64 (Int.fdiv (IntKind.wrap .u64 (w64 (x0 + x1))) (2 ^ 1))) + 1)) x1) else (c1 a0 a1 x0 (w64 (Int.fdiv (IntKind.wrap .u64 (w64 (x0 + x1))) (2 ^ 1))))))) else (bif (decide (x0 < (a0.length : Int))) then (guardK (decide (0 ≤ x0) && decide (x0 < (a0.length : Int))) ((c0 ((rd sEdge a0 x0.toNat).1, ((rd sEdge a0 x0.toNat).2).1, (((rd sEdge a0 x0.toNat).2).2).1, ((((rd sEdge a0 x0.toNat).2).2).2).1, ((((rd sEdge a0 x0.toNat).2).2).2).2) a1).bind fun t1 => (some (x0, (t1 == 0))))) else (some (x0, false))))
theorem F.slices_BinarySearchFunc_apiEdgeapiEdgestring_by_graph_edge_1.l11100.eq K n0 a0 a1 x0 x1 : F.slices_BinarySearchFunc_apiEdgeapiEdgestring_by_graph_edge_1.l11100 K (n0 + 1) a0 a1 x0 x1 = F.slices_BinarySearchFunc_apiEdgeapiEdgestring_by_graph_edge_1.l11100.B (F.graph_edge_1 K) (F.slices_BinarySearchFunc_apiEdgeapiEdgestring_by_graph_edge_1.l11100 K n0) a0 a1 x0 x1 := (F.slices_BinarySearchFunc_apiEdgeapiEdgestring_by_graph_edge_1.in_eq K [1, 1, 1, 0, 0] [n0 + 1] (F.slices_BinarySearchFunc_apiEdgeapiEdgestring_by_graph_edge_1.l11100.st a0 a1 x0 x1)).trans ((show ∀ H, F.slices_BinarySearchFunc_apiEdgeapiEdgestring_by_graph_edge_1.in K H [1, 1, 1, 0, 0] [n0 + 1] (F.slices_BinarySearchFunc_apiEdgeapiEdgestring_by_graph_edge_1.l11100.st a0 a1 x0 x1) = F.slices_BinarySearchFunc_apiEdgeapiEdgestring_by_graph_edge_1.l11100.B (F.graph_edge_1 K) (fun a0 a1 x0 x1 => H [1, 1, 1, 0, 0] [n0] (F.slices_BinarySearchFunc_apiEdgeapiEdgestring_by_graph_edge_1.l11100.st a0 a1 x0 x1)) a0 a1 x0 x1 from by intro H; kernel_rfl) (F.slices_BinarySearchFunc_apiEdgeapiEdgestring_by_graph_edge_1.at K))
noncomputable def F.slices_BinarySearchFunc_apiEdgeapiEdgestring_by_graph_edge_1.B (c0 : (List TEdge) → (ByteArray) → (Int) → (Int) → Option (Int × Bool)) (a0 : List TEdge) (a1 : ByteArray) : Option (Int × Bool) :=
    (c0 a0 a1 0 (a0.length : Int))
theorem F.slices_BinarySearchFunc_apiEdgeapiEdgestring_by_graph_edge_1.eq K a0 a1 : F.slices_BinarySearchFunc_apiEdgeapiEdgestring_by_graph_edge_1 (K + 1) a0 a1 = F.slices_BinarySearchFunc_apiEdgeapiEdgestring_by_graph_edge_1.B (F.slices_BinarySearchFunc_apiEdgeapiEdgestring_by_graph_edge_1.l11100 K K) a0 a1 := (F.slices_BinarySearchFunc_apiEdgeapiEdgestring_by_graph_edge_1.in_main K a0 a1).trans ((show ∀ H, F.slices_BinarySearchFunc_apiEdgeapiEdgestring_by_graph_edge_1.in K H [] [] ⟨slots [.sc (.list sEdge a0 false), .sc (.val (.string a1)), .sc (.fn 76 [])] 0, []⟩ = F.slices_BinarySearchFunc_apiEdgeapiEdgestring_by_graph_edge_1.B (fun a0 a1 x0 x1 => H [1, 1, 1, 0, 0] [K] (F.slices_BinarySearchFunc_apiEdgeapiEdgestring_by_graph_edge_1.l11100.st a0 a1 x0 x1)) a0 a1 from by intro H; kernel_rfl) (F.slices_BinarySearchFunc_apiEdgeapiEdgestring_by_graph_edge_1.at K))
noncomputable def V.slices_BinarySearchFunc_apiEdgeapiEdgestring_by_graph_edge_1.l11100 (a0 : List TEdge) (a1 : ByteArray) (x0 : Int) (x1 : Int) := lim fun v => F.slices_BinarySearchFunc_apiEdgeapiEdgestring_by_graph_edge_1.l11100 (v 0) (v 1) a0 a1 x0 x1
noncomputable def V.slices_BinarySearchFunc_apiEdgeapiEdgestring_by_graph_edge_1 (a0 : List TEdge) (a1 : ByteArray) := lim fun v => F.slices_BinarySearchFunc_apiEdgeapiEdgestring_by_graph_edge_1 (v 0) a0 a1
theorem V.slices_BinarySearchFunc_apiEdgeapiEdgestring_by_graph_edge_1.l11100.of a0 a1 x0 x1 {r} (h : F.slices_BinarySearchFunc_apiEdgeapiEdgestring_by_graph_edge_1.l11100.B V.graph_edge_1 V.slices_BinarySearchFunc_apiEdgeapiEdgestring_by_graph_edge_1.l11100 a0 a1 x0 x1 = some r) : V.slices_BinarySearchFunc_apiEdgeapiEdgestring_by_graph_edge_1.l11100 a0 a1 x0 x1 = some r :=
  App.to (App.step 1 (fun v => F.slices_BinarySearchFunc_apiEdgeapiEdgestring_by_graph_edge_1.l11100.eq (v 0) (v 1) a0 a1 x0 x1) (by unfold F.slices_BinarySearchFunc_apiEdgeapiEdgestring_by_graph_edge_1.l11100.B; repeat' first | exact App.val | exact App.no | exact App.lim | apply App.cond | apply App.guard | apply App.meet | apply App.ite | refine App.bind ?_ fun _ => ?_)) h
theorem V.slices_BinarySearchFunc_apiEdgeapiEdgestring_by_graph_edge_1.of a0 a1 {r} (h : F.slices_BinarySearchFunc_apiEdgeapiEdgestring_by_graph_edge_1.B V.slices_BinarySearchFunc_apiEdgeapiEdgestring_by_graph_edge_1.l11100 a0 a1 = some r) : V.slices_BinarySearchFunc_apiEdgeapiEdgestring_by_graph_edge_1 a0 a1 = some r :=
  App.to (App.step 0 (fun v => F.slices_BinarySearchFunc_apiEdgeapiEdgestring_by_graph_edge_1.eq (v 0) a0 a1) (by unfold F.slices_BinarySearchFunc_apiEdgeapiEdgestring_by_graph_edge_1.B; repeat' first | exact App.val | exact App.no | exact App.lim | exact (App.enter 1 App.lim) | apply App.cond | apply App.guard | apply App.meet | apply App.ite | refine App.bind ?_ fun _ => ?_)) h
noncomputable def F.graph_edge (K : Nat) (a0 : TGraph) (a1 : ByteArray) : Option (Int × Bool) := evFn Tryz.prog sg K 43 [.agg [.list sNode a0.1 false, .list sEdge a0.2 false], .sc (.val (.string a1))] []
noncomputable def F.graph_edge.B (c0 : (List TEdge) → (ByteArray) → Option (Int × Bool)) (a0 : TGraph) (a1 : ByteArray) : Option (Int × Bool) :=
    ((c0 a0.2 a1).bind fun t0 => (some (t0.1, t0.2)))
theorem F.graph_edge.eq K a0 a1 : F.graph_edge (K + 1) a0 a1 = F.graph_edge.B (F.slices_BinarySearchFunc_apiEdgeapiEdgestring_by_graph_edge_1 K) a0 a1 := by kernel_rfl
noncomputable def V.graph_edge (a0 : TGraph) (a1 : ByteArray) := lim fun v => F.graph_edge (v 0) a0 a1
theorem V.graph_edge.of a0 a1 {r} (h : F.graph_edge.B V.slices_BinarySearchFunc_apiEdgeapiEdgestring_by_graph_edge_1 a0 a1 = some r) : V.graph_edge a0 a1 = some r :=
  App.to (App.step 0 (fun v => F.graph_edge.eq (v 0) a0 a1) (by unfold F.graph_edge.B; repeat' first | exact App.val | exact App.no | exact App.lim | apply App.cond | apply App.guard | apply App.meet | apply App.ite | refine App.bind ?_ fun _ => ?_)) h
noncomputable def F.slices_Insert_apiEdgeapiEdge (K : Nat) (a0 : List TEdge) (a1 : Int) (a2 : List TEdge) : Option ((List TEdge)) := evFn Tryz.prog sg K 93 [.sc (.own 0 none), .sc (.val (.int .i64 a1)), .sc (.list sEdge a2 false)] [.elems sEdge a0]
noncomputable def V.slices_Insert_apiEdgeapiEdge (a0 : List TEdge) (a1 : Int) (a2 : List TEdge) := lim fun v => F.slices_Insert_apiEdgeapiEdge (v 0) a0 a1 a2
noncomputable def F.graph_change_comes (K : Nat) (a0 : TGraph) (a1 : TOp) : Option (Int × TGraph) := evFn Tryz.prog sg K 63 [.sc (.ref 0 0), .agg [.val (.int .i64 a1.1), .val (.string a1.2.1), .val (.string a1.2.2.1), .val (.string a1.2.2.2.1), .val (.string a1.2.2.2.2.1), .val (.int .i64 a1.2.2.2.2.2.1), .val (.int .i64 a1.2.2.2.2.2.2.1), .val (.string a1.2.2.2.2.2.2.2)]] [.cells 79 [.own 1 none, .own 2 none], .elems sNode a0.1, .elems sEdge a0.2]
noncomputable def F.graph_change_comes.B (c0 : (TGraph) → (ByteArray) → Option (Int × Bool)) (c1 : (List TNode) → (Int) → (List TNode) → Option ((List TNode))) (c2 : (TGraph) → (ByteArray) → Option (Int × Bool)) (c3 : (List TEdge) → (Int) → (List TEdge) → Option ((List TEdge))) (a0 : TGraph) (a1 : TOp) : Option (Int × TGraph) :=
    (bif (a1.1 == 1) then ((c0 (a0.1, a0.2) a1.2.1).bind fun t0 => (bif t0.2 then (some (10, a0.1, a0.2)) else (bif (decide ((a0.1.length : Int) ≥ 500)) then (some (5, a0.1, a0.2)) else (meet ((c1 a0.1 t0.1 ([(a1.2.1, [], [])])).bind fun t1 => (some (0, t1, a0.2))) ((c1 a0.1 t0.1 ([(a1.2.1, [], [])])).bind fun t2 => (some (0, t2, a0.2))))))) else ((c2 (a0.1, a0.2) a1.2.1).bind fun t3 => ((c0 (a0.1, a0.2) a1.2.2.1).bind fun t4 => ((c0 (a0.1, a0.2) a1.2.2.2.1).bind fun t5 => (bif t3.2 then (some (10, a0.1, a0.2)) else (bif (!t4.2) then (some (9, a0.1, a0.2)) else (bif (!t5.2) then (some (9, a0.1, a0.2)) else (bif (decide ((a0.2.length : Int) ≥ 1000)) then (some (5, a0.1, a0.2)) else (meet ((c3 a0.2 t3.1 ([(a1.2.1, a1.2.2.1, a1.2.2.2.1, [], [])])).bind fun t6 => (some (0, a0.1, t6))) ((c3 a0.2 t3.1 ([(a1.2.1, a1.2.2.1, a1.2.2.2.1, [], [])])).bind fun t7 => (some (0, a0.1, t7))))))))))))
theorem F.graph_change_comes.eq K a0 a1 : F.graph_change_comes (K + 1) a0 a1 = F.graph_change_comes.B (F.graph_node K) (F.slices_Insert_apiNodeapiNode K) (F.graph_edge K) (F.slices_Insert_apiEdgeapiEdge K) a0 a1 := by kernel_rfl
noncomputable def V.graph_change_comes (a0 : TGraph) (a1 : TOp) := lim fun v => F.graph_change_comes (v 0) a0 a1
theorem V.graph_change_comes.of a0 a1 {r} (h : F.graph_change_comes.B V.graph_node V.slices_Insert_apiNodeapiNode V.graph_edge V.slices_Insert_apiEdgeapiEdge a0 a1 = some r) : V.graph_change_comes a0 a1 = some r :=
  App.to (App.step 0 (fun v => F.graph_change_comes.eq (v 0) a0 a1) (by unfold F.graph_change_comes.B; repeat' first | exact App.val | exact App.no | exact App.lim | apply App.cond | apply App.guard | apply App.meet | apply App.ite | refine App.bind ?_ fun _ => ?_)) h
noncomputable def F.graph_change_goes (K : Nat) (a0 : TGraph) (a1 : TOp) : Option (Int × TGraph) := evFn Tryz.prog sg K 64 [.sc (.ref 0 0), .agg [.val (.int .i64 a1.1), .val (.string a1.2.1), .val (.string a1.2.2.1), .val (.string a1.2.2.2.1), .val (.string a1.2.2.2.2.1), .val (.int .i64 a1.2.2.2.2.2.1), .val (.int .i64 a1.2.2.2.2.2.2.1), .val (.string a1.2.2.2.2.2.2.2)]] [.cells 79 [.own 1 none, .own 2 none], .elems sNode a0.1, .elems sEdge a0.2]
noncomputable def V.graph_change_goes (a0 : TGraph) (a1 : TOp) := lim fun v => F.graph_change_goes (v 0) a0 a1
noncomputable def F.cmp_Less_string (K : Nat) (a0 : ByteArray) (a1 : ByteArray) : Option (Bool) := evFn Tryz.prog sg K 108 [.sc (.val (.string a0)), .sc (.val (.string a1))] []
noncomputable def F.cmp_Less_string.B (c0 : (ByteArray) → Option (Bool)) (a0 : ByteArray) (a1 : ByteArray) : Option (Bool) :=
    ((c0 a0).bind fun t0 => (bif t0 then ((c0 a1).bind fun t1 => (bif (!t1) then (some true) else (some (strLt a0 a1)))) else (some (strLt a0 a1))))
theorem F.cmp_Less_string.eq K a0 a1 : F.cmp_Less_string (K + 1) a0 a1 = F.cmp_Less_string.B (F.cmp_isNaN_string K) a0 a1 := by kernel_rfl
noncomputable def V.cmp_Less_string (a0 : ByteArray) (a1 : ByteArray) := lim fun v => F.cmp_Less_string (v 0) a0 a1
theorem V.cmp_Less_string.of a0 a1 {r} (h : F.cmp_Less_string.B V.cmp_isNaN_string a0 a1 = some r) : V.cmp_Less_string a0 a1 = some r :=
  App.to (App.step 0 (fun v => F.cmp_Less_string.eq (v 0) a0 a1) (by unfold F.cmp_Less_string.B; repeat' first | exact App.val | exact App.no | exact App.lim | apply App.cond | apply App.guard | apply App.meet | apply App.ite | refine App.bind ?_ fun _ => ?_)) h
noncomputable def F.slices_isNaN_string (K : Nat) (a0 : ByteArray) : Option (Bool) := evFn Tryz.prog sg K 109 [.sc (.val (.string a0))] []
noncomputable def F.slices_isNaN_string.B (a0 : ByteArray) : Option (Bool) :=
    (some (!strEq a0 a0))
theorem F.slices_isNaN_string.eq K a0 : F.slices_isNaN_string (K + 1) a0 = F.slices_isNaN_string.B a0 := by kernel_rfl
noncomputable def V.slices_isNaN_string (a0 : ByteArray) := lim fun v => F.slices_isNaN_string (v 0) a0
theorem V.slices_isNaN_string.of a0 {r} (h : F.slices_isNaN_string.B a0 = some r) : V.slices_isNaN_string a0 = some r :=
  App.to (App.step 0 (fun v => F.slices_isNaN_string.eq (v 0) a0) (by unfold F.slices_isNaN_string.B; repeat' first | exact App.val | exact App.no | exact App.lim | apply App.cond | apply App.guard | apply App.meet | apply App.ite | refine App.bind ?_ fun _ => ?_)) h
noncomputable def F.slices_BinarySearch_stringstring (K : Nat) (a0 : List ByteArray) (a1 : ByteArray) : Option (Int × Bool) := evFn Tryz.prog sg K 77 [.sc (.list .str a0 false), .sc (.val (.string a1))] []
noncomputable def F.slices_BinarySearch_stringstring.at (K : Nat) (p ns : List Nat) (s : St) : Option (Int × Bool) := atFn Tryz.prog sg K 77 0 p ns s
noncomputable def F.slices_BinarySearch_stringstring.in (K : Nat) (H : List Nat → List Nat → St → Option (Int × Bool)) (p ns : List Nat) (s : St) : Option (Int × Bool) := inFn Tryz.prog sg K 77 0 [] H p ns s
theorem F.slices_BinarySearch_stringstring.in_eq K p ns s : F.slices_BinarySearch_stringstring.at K p ns s = F.slices_BinarySearch_stringstring.in K (F.slices_BinarySearch_stringstring.at K) p ns s := atFn_eq (P := Tryz.prog) (sg := sg) (K := K) (f := 77) (m := 0) [] p ns s
theorem F.slices_BinarySearch_stringstring.in_main K a0 a1 : F.slices_BinarySearch_stringstring (K + 1) a0 a1 = F.slices_BinarySearch_stringstring.in K (F.slices_BinarySearch_stringstring.at K) [] [] ⟨slots [.sc (.list .str a0 false), .sc (.val (.string a1))] 0, []⟩ := evFn_eq (P := Tryz.prog) (sg := sg) (K := K) (f := 77) (args := [.sc (.list .str a0 false), .sc (.val (.string a1))]) (σ := []) [] (by kernel_rfl)
def F.slices_BinarySearch_stringstring.l11100.st (a0 : List ByteArray) (a1 : ByteArray) (x0 : Int) (x1 : Int) : St := ⟨[(0, vL .str a0), (1, vS a1), (6, vI (a0.length : Int)), (7, vI x0), (8, vI x1)], []⟩
noncomputable def F.slices_BinarySearch_stringstring.l11100 (K n0 : Nat) (a0 : List ByteArray) (a1 : ByteArray) (x0 : Int) (x1 : Int) := F.slices_BinarySearch_stringstring.at K [1, 1, 1, 0, 0] [n0] (F.slices_BinarySearch_stringstring.l11100.st a0 a1 x0 x1)
noncomputable def F.slices_BinarySearch_stringstring.l11100.B (c0 : (ByteArray) → (ByteArray) → Option (Bool)) (c1 : (List ByteArray) → (ByteArray) → (Int) → (Int) → Option (Int × Bool)) (c2 : (ByteArray) → Option (Bool)) (a0 : List ByteArray) (a1 : ByteArray) (x0 : Int) (x1 : Int) : Option (Int × Bool) :=
    (bif (decide (x0 < x1)) then (guardK (decide (0 ≤ (w64 (Int.fdiv (IntKind.wrap .u64 (w64 (x0 + x1))) (2 ^ 1)))) && decide ((w64 (Int.fdiv (IntKind.wrap .u64 (w64 (x0 + x1))) (2 ^ 1))) < (a0.length : Int))) ((c0 (rd .str a0 ((w64 (Int.fdiv (IntKind.wrap .u64 (w64 (x0 + x1))) (2 ^ 1))).toNat)) a1).bind fun t0 => (bif t0 then (c1 a0 a1 (w64 ((w64 (Int.fdiv (IntKind.wrap .u64 (w64 (x0 + x1))) (2 ^ 1))) + 1)) x1) else (c1 a0 a1 x0 (w64 (Int.fdiv (IntKind.wrap .u64 (w64 (x0 + x1))) (2 ^ 1))))))) else (bif (decide (x0 < (a0.length : Int))) then (guardK (decide (0 ≤ x0) && decide (x0 < (a0.length : Int))) (bif (strEq (rd .str a0 x0.toNat) a1) then (some (x0, true)) else (guardK (decide (0 ≤ x0) && decide (x0 < (a0.length : Int))) ((c2 (rd .str a0 x0.toNat)).bind fun t1 => (bif t1 then ((c2 a1).bind fun t2 => (some (x0, t2))) else (some (x0, false))))))) else (some (x0, false))))
theorem F.slices_BinarySearch_stringstring.l11100.eq K n0 a0 a1 x0 x1 : F.slices_BinarySearch_stringstring.l11100 K (n0 + 1) a0 a1 x0 x1 = F.slices_BinarySearch_stringstring.l11100.B (F.cmp_Less_string K) (F.slices_BinarySearch_stringstring.l11100 K n0) (F.slices_isNaN_string K) a0 a1 x0 x1 := (F.slices_BinarySearch_stringstring.in_eq K [1, 1, 1, 0, 0] [n0 + 1] (F.slices_BinarySearch_stringstring.l11100.st a0 a1 x0 x1)).trans ((show ∀ H, F.slices_BinarySearch_stringstring.in K H [1, 1, 1, 0, 0] [n0 + 1] (F.slices_BinarySearch_stringstring.l11100.st a0 a1 x0 x1) = F.slices_BinarySearch_stringstring.l11100.B (F.cmp_Less_string K) (fun a0 a1 x0 x1 => H [1, 1, 1, 0, 0] [n0] (F.slices_BinarySearch_stringstring.l11100.st a0 a1 x0 x1)) (F.slices_isNaN_string K) a0 a1 x0 x1 from by intro H; kernel_rfl) (F.slices_BinarySearch_stringstring.at K))
noncomputable def F.slices_BinarySearch_stringstring.B (c0 : (List ByteArray) → (ByteArray) → (Int) → (Int) → Option (Int × Bool)) (a0 : List ByteArray) (a1 : ByteArray) : Option (Int × Bool) :=
    (c0 a0 a1 0 (a0.length : Int))
theorem F.slices_BinarySearch_stringstring.eq K a0 a1 : F.slices_BinarySearch_stringstring (K + 1) a0 a1 = F.slices_BinarySearch_stringstring.B (F.slices_BinarySearch_stringstring.l11100 K K) a0 a1 := (F.slices_BinarySearch_stringstring.in_main K a0 a1).trans ((show ∀ H, F.slices_BinarySearch_stringstring.in K H [] [] ⟨slots [.sc (.list .str a0 false), .sc (.val (.string a1))] 0, []⟩ = F.slices_BinarySearch_stringstring.B (fun a0 a1 x0 x1 => H [1, 1, 1, 0, 0] [K] (F.slices_BinarySearch_stringstring.l11100.st a0 a1 x0 x1)) a0 a1 from by intro H; kernel_rfl) (F.slices_BinarySearch_stringstring.at K))
noncomputable def V.slices_BinarySearch_stringstring.l11100 (a0 : List ByteArray) (a1 : ByteArray) (x0 : Int) (x1 : Int) := lim fun v => F.slices_BinarySearch_stringstring.l11100 (v 0) (v 1) a0 a1 x0 x1
noncomputable def V.slices_BinarySearch_stringstring (a0 : List ByteArray) (a1 : ByteArray) := lim fun v => F.slices_BinarySearch_stringstring (v 0) a0 a1
theorem V.slices_BinarySearch_stringstring.l11100.of a0 a1 x0 x1 {r} (h : F.slices_BinarySearch_stringstring.l11100.B V.cmp_Less_string V.slices_BinarySearch_stringstring.l11100 V.slices_isNaN_string a0 a1 x0 x1 = some r) : V.slices_BinarySearch_stringstring.l11100 a0 a1 x0 x1 = some r :=
  App.to (App.step 1 (fun v => F.slices_BinarySearch_stringstring.l11100.eq (v 0) (v 1) a0 a1 x0 x1) (by unfold F.slices_BinarySearch_stringstring.l11100.B; repeat' first | exact App.val | exact App.no | exact App.lim | apply App.cond | apply App.guard | apply App.meet | apply App.ite | refine App.bind ?_ fun _ => ?_)) h
theorem V.slices_BinarySearch_stringstring.of a0 a1 {r} (h : F.slices_BinarySearch_stringstring.B V.slices_BinarySearch_stringstring.l11100 a0 a1 = some r) : V.slices_BinarySearch_stringstring a0 a1 = some r :=
  App.to (App.step 0 (fun v => F.slices_BinarySearch_stringstring.eq (v 0) a0 a1) (by unfold F.slices_BinarySearch_stringstring.B; repeat' first | exact App.val | exact App.no | exact App.lim | exact (App.enter 1 App.lim) | apply App.cond | apply App.guard | apply App.meet | apply App.ite | refine App.bind ?_ fun _ => ?_)) h
noncomputable def F.name_Find (K : Nat) (a0 : List ByteArray) (a1 : ByteArray) : Option (Int × Bool) := evFn Tryz.prog sg K 49 [.sc (.list .str a0 false), .sc (.val (.string a1))] []
noncomputable def F.name_Find.B (c0 : (List ByteArray) → (ByteArray) → Option (Int × Bool)) (a0 : List ByteArray) (a1 : ByteArray) : Option (Int × Bool) :=
    ((c0 a0 a1).bind fun t0 => (some (t0.1, t0.2)))
theorem F.name_Find.eq K a0 a1 : F.name_Find (K + 1) a0 a1 = F.name_Find.B (F.slices_BinarySearch_stringstring K) a0 a1 := by kernel_rfl
noncomputable def V.name_Find (a0 : List ByteArray) (a1 : ByteArray) := lim fun v => F.name_Find (v 0) a0 a1
theorem V.name_Find.of a0 a1 {r} (h : F.name_Find.B V.slices_BinarySearch_stringstring a0 a1 = some r) : V.name_Find a0 a1 = some r :=
  App.to (App.step 0 (fun v => F.name_Find.eq (v 0) a0 a1) (by unfold F.name_Find.B; repeat' first | exact App.val | exact App.no | exact App.lim | apply App.cond | apply App.guard | apply App.meet | apply App.ite | refine App.bind ?_ fun _ => ?_)) h
noncomputable def F.graph_change_turns (K : Nat) (a0 : TGraph) (a1 : TOp) : Option (Int × TGraph) := evFn Tryz.prog sg K 62 [.sc (.ref 0 0), .agg [.val (.int .i64 a1.1), .val (.string a1.2.1), .val (.string a1.2.2.1), .val (.string a1.2.2.2.1), .val (.string a1.2.2.2.2.1), .val (.int .i64 a1.2.2.2.2.2.1), .val (.int .i64 a1.2.2.2.2.2.2.1), .val (.string a1.2.2.2.2.2.2.2)]] [.cells 79 [.own 1 none, .own 2 none], .elems sNode a0.1, .elems sEdge a0.2]
noncomputable def V.graph_change_turns (a0 : TGraph) (a1 : TOp) := lim fun v => F.graph_change_turns (v 0) a0 a1
noncomputable def F.graph_change_do (K : Nat) (a0 : TGraph) (a1 : TOp) : Option (Int × TGraph) := evFn Tryz.prog sg K 38 [.sc (.ref 0 0), .agg [.val (.int .i64 a1.1), .val (.string a1.2.1), .val (.string a1.2.2.1), .val (.string a1.2.2.2.1), .val (.string a1.2.2.2.2.1), .val (.int .i64 a1.2.2.2.2.2.1), .val (.int .i64 a1.2.2.2.2.2.2.1), .val (.string a1.2.2.2.2.2.2.2)]] [.cells 79 [.own 1 none, .own 2 none], .elems sNode a0.1, .elems sEdge a0.2]
noncomputable def F.graph_change_do.B (c0 : (TOp) → Option (Int)) (c1 : (TGraph) → (TOp) → Option (Int × TGraph)) (c2 : (TGraph) → (TOp) → Option (Int × TGraph)) (c3 : (TGraph) → (TOp) → Option (Int × TGraph)) (a0 : TGraph) (a1 : TOp) : Option (Int × TGraph) :=
    ((c0 (a1.1, a1.2.1, a1.2.2.1, a1.2.2.2.1, a1.2.2.2.2.1, a1.2.2.2.2.2.1, a1.2.2.2.2.2.2.1, a1.2.2.2.2.2.2.2)).bind fun t0 => (bif (t0 != 0) then (some (t0, a0.1, a0.2)) else (bif (a1.1 == 1) then (bif (a1.1 == 1) then ((c1 (a0.1, a0.2) (a1.1, a1.2.1, a1.2.2.1, a1.2.2.2.1, a1.2.2.2.2.1, a1.2.2.2.2.2.1, a1.2.2.2.2.2.2.1, a1.2.2.2.2.2.2.2)).bind fun t1 => (some (t1.1, t1.2.1, t1.2.2))) else (bif (a1.1 == 2) then (bif (a1.1 == 2) then ((c2 (a0.1, a0.2) (a1.1, a1.2.1, a1.2.2.1, a1.2.2.2.1, a1.2.2.2.2.1, a1.2.2.2.2.2.1, a1.2.2.2.2.2.2.1, a1.2.2.2.2.2.2.2)).bind fun t2 => (some (t2.1, t2.2.1, t2.2.2))) else ((c3 (a0.1, a0.2) (a1.1, a1.2.1, a1.2.2.1, a1.2.2.2.1, a1.2.2.2.2.1, a1.2.2.2.2.2.1, a1.2.2.2.2.2.2.1, a1.2.2.2.2.2.2.2)).bind fun t3 => (some (t3.1, t3.2.1, t3.2.2)))) else (bif (a1.1 == 4) then ((c2 (a0.1, a0.2) (a1.1, a1.2.1, a1.2.2.1, a1.2.2.2.1, a1.2.2.2.2.1, a1.2.2.2.2.2.1, a1.2.2.2.2.2.2.1, a1.2.2.2.2.2.2.2)).bind fun t4 => (some (t4.1, t4.2.1, t4.2.2))) else ((c3 (a0.1, a0.2) (a1.1, a1.2.1, a1.2.2.1, a1.2.2.2.1, a1.2.2.2.2.1, a1.2.2.2.2.2.1, a1.2.2.2.2.2.2.1, a1.2.2.2.2.2.2.2)).bind fun t5 => (some (t5.1, t5.2.1, t5.2.2)))))) else (bif (a1.1 == 3) then ((c1 (a0.1, a0.2) (a1.1, a1.2.1, a1.2.2.1, a1.2.2.2.1, a1.2.2.2.2.1, a1.2.2.2.2.2.1, a1.2.2.2.2.2.2.1, a1.2.2.2.2.2.2.2)).bind fun t6 => (some (t6.1, t6.2.1, t6.2.2))) else (bif (a1.1 == 2) then (bif (a1.1 == 2) then ((c2 (a0.1, a0.2) (a1.1, a1.2.1, a1.2.2.1, a1.2.2.2.1, a1.2.2.2.2.1, a1.2.2.2.2.2.1, a1.2.2.2.2.2.2.1, a1.2.2.2.2.2.2.2)).bind fun t7 => (some (t7.1, t7.2.1, t7.2.2))) else ((c3 (a0.1, a0.2) (a1.1, a1.2.1, a1.2.2.1, a1.2.2.2.1, a1.2.2.2.2.1, a1.2.2.2.2.2.1, a1.2.2.2.2.2.2.1, a1.2.2.2.2.2.2.2)).bind fun t8 => (some (t8.1, t8.2.1, t8.2.2)))) else (bif (a1.1 == 4) then ((c2 (a0.1, a0.2) (a1.1, a1.2.1, a1.2.2.1, a1.2.2.2.1, a1.2.2.2.2.1, a1.2.2.2.2.2.1, a1.2.2.2.2.2.2.1, a1.2.2.2.2.2.2.2)).bind fun t9 => (some (t9.1, t9.2.1, t9.2.2))) else ((c3 (a0.1, a0.2) (a1.1, a1.2.1, a1.2.2.1, a1.2.2.2.1, a1.2.2.2.2.1, a1.2.2.2.2.2.1, a1.2.2.2.2.2.2.1, a1.2.2.2.2.2.2.2)).bind fun t10 => (some (t10.1, t10.2.1, t10.2.2)))))))))
theorem F.graph_change_do.eq K a0 a1 : F.graph_change_do (K + 1) a0 a1 = F.graph_change_do.B (F.graph_Right K) (F.graph_change_comes K) (F.graph_change_goes K) (F.graph_change_turns K) a0 a1 := by kernel_rfl
noncomputable def V.graph_change_do (a0 : TGraph) (a1 : TOp) := lim fun v => F.graph_change_do (v 0) a0 a1
theorem V.graph_change_do.of a0 a1 {r} (h : F.graph_change_do.B V.graph_Right V.graph_change_comes V.graph_change_goes V.graph_change_turns a0 a1 = some r) : V.graph_change_do a0 a1 = some r :=
  App.to (App.step 0 (fun v => F.graph_change_do.eq (v 0) a0 a1) (by unfold F.graph_change_do.B; repeat' first | exact App.val | exact App.no | exact App.lim | apply App.cond | apply App.guard | apply App.meet | apply App.ite | refine App.bind ?_ fun _ => ?_)) h
noncomputable def F.graph_Apply (K : Nat) (a0 : TGraph) (a1 : List TOp) : Option (TGraph × Int × Int) := evFn Tryz.prog sg K 10 [.agg [.list sNode a0.1 false, .list sEdge a0.2 false], .sc (.list sOp a1 false)] []
noncomputable def F.graph_Apply.at (K : Nat) (p ns : List Nat) (s : St) : Option (TGraph × Int × Int) := atFn Tryz.prog sg K 10 0 p ns s
noncomputable def F.graph_Apply.in (K : Nat) (H : List Nat → List Nat → St → Option (TGraph × Int × Int)) (p ns : List Nat) (s : St) : Option (TGraph × Int × Int) := inFn Tryz.prog sg K 10 0 [] H p ns s
theorem F.graph_Apply.in_eq K p ns s : F.graph_Apply.at K p ns s = F.graph_Apply.in K (F.graph_Apply.at K) p ns s := atFn_eq (P := Tryz.prog) (sg := sg) (K := K) (f := 10) (m := 0) [] p ns s
theorem F.graph_Apply.in_main K a0 a1 : F.graph_Apply (K + 1) a0 a1 = F.graph_Apply.in K (F.graph_Apply.at K) [] [] ⟨slots [.agg [.list sNode a0.1 false, .list sEdge a0.2 false], .sc (.list sOp a1 false)] 0, []⟩ := evFn_eq (P := Tryz.prog) (sg := sg) (K := K) (f := 10) (args := [.agg [.list sNode a0.1 false, .list sEdge a0.2 false], .sc (.list sOp a1 false)]) (σ := []) [] (by kernel_rfl)
def F.graph_Apply.l111010.st (a0 : TGraph) (a1 : List TOp) (x0 : Int) (x1 : List TNode) (x2 : List TEdge) : St := ⟨[(4, .one (.sc (.ref 0 0))), (8, .one (.sc (.ref 1 0))), (22, vL sOp a1), (23, vI (a1.length : Int)), (24, vI x0)], [.cells 25 [.val (.slice none 0 0), .val (.slice none 0 0)], .cells 79 [.own 2 none, .own 3 none], .elems sNode x1, .elems sEdge x2]⟩
noncomputable def F.graph_Apply.l111010 (K n0 : Nat) (a0 : TGraph) (a1 : List TOp) (x0 : Int) (x1 : List TNode) (x2 : List TEdge) := F.graph_Apply.at K [1, 1, 1, 0, 1, 0] [n0] (F.graph_Apply.l111010.st a0 a1 x0 x1 x2)
noncomputable def F.graph_Apply.l111010.B (c0 : (TGraph) → (TOp) → Option (Int × TGraph)) (c1 : (TGraph) → (List TOp) → (Int) → (List TNode) → (List TEdge) → Option (TGraph × Int × Int)) (a0 : TGraph) (a1 : List TOp) (x0 : Int) (x1 : List TNode) (x2 : List TEdge) : Option (TGraph × Int × Int) :=
    (bif (decide (x0 < (a1.length : Int))) then (guardK (decide (0 ≤ x0) && decide (x0 < (a1.length : Int))) ((c0 (x1, x2) ((rd sOp a1 x0.toNat).1, ((rd sOp a1 x0.toNat).2).1, (((rd sOp a1 x0.toNat).2).2).1, ((((rd sOp a1 x0.toNat).2).2).2).1, (((((rd sOp a1 x0.toNat).2).2).2).2).1, ((((((rd sOp a1 x0.toNat).2).2).2).2).2).1, (((((((rd sOp a1 x0.toNat).2).2).2).2).2).2).1, (((((((rd sOp a1 x0.toNat).2).2).2).2).2).2).2)).bind fun t2 => (bif (t2.1 != 0) then (some (([], []), x0, t2.1)) else (c1 a0 a1 (w64 (x0 + 1)) t2.2.1 t2.2.2)))) else (some ((x1, x2), 0, 0)))
theorem F.graph_Apply.l111010.eq K n0 a0 a1 x0 x1 x2 : F.graph_Apply.l111010 K (n0 + 1) a0 a1 x0 x1 x2 = F.graph_Apply.l111010.B (F.graph_change_do K) (F.graph_Apply.l111010 K n0) a0 a1 x0 x1 x2 := (F.graph_Apply.in_eq K [1, 1, 1, 0, 1, 0] [n0 + 1] (F.graph_Apply.l111010.st a0 a1 x0 x1 x2)).trans ((show ∀ H, F.graph_Apply.in K H [1, 1, 1, 0, 1, 0] [n0 + 1] (F.graph_Apply.l111010.st a0 a1 x0 x1 x2) = F.graph_Apply.l111010.B (F.graph_change_do K) (fun a0 a1 x0 x1 x2 => H [1, 1, 1, 0, 1, 0] [n0] (F.graph_Apply.l111010.st a0 a1 x0 x1 x2)) a0 a1 x0 x1 x2 from by intro H; kernel_rfl) (F.graph_Apply.at K))
noncomputable def F.graph_Apply.B (c0 : (TGraph) → Option (Int)) (c1 : (TGraph) → Option (TGraph)) (c2 : (TGraph) → (List TOp) → (Int) → (List TNode) → (List TEdge) → Option (TGraph × Int × Int)) (a0 : TGraph) (a1 : List TOp) : Option (TGraph × Int × Int) :=
    ((c0 (a0.1, a0.2)).bind fun t0 => (bif (t0 != 0) then (some (([], []), 0, t0)) else ((c1 (a0.1, a0.2)).bind fun t1 => (c2 a0 a1 0 t1.1 t1.2))))
theorem F.graph_Apply.eq K a0 a1 : F.graph_Apply (K + 1) a0 a1 = F.graph_Apply.B (F.graph_Check K) (F.graph_Copy K) (F.graph_Apply.l111010 K K) a0 a1 := (F.graph_Apply.in_main K a0 a1).trans ((show ∀ H, F.graph_Apply.in K H [] [] ⟨slots [.agg [.list sNode a0.1 false, .list sEdge a0.2 false], .sc (.list sOp a1 false)] 0, []⟩ = F.graph_Apply.B (F.graph_Check K) (F.graph_Copy K) (fun a0 a1 x0 x1 x2 => H [1, 1, 1, 0, 1, 0] [K] (F.graph_Apply.l111010.st a0 a1 x0 x1 x2)) a0 a1 from by intro H; kernel_rfl) (F.graph_Apply.at K))
noncomputable def V.graph_Apply.l111010 (a0 : TGraph) (a1 : List TOp) (x0 : Int) (x1 : List TNode) (x2 : List TEdge) := lim fun v => F.graph_Apply.l111010 (v 0) (v 1) a0 a1 x0 x1 x2
noncomputable def V.graph_Apply (a0 : TGraph) (a1 : List TOp) := lim fun v => F.graph_Apply (v 0) a0 a1
theorem V.graph_Apply.l111010.of a0 a1 x0 x1 x2 {r} (h : F.graph_Apply.l111010.B V.graph_change_do V.graph_Apply.l111010 a0 a1 x0 x1 x2 = some r) : V.graph_Apply.l111010 a0 a1 x0 x1 x2 = some r :=
  App.to (App.step 1 (fun v => F.graph_Apply.l111010.eq (v 0) (v 1) a0 a1 x0 x1 x2) (by unfold F.graph_Apply.l111010.B; repeat' first | exact App.val | exact App.no | exact App.lim | apply App.cond | apply App.guard | apply App.meet | apply App.ite | refine App.bind ?_ fun _ => ?_)) h
theorem V.graph_Apply.of a0 a1 {r} (h : F.graph_Apply.B V.graph_Check V.graph_Copy V.graph_Apply.l111010 a0 a1 = some r) : V.graph_Apply a0 a1 = some r :=
  App.to (App.step 0 (fun v => F.graph_Apply.eq (v 0) a0 a1) (by unfold F.graph_Apply.B; repeat' first | exact App.val | exact App.no | exact App.lim | exact (App.enter 1 App.lim) | apply App.cond | apply App.guard | apply App.meet | apply App.ite | refine App.bind ?_ fun _ => ?_)) h
noncomputable def F.pleachlaw26_awake (K : Nat) : Option (Bool) := evFn Tryz.prog sg K 8 [] []
noncomputable def F.pleachlaw26_awake.B (c0 : (TGraph) → (List TOp) → Option (TGraph × Int × Int)) : Option (Bool) :=
    ((c0 ([], []) ([(3, (⟨#[120]⟩ : ByteArray), (⟨#[97]⟩ : ByteArray), (⟨#[98]⟩ : ByteArray), (⟨#[]⟩ : ByteArray), 0, 0, (⟨#[]⟩ : ByteArray))])).bind fun t0 => (bif (t0.2.1 == 0) then (some (t0.2.2 == 9)) else (some false)))
theorem F.pleachlaw26_awake.eq K : F.pleachlaw26_awake (K + 1) = F.pleachlaw26_awake.B (F.graph_Apply K) := by kernel_rfl
noncomputable def V.pleachlaw26_awake := lim fun v => F.pleachlaw26_awake (v 0)
theorem V.pleachlaw26_awake.of {r} (h : F.pleachlaw26_awake.B V.graph_Apply = some r) : V.pleachlaw26_awake = some r :=
  App.to (App.step 0 (fun v => F.pleachlaw26_awake.eq (v 0)) (by unfold F.pleachlaw26_awake.B; repeat' first | exact App.val | exact App.no | exact App.lim | apply App.cond | apply App.guard | apply App.meet | apply App.ite | refine App.bind ?_ fun _ => ?_)) h
noncomputable def F.pleachref05_Is (K : Nat) (a0 : ByteArray) : Option (Bool) := evFn Tryz.prog sg K 70 [.sc (.val (.string a0))] []
noncomputable def F.pleachref05_Is.at (K : Nat) (p ns : List Nat) (s : St) : Option (Bool) := atFn Tryz.prog sg K 70 0 p ns s
noncomputable def F.pleachref05_Is.in (K : Nat) (H : List Nat → List Nat → St → Option (Bool)) (p ns : List Nat) (s : St) : Option (Bool) := inFn Tryz.prog sg K 70 0 [] H p ns s
theorem F.pleachref05_Is.in_eq K p ns s : F.pleachref05_Is.at K p ns s = F.pleachref05_Is.in K (F.pleachref05_Is.at K) p ns s := atFn_eq (P := Tryz.prog) (sg := sg) (K := K) (f := 70) (m := 0) [] p ns s
theorem F.pleachref05_Is.in_main K a0 : F.pleachref05_Is (K + 1) a0 = F.pleachref05_Is.in K (F.pleachref05_Is.at K) [] [] ⟨slots [.sc (.val (.string a0))] 0, []⟩ := evFn_eq (P := Tryz.prog) (sg := sg) (K := K) (f := 70) (args := [.sc (.val (.string a0))]) (σ := []) [] (by kernel_rfl)
def F.pleachref05_Is.l1010.st (a0 : ByteArray) (x0 : Int) : St := ⟨[(0, vS a0), (3, vI x0)], []⟩
noncomputable def F.pleachref05_Is.l1010 (K n0 : Nat) (a0 : ByteArray) (x0 : Int) := F.pleachref05_Is.at K [1, 0, 1, 0] [n0] (F.pleachref05_Is.l1010.st a0 x0)
noncomputable def F.pleachref05_Is.l1010.B (c0 : (ByteArray) → (Int) → Option (Bool)) (a0 : ByteArray) (x0 : Int) : Option (Bool) :=
    (bif (decide (x0 < (a0.size : Int))) then (guardK (decide (0 ≤ x0) && decide (x0 < (a0.size : Int))) (bif (decide ((byteAt a0 x0) ≥ 97)) then (guardK (decide (0 ≤ x0) && decide (x0 < (a0.size : Int))) (guardK (decide (0 ≤ x0) && decide (x0 < (a0.size : Int))) (bif (decide ((byteAt a0 x0) ≥ 48)) then (guardK (decide (0 ≤ x0) && decide (x0 < (a0.size : Int))) (bif (!(decide ((byteAt a0 x0) ≤ 122))) then (bif (!(decide ((byteAt a0 x0) ≤ 57))) then (guardK (decide (0 ≤ x0) && decide (x0 < (a0.size : Int))) (bif ((byteAt a0 x0) != 45) then (some false) else (c0 a0 (w64 (x0 + 1))))) else (c0 a0 (w64 (x0 + 1)))) else (c0 a0 (w64 (x0 + 1))))) else (bif (!(decide ((byteAt a0 x0) ≤ 122))) then (guardK (decide (0 ≤ x0) && decide (x0 < (a0.size : Int))) (bif ((byteAt a0 x0) != 45) then (some false) else (c0 a0 (w64 (x0 + 1))))) else (c0 a0 (w64 (x0 + 1))))))) else (guardK (decide (0 ≤ x0) && decide (x0 < (a0.size : Int))) (bif (decide ((byteAt a0 x0) ≥ 48)) then (guardK (decide (0 ≤ x0) && decide (x0 < (a0.size : Int))) (bif (!(decide ((byteAt a0 x0) ≤ 57))) then (guardK (decide (0 ≤ x0) && decide (x0 < (a0.size : Int))) (bif ((byteAt a0 x0) != 45) then (some false) else (c0 a0 (w64 (x0 + 1))))) else (c0 a0 (w64 (x0 + 1))))) else (guardK (decide (0 ≤ x0) && decide (x0 < (a0.size : Int))) (bif ((byteAt a0 x0) != 45) then (some false) else (c0 a0 (w64 (x0 + 1))))))))) else (bif (decide ((a0.size : Int) ≥ 1)) then (some (decide ((a0.size : Int) ≤ 12))) else (some false)))
theorem F.pleachref05_Is.l1010.eq K n0 a0 x0 : F.pleachref05_Is.l1010 K (n0 + 1) a0 x0 = F.pleachref05_Is.l1010.B (F.pleachref05_Is.l1010 K n0) a0 x0 := (F.pleachref05_Is.in_eq K [1, 0, 1, 0] [n0 + 1] (F.pleachref05_Is.l1010.st a0 x0)).trans ((show ∀ H, F.pleachref05_Is.in K H [1, 0, 1, 0] [n0 + 1] (F.pleachref05_Is.l1010.st a0 x0) = F.pleachref05_Is.l1010.B (fun a0 x0 => H [1, 0, 1, 0] [n0] (F.pleachref05_Is.l1010.st a0 x0)) a0 x0 from by intro H; kernel_rfl) (F.pleachref05_Is.at K))
noncomputable def F.pleachref05_Is.B (c0 : (ByteArray) → (Int) → Option (Bool)) (a0 : ByteArray) : Option (Bool) :=
    (c0 a0 0)
theorem F.pleachref05_Is.eq K a0 : F.pleachref05_Is (K + 1) a0 = F.pleachref05_Is.B (F.pleachref05_Is.l1010 K K) a0 := (F.pleachref05_Is.in_main K a0).trans ((show ∀ H, F.pleachref05_Is.in K H [] [] ⟨slots [.sc (.val (.string a0))] 0, []⟩ = F.pleachref05_Is.B (fun a0 x0 => H [1, 0, 1, 0] [K] (F.pleachref05_Is.l1010.st a0 x0)) a0 from by intro H; kernel_rfl) (F.pleachref05_Is.at K))
noncomputable def V.pleachref05_Is.l1010 (a0 : ByteArray) (x0 : Int) := lim fun v => F.pleachref05_Is.l1010 (v 0) (v 1) a0 x0
noncomputable def V.pleachref05_Is (a0 : ByteArray) := lim fun v => F.pleachref05_Is (v 0) a0
theorem V.pleachref05_Is.l1010.of a0 x0 {r} (h : F.pleachref05_Is.l1010.B V.pleachref05_Is.l1010 a0 x0 = some r) : V.pleachref05_Is.l1010 a0 x0 = some r :=
  App.to (App.step 1 (fun v => F.pleachref05_Is.l1010.eq (v 0) (v 1) a0 x0) (by unfold F.pleachref05_Is.l1010.B; repeat' first | exact App.val | exact App.no | exact App.lim | apply App.cond | apply App.guard | apply App.meet | apply App.ite | refine App.bind ?_ fun _ => ?_)) h
theorem V.pleachref05_Is.of a0 {r} (h : F.pleachref05_Is.B V.pleachref05_Is.l1010 a0 = some r) : V.pleachref05_Is a0 = some r :=
  App.to (App.step 0 (fun v => F.pleachref05_Is.eq (v 0) a0) (by unfold F.pleachref05_Is.B; repeat' first | exact App.val | exact App.no | exact App.lim | exact (App.enter 1 App.lim) | apply App.cond | apply App.guard | apply App.meet | apply App.ite | refine App.bind ?_ fun _ => ?_)) h
noncomputable def F.pleachref05_Row (K : Nat) (a0 : List ByteArray) : Option (Int) := evFn Tryz.prog sg K 105 [.sc (.list .str a0 false)] []
noncomputable def F.pleachref05_Row.at (K : Nat) (p ns : List Nat) (s : St) : Option (Int) := atFn Tryz.prog sg K 105 0 p ns s
noncomputable def F.pleachref05_Row.in (K : Nat) (H : List Nat → List Nat → St → Option (Int)) (p ns : List Nat) (s : St) : Option (Int) := inFn Tryz.prog sg K 105 0 [] H p ns s
theorem F.pleachref05_Row.in_eq K p ns s : F.pleachref05_Row.at K p ns s = F.pleachref05_Row.in K (F.pleachref05_Row.at K) p ns s := atFn_eq (P := Tryz.prog) (sg := sg) (K := K) (f := 105) (m := 0) [] p ns s
theorem F.pleachref05_Row.in_main K a0 : F.pleachref05_Row (K + 1) a0 = F.pleachref05_Row.in K (F.pleachref05_Row.at K) [] [] ⟨slots [.sc (.list .str a0 false)] 0, []⟩ := evFn_eq (P := Tryz.prog) (sg := sg) (K := K) (f := 105) (args := [.sc (.list .str a0 false)]) (σ := []) [] (by kernel_rfl)
def F.pleachref05_Row.l1010.st (a0 : List ByteArray) (x0 : Int) : St := ⟨[(0, vL .str a0), (3, vI x0)], []⟩
noncomputable def F.pleachref05_Row.l1010 (K n0 : Nat) (a0 : List ByteArray) (x0 : Int) := F.pleachref05_Row.at K [1, 0, 1, 0] [n0] (F.pleachref05_Row.l1010.st a0 x0)
noncomputable def F.pleachref05_Row.l1010.B (c0 : (ByteArray) → Option (Bool)) (c1 : (List ByteArray) → (Int) → Option (Int)) (a0 : List ByteArray) (x0 : Int) : Option (Int) :=
    (bif (decide (x0 < (a0.length : Int))) then (guardK (decide (0 ≤ x0) && decide (x0 < (a0.length : Int))) ((c0 (rd .str a0 x0.toNat)).bind fun t0 => (bif (!t0) then (some 2) else (bif (decide (x0 > 0)) then (guardK (decide (0 ≤ x0) && decide (x0 < (a0.length : Int))) (guardK (decide (0 ≤ (w64 (x0 - 1))) && decide ((w64 (x0 - 1)) < (a0.length : Int))) (bif (strLt (rd .str a0 x0.toNat) (rd .str a0 ((w64 (x0 - 1)).toNat)) || strEq (rd .str a0 x0.toNat) (rd .str a0 ((w64 (x0 - 1)).toNat))) then (some 4) else (c1 a0 (w64 (x0 + 1)))))) else (c1 a0 (w64 (x0 + 1))))))) else (some 0))
theorem F.pleachref05_Row.l1010.eq K n0 a0 x0 : F.pleachref05_Row.l1010 K (n0 + 1) a0 x0 = F.pleachref05_Row.l1010.B (F.pleachref05_Is K) (F.pleachref05_Row.l1010 K n0) a0 x0 := (F.pleachref05_Row.in_eq K [1, 0, 1, 0] [n0 + 1] (F.pleachref05_Row.l1010.st a0 x0)).trans ((show ∀ H, F.pleachref05_Row.in K H [1, 0, 1, 0] [n0 + 1] (F.pleachref05_Row.l1010.st a0 x0) = F.pleachref05_Row.l1010.B (F.pleachref05_Is K) (fun a0 x0 => H [1, 0, 1, 0] [n0] (F.pleachref05_Row.l1010.st a0 x0)) a0 x0 from by intro H; kernel_rfl) (F.pleachref05_Row.at K))
noncomputable def F.pleachref05_Row.B (c0 : (List ByteArray) → (Int) → Option (Int)) (a0 : List ByteArray) : Option (Int) :=
    (c0 a0 0)
theorem F.pleachref05_Row.eq K a0 : F.pleachref05_Row (K + 1) a0 = F.pleachref05_Row.B (F.pleachref05_Row.l1010 K K) a0 := (F.pleachref05_Row.in_main K a0).trans ((show ∀ H, F.pleachref05_Row.in K H [] [] ⟨slots [.sc (.list .str a0 false)] 0, []⟩ = F.pleachref05_Row.B (fun a0 x0 => H [1, 0, 1, 0] [K] (F.pleachref05_Row.l1010.st a0 x0)) a0 from by intro H; kernel_rfl) (F.pleachref05_Row.at K))
noncomputable def V.pleachref05_Row.l1010 (a0 : List ByteArray) (x0 : Int) := lim fun v => F.pleachref05_Row.l1010 (v 0) (v 1) a0 x0
noncomputable def V.pleachref05_Row (a0 : List ByteArray) := lim fun v => F.pleachref05_Row (v 0) a0
theorem V.pleachref05_Row.l1010.of a0 x0 {r} (h : F.pleachref05_Row.l1010.B V.pleachref05_Is V.pleachref05_Row.l1010 a0 x0 = some r) : V.pleachref05_Row.l1010 a0 x0 = some r :=
  App.to (App.step 1 (fun v => F.pleachref05_Row.l1010.eq (v 0) (v 1) a0 x0) (by unfold F.pleachref05_Row.l1010.B; repeat' first | exact App.val | exact App.no | exact App.lim | apply App.cond | apply App.guard | apply App.meet | apply App.ite | refine App.bind ?_ fun _ => ?_)) h
theorem V.pleachref05_Row.of a0 {r} (h : F.pleachref05_Row.B V.pleachref05_Row.l1010 a0 = some r) : V.pleachref05_Row a0 = some r :=
  App.to (App.step 0 (fun v => F.pleachref05_Row.eq (v 0) a0) (by unfold F.pleachref05_Row.B; repeat' first | exact App.val | exact App.no | exact App.lim | exact (App.enter 1 App.lim) | apply App.cond | apply App.guard | apply App.meet | apply App.ite | refine App.bind ?_ fun _ => ?_)) h
noncomputable def F.pleachref06_Is (K : Nat) (a0 : TValue) : Option (Bool) := evFn Tryz.prog sg K 98 [.agg [.val (.int .i64 a0.1), .val (.int .i64 a0.2.1), .val (.string a0.2.2)]] []
noncomputable def F.pleachref06_Is.B (a0 : TValue) : Option (Bool) :=
    (bif (a0.1 == 1) then (bif (decide (a0.2.1 ≥ 0)) then (bif (decide (a0.2.1 ≤ 1)) then (some (strEq a0.2.2 (⟨#[]⟩ : ByteArray))) else (some false)) else (some false)) else (bif (a0.1 == 2) then (some (strEq a0.2.2 (⟨#[]⟩ : ByteArray))) else (bif (a0.1 == 3) then (bif (a0.2.1 == 0) then (some (decide ((a0.2.2.size : Int) ≤ 64))) else (some false)) else (some false))))
theorem F.pleachref06_Is.eq K a0 : F.pleachref06_Is (K + 1) a0 = F.pleachref06_Is.B a0 := by kernel_rfl
noncomputable def V.pleachref06_Is (a0 : TValue) := lim fun v => F.pleachref06_Is (v 0) a0
theorem V.pleachref06_Is.of a0 {r} (h : F.pleachref06_Is.B a0 = some r) : V.pleachref06_Is a0 = some r :=
  App.to (App.step 0 (fun v => F.pleachref06_Is.eq (v 0) a0) (by unfold F.pleachref06_Is.B; repeat' first | exact App.val | exact App.no | exact App.lim | apply App.cond | apply App.guard | apply App.meet | apply App.ite | refine App.bind ?_ fun _ => ?_)) h
noncomputable def F.pleachref25_Props (K : Nat) (a0 : List TProp) : Option (Int) := evFn Tryz.prog sg K 106 [.sc (.list sProp a0 false)] []
noncomputable def F.pleachref25_Props.at (K : Nat) (p ns : List Nat) (s : St) : Option (Int) := atFn Tryz.prog sg K 106 0 p ns s
noncomputable def F.pleachref25_Props.in (K : Nat) (H : List Nat → List Nat → St → Option (Int)) (p ns : List Nat) (s : St) : Option (Int) := inFn Tryz.prog sg K 106 0 [] H p ns s
theorem F.pleachref25_Props.in_eq K p ns s : F.pleachref25_Props.at K p ns s = F.pleachref25_Props.in K (F.pleachref25_Props.at K) p ns s := atFn_eq (P := Tryz.prog) (sg := sg) (K := K) (f := 106) (m := 0) [] p ns s
theorem F.pleachref25_Props.in_main K a0 : F.pleachref25_Props (K + 1) a0 = F.pleachref25_Props.in K (F.pleachref25_Props.at K) [] [] ⟨slots [.sc (.list sProp a0 false)] 0, []⟩ := evFn_eq (P := Tryz.prog) (sg := sg) (K := K) (f := 106) (args := [.sc (.list sProp a0 false)]) (σ := []) [] (by kernel_rfl)
def F.pleachref25_Props.l11010.st (a0 : List TProp) (x0 : Int) : St := ⟨[(0, vL sProp a0), (3, vI x0)], []⟩
noncomputable def F.pleachref25_Props.l11010 (K n0 : Nat) (a0 : List TProp) (x0 : Int) := F.pleachref25_Props.at K [1, 1, 0, 1, 0] [n0] (F.pleachref25_Props.l11010.st a0 x0)
noncomputable def F.pleachref25_Props.l11010.B (c0 : (ByteArray) → Option (Bool)) (c1 : (TValue) → Option (Bool)) (c2 : (List TProp) → (Int) → Option (Int)) (a0 : List TProp) (x0 : Int) : Option (Int) :=
    (bif (decide (x0 < (a0.length : Int))) then (guardK (decide (0 ≤ x0) && decide (x0 < (a0.length : Int))) ((c0 ((rd sProp a0 x0.toNat).1)).bind fun t0 => (bif (!t0) then (some 2) else (guardK (decide (0 ≤ x0) && decide (x0 < (a0.length : Int))) ((c1 (((rd sProp a0 x0.toNat).2).1, (((rd sProp a0 x0.toNat).2).2).1, (((rd sProp a0 x0.toNat).2).2).2)).bind fun t1 => (bif (!t1) then (some 2) else (bif (decide (x0 > 0)) then (guardK (decide (0 ≤ x0) && decide (x0 < (a0.length : Int))) (guardK (decide (0 ≤ (w64 (x0 - 1))) && decide ((w64 (x0 - 1)) < (a0.length : Int))) (bif (strLt ((rd sProp a0 x0.toNat).1) ((rd sProp a0 ((w64 (x0 - 1)).toNat)).1) || strEq ((rd sProp a0 x0.toNat).1) ((rd sProp a0 ((w64 (x0 - 1)).toNat)).1)) then (some 4) else (c2 a0 (w64 (x0 + 1)))))) else (c2 a0 (w64 (x0 + 1)))))))))) else (some 0))
theorem F.pleachref25_Props.l11010.eq K n0 a0 x0 : F.pleachref25_Props.l11010 K (n0 + 1) a0 x0 = F.pleachref25_Props.l11010.B (F.pleachref05_Is K) (F.pleachref06_Is K) (F.pleachref25_Props.l11010 K n0) a0 x0 := (F.pleachref25_Props.in_eq K [1, 1, 0, 1, 0] [n0 + 1] (F.pleachref25_Props.l11010.st a0 x0)).trans ((show ∀ H, F.pleachref25_Props.in K H [1, 1, 0, 1, 0] [n0 + 1] (F.pleachref25_Props.l11010.st a0 x0) = F.pleachref25_Props.l11010.B (F.pleachref05_Is K) (F.pleachref06_Is K) (fun a0 x0 => H [1, 1, 0, 1, 0] [n0] (F.pleachref25_Props.l11010.st a0 x0)) a0 x0 from by intro H; kernel_rfl) (F.pleachref25_Props.at K))
noncomputable def F.pleachref25_Props.B (c0 : (List TProp) → (Int) → Option (Int)) (a0 : List TProp) : Option (Int) :=
    (bif (decide ((a0.length : Int) > 8)) then (some 5) else (c0 a0 0))
theorem F.pleachref25_Props.eq K a0 : F.pleachref25_Props (K + 1) a0 = F.pleachref25_Props.B (F.pleachref25_Props.l11010 K K) a0 := (F.pleachref25_Props.in_main K a0).trans ((show ∀ H, F.pleachref25_Props.in K H [] [] ⟨slots [.sc (.list sProp a0 false)] 0, []⟩ = F.pleachref25_Props.B (fun a0 x0 => H [1, 1, 0, 1, 0] [K] (F.pleachref25_Props.l11010.st a0 x0)) a0 from by intro H; kernel_rfl) (F.pleachref25_Props.at K))
noncomputable def V.pleachref25_Props.l11010 (a0 : List TProp) (x0 : Int) := lim fun v => F.pleachref25_Props.l11010 (v 0) (v 1) a0 x0
noncomputable def V.pleachref25_Props (a0 : List TProp) := lim fun v => F.pleachref25_Props (v 0) a0
theorem V.pleachref25_Props.l11010.of a0 x0 {r} (h : F.pleachref25_Props.l11010.B V.pleachref05_Is V.pleachref06_Is V.pleachref25_Props.l11010 a0 x0 = some r) : V.pleachref25_Props.l11010 a0 x0 = some r :=
  App.to (App.step 1 (fun v => F.pleachref25_Props.l11010.eq (v 0) (v 1) a0 x0) (by unfold F.pleachref25_Props.l11010.B; repeat' first | exact App.val | exact App.no | exact App.lim | apply App.cond | apply App.guard | apply App.meet | apply App.ite | refine App.bind ?_ fun _ => ?_)) h
theorem V.pleachref25_Props.of a0 {r} (h : F.pleachref25_Props.B V.pleachref25_Props.l11010 a0 = some r) : V.pleachref25_Props a0 = some r :=
  App.to (App.step 0 (fun v => F.pleachref25_Props.eq (v 0) a0) (by unfold F.pleachref25_Props.B; repeat' first | exact App.val | exact App.no | exact App.lim | exact (App.enter 1 App.lim) | apply App.cond | apply App.guard | apply App.meet | apply App.ite | refine App.bind ?_ fun _ => ?_)) h
noncomputable def F.pleachref25_rest (K : Nat) (a0 : List ByteArray) (a1 : List TProp) : Option (Int) := evFn Tryz.prog sg K 71 [.sc (.list .str a0 false), .sc (.list sProp a1 false)] []
noncomputable def F.pleachref25_rest.B (c0 : (List ByteArray) → Option (Int)) (c1 : (List TProp) → Option (Int)) (a0 : List ByteArray) (a1 : List TProp) : Option (Int) :=
    (bif (decide ((a0.length : Int) > 8)) then (some 5) else ((c0 a0).bind fun t0 => (bif (t0 != 0) then (some t0) else ((c1 a1).bind fun t1 => (some t1)))))
theorem F.pleachref25_rest.eq K a0 a1 : F.pleachref25_rest (K + 1) a0 a1 = F.pleachref25_rest.B (F.pleachref05_Row K) (F.pleachref25_Props K) a0 a1 := by kernel_rfl
noncomputable def V.pleachref25_rest (a0 : List ByteArray) (a1 : List TProp) := lim fun v => F.pleachref25_rest (v 0) a0 a1
theorem V.pleachref25_rest.of a0 a1 {r} (h : F.pleachref25_rest.B V.pleachref05_Row V.pleachref25_Props a0 a1 = some r) : V.pleachref25_rest a0 a1 = some r :=
  App.to (App.step 0 (fun v => F.pleachref25_rest.eq (v 0) a0 a1) (by unfold F.pleachref25_rest.B; repeat' first | exact App.val | exact App.no | exact App.lim | apply App.cond | apply App.guard | apply App.meet | apply App.ite | refine App.bind ?_ fun _ => ?_)) h
noncomputable def F.pleachref25_Node (K : Nat) (a0 : TNode) : Option (Int) := evFn Tryz.prog sg K 40 [.agg [.val (.string a0.1), .list .str a0.2.1 false, .list sProp a0.2.2 false]] []
noncomputable def F.pleachref25_Node.B (c0 : (ByteArray) → Option (Bool)) (c1 : (List ByteArray) → (List TProp) → Option (Int)) (a0 : TNode) : Option (Int) :=
    ((c0 a0.1).bind fun t0 => (bif (!t0) then (some 2) else ((c1 a0.2.1 a0.2.2).bind fun t1 => (some t1))))
theorem F.pleachref25_Node.eq K a0 : F.pleachref25_Node (K + 1) a0 = F.pleachref25_Node.B (F.pleachref05_Is K) (F.pleachref25_rest K) a0 := by kernel_rfl
noncomputable def V.pleachref25_Node (a0 : TNode) := lim fun v => F.pleachref25_Node (v 0) a0
theorem V.pleachref25_Node.of a0 {r} (h : F.pleachref25_Node.B V.pleachref05_Is V.pleachref25_rest a0 = some r) : V.pleachref25_Node a0 = some r :=
  App.to (App.step 0 (fun v => F.pleachref25_Node.eq (v 0) a0) (by unfold F.pleachref25_Node.B; repeat' first | exact App.val | exact App.no | exact App.lim | apply App.cond | apply App.guard | apply App.meet | apply App.ite | refine App.bind ?_ fun _ => ?_)) h
noncomputable def F.pleachref25_Edge (K : Nat) (a0 : TEdge) : Option (Int) := evFn Tryz.prog sg K 41 [.agg [.val (.string a0.1), .val (.string a0.2.1), .val (.string a0.2.2.1), .list .str a0.2.2.2.1 false, .list sProp a0.2.2.2.2 false]] []
noncomputable def F.pleachref25_Edge.B (c0 : (ByteArray) → Option (Bool)) (c1 : (List ByteArray) → (List TProp) → Option (Int)) (a0 : TEdge) : Option (Int) :=
    ((c0 a0.1).bind fun t0 => (bif (!t0) then (some 2) else ((c0 a0.2.1).bind fun t1 => (bif (!t1) then (some 2) else ((c0 a0.2.2.1).bind fun t2 => (bif (!t2) then (some 2) else ((c1 a0.2.2.2.1 a0.2.2.2.2).bind fun t3 => (some t3))))))))
theorem F.pleachref25_Edge.eq K a0 : F.pleachref25_Edge (K + 1) a0 = F.pleachref25_Edge.B (F.pleachref05_Is K) (F.pleachref25_rest K) a0 := by kernel_rfl
noncomputable def V.pleachref25_Edge (a0 : TEdge) := lim fun v => F.pleachref25_Edge (v 0) a0
theorem V.pleachref25_Edge.of a0 {r} (h : F.pleachref25_Edge.B V.pleachref05_Is V.pleachref25_rest a0 = some r) : V.pleachref25_Edge a0 = some r :=
  App.to (App.step 0 (fun v => F.pleachref25_Edge.eq (v 0) a0) (by unfold F.pleachref25_Edge.B; repeat' first | exact App.val | exact App.no | exact App.lim | apply App.cond | apply App.guard | apply App.meet | apply App.ite | refine App.bind ?_ fun _ => ?_)) h
noncomputable def F.pleachref26_NodeAt (K : Nat) (a0 : TGraph) (a1 : ByteArray) : Option (Int) := evFn Tryz.prog sg K 16 [.agg [.list sNode a0.1 false, .list sEdge a0.2 false], .sc (.val (.string a1))] []
noncomputable def F.pleachref26_NodeAt.at (K : Nat) (p ns : List Nat) (s : St) : Option (Int) := atFn Tryz.prog sg K 16 0 p ns s
noncomputable def F.pleachref26_NodeAt.in (K : Nat) (H : List Nat → List Nat → St → Option (Int)) (p ns : List Nat) (s : St) : Option (Int) := inFn Tryz.prog sg K 16 0 [] H p ns s
theorem F.pleachref26_NodeAt.in_eq K p ns s : F.pleachref26_NodeAt.at K p ns s = F.pleachref26_NodeAt.in K (F.pleachref26_NodeAt.at K) p ns s := atFn_eq (P := Tryz.prog) (sg := sg) (K := K) (f := 16) (m := 0) [] p ns s
theorem F.pleachref26_NodeAt.in_main K a0 a1 : F.pleachref26_NodeAt (K + 1) a0 a1 = F.pleachref26_NodeAt.in K (F.pleachref26_NodeAt.at K) [] [] ⟨slots [.agg [.list sNode a0.1 false, .list sEdge a0.2 false], .sc (.val (.string a1))] 0, []⟩ := evFn_eq (P := Tryz.prog) (sg := sg) (K := K) (f := 16) (args := [.agg [.list sNode a0.1 false, .list sEdge a0.2 false], .sc (.val (.string a1))]) (σ := []) [] (by kernel_rfl)
def F.pleachref26_NodeAt.l1010.st (a0 : TGraph) (a1 : ByteArray) (x0 : Int) : St := ⟨[(1, vS a1), (2, .one (.sc (.ref 0 0))), (5, vI x0)], [.cells 25 [.list sNode a0.1 false, .list sEdge a0.2 false]]⟩
noncomputable def F.pleachref26_NodeAt.l1010 (K n0 : Nat) (a0 : TGraph) (a1 : ByteArray) (x0 : Int) := F.pleachref26_NodeAt.at K [1, 0, 1, 0] [n0] (F.pleachref26_NodeAt.l1010.st a0 a1 x0)
noncomputable def F.pleachref26_NodeAt.l1010.B (c0 : (TGraph) → (ByteArray) → (Int) → Option (Int)) (a0 : TGraph) (a1 : ByteArray) (x0 : Int) : Option (Int) :=
    (bif (decide (x0 < (a0.1.length : Int))) then (guardK (decide (0 ≤ x0) && decide (x0 < (a0.1.length : Int))) (bif (strEq ((rd sNode a0.1 x0.toNat).1) a1) then (some x0) else (c0 a0 a1 (w64 (x0 + 1))))) else (some (-1)))
theorem F.pleachref26_NodeAt.l1010.eq K n0 a0 a1 x0 : F.pleachref26_NodeAt.l1010 K (n0 + 1) a0 a1 x0 = F.pleachref26_NodeAt.l1010.B (F.pleachref26_NodeAt.l1010 K n0) a0 a1 x0 := (F.pleachref26_NodeAt.in_eq K [1, 0, 1, 0] [n0 + 1] (F.pleachref26_NodeAt.l1010.st a0 a1 x0)).trans ((show ∀ H, F.pleachref26_NodeAt.in K H [1, 0, 1, 0] [n0 + 1] (F.pleachref26_NodeAt.l1010.st a0 a1 x0) = F.pleachref26_NodeAt.l1010.B (fun a0 a1 x0 => H [1, 0, 1, 0] [n0] (F.pleachref26_NodeAt.l1010.st a0 a1 x0)) a0 a1 x0 from by intro H; kernel_rfl) (F.pleachref26_NodeAt.at K))
noncomputable def F.pleachref26_NodeAt.B (c0 : (TGraph) → (ByteArray) → (Int) → Option (Int)) (a0 : TGraph) (a1 : ByteArray) : Option (Int) :=
    (c0 a0 a1 0)
theorem F.pleachref26_NodeAt.eq K a0 a1 : F.pleachref26_NodeAt (K + 1) a0 a1 = F.pleachref26_NodeAt.B (F.pleachref26_NodeAt.l1010 K K) a0 a1 := (F.pleachref26_NodeAt.in_main K a0 a1).trans ((show ∀ H, F.pleachref26_NodeAt.in K H [] [] ⟨slots [.agg [.list sNode a0.1 false, .list sEdge a0.2 false], .sc (.val (.string a1))] 0, []⟩ = F.pleachref26_NodeAt.B (fun a0 a1 x0 => H [1, 0, 1, 0] [K] (F.pleachref26_NodeAt.l1010.st a0 a1 x0)) a0 a1 from by intro H; kernel_rfl) (F.pleachref26_NodeAt.at K))
noncomputable def V.pleachref26_NodeAt.l1010 (a0 : TGraph) (a1 : ByteArray) (x0 : Int) := lim fun v => F.pleachref26_NodeAt.l1010 (v 0) (v 1) a0 a1 x0
noncomputable def V.pleachref26_NodeAt (a0 : TGraph) (a1 : ByteArray) := lim fun v => F.pleachref26_NodeAt (v 0) a0 a1
theorem V.pleachref26_NodeAt.l1010.of a0 a1 x0 {r} (h : F.pleachref26_NodeAt.l1010.B V.pleachref26_NodeAt.l1010 a0 a1 x0 = some r) : V.pleachref26_NodeAt.l1010 a0 a1 x0 = some r :=
  App.to (App.step 1 (fun v => F.pleachref26_NodeAt.l1010.eq (v 0) (v 1) a0 a1 x0) (by unfold F.pleachref26_NodeAt.l1010.B; repeat' first | exact App.val | exact App.no | exact App.lim | apply App.cond | apply App.guard | apply App.meet | apply App.ite | refine App.bind ?_ fun _ => ?_)) h
theorem V.pleachref26_NodeAt.of a0 a1 {r} (h : F.pleachref26_NodeAt.B V.pleachref26_NodeAt.l1010 a0 a1 = some r) : V.pleachref26_NodeAt a0 a1 = some r :=
  App.to (App.step 0 (fun v => F.pleachref26_NodeAt.eq (v 0) a0 a1) (by unfold F.pleachref26_NodeAt.B; repeat' first | exact App.val | exact App.no | exact App.lim | exact (App.enter 1 App.lim) | apply App.cond | apply App.guard | apply App.meet | apply App.ite | refine App.bind ?_ fun _ => ?_)) h
noncomputable def F.pleachref26_Wrong (K : Nat) (a0 : TGraph) : Option (Int) := evFn Tryz.prog sg K 13 [.agg [.list sNode a0.1 false, .list sEdge a0.2 false]] []
noncomputable def F.pleachref26_Wrong.at (K : Nat) (p ns : List Nat) (s : St) : Option (Int) := atFn Tryz.prog sg K 13 0 p ns s
noncomputable def F.pleachref26_Wrong.in (K : Nat) (H : List Nat → List Nat → St → Option (Int)) (p ns : List Nat) (s : St) : Option (Int) := inFn Tryz.prog sg K 13 0 [] H p ns s
theorem F.pleachref26_Wrong.in_eq K p ns s : F.pleachref26_Wrong.at K p ns s = F.pleachref26_Wrong.in K (F.pleachref26_Wrong.at K) p ns s := atFn_eq (P := Tryz.prog) (sg := sg) (K := K) (f := 13) (m := 0) [] p ns s
theorem F.pleachref26_Wrong.in_main K a0 : F.pleachref26_Wrong (K + 1) a0 = F.pleachref26_Wrong.in K (F.pleachref26_Wrong.at K) [] [] ⟨slots [.agg [.list sNode a0.1 false, .list sEdge a0.2 false]] 0, []⟩ := evFn_eq (P := Tryz.prog) (sg := sg) (K := K) (f := 13) (args := [.agg [.list sNode a0.1 false, .list sEdge a0.2 false]]) (σ := []) [] (by kernel_rfl)
def F.pleachref26_Wrong.l11010.st (a0 : TGraph) (x0 : Int) : St := ⟨[(1, .one (.sc (.ref 0 0))), (3, vI x0)], [.cells 25 [.list sNode a0.1 false, .list sEdge a0.2 false]]⟩
noncomputable def F.pleachref26_Wrong.l11010 (K n0 : Nat) (a0 : TGraph) (x0 : Int) := F.pleachref26_Wrong.at K [1, 1, 0, 1, 0] [n0] (F.pleachref26_Wrong.l11010.st a0 x0)
def F.pleachref26_Wrong.l111010.st (a0 : TGraph) (x0 : Int) : St := ⟨[(1, .one (.sc (.ref 0 0))), (5, vI x0)], [.cells 25 [.list sNode a0.1 false, .list sEdge a0.2 false]]⟩
noncomputable def F.pleachref26_Wrong.l111010 (K n0 : Nat) (a0 : TGraph) (x0 : Int) := F.pleachref26_Wrong.at K [1, 1, 1, 0, 1, 0] [n0] (F.pleachref26_Wrong.l111010.st a0 x0)
noncomputable def F.pleachref26_Wrong.l11010.B (c0 : (TNode) → Option (Int)) (c1 : (TGraph) → (Int) → Option (Int)) (c2 : (TGraph) → (Int) → Option (Int)) (a0 : TGraph) (x0 : Int) : Option (Int) :=
    (bif (decide (x0 < (a0.1.length : Int))) then (guardK (decide (0 ≤ x0) && decide (x0 < (a0.1.length : Int))) ((c0 ((rd sNode a0.1 x0.toNat).1, ((rd sNode a0.1 x0.toNat).2).1, ((rd sNode a0.1 x0.toNat).2).2)).bind fun t0 => (bif (t0 != 0) then (some t0) else (bif (decide (x0 > 0)) then (guardK (decide (0 ≤ x0) && decide (x0 < (a0.1.length : Int))) (guardK (decide (0 ≤ (w64 (x0 - 1))) && decide ((w64 (x0 - 1)) < (a0.1.length : Int))) (bif (strLt ((rd sNode a0.1 x0.toNat).1) ((rd sNode a0.1 ((w64 (x0 - 1)).toNat)).1) || strEq ((rd sNode a0.1 x0.toNat).1) ((rd sNode a0.1 ((w64 (x0 - 1)).toNat)).1)) then (some 4) else (c1 a0 (w64 (x0 + 1)))))) else (c1 a0 (w64 (x0 + 1))))))) else (c2 a0 0))
theorem F.pleachref26_Wrong.l11010.eq K n0 a0 x0 : F.pleachref26_Wrong.l11010 K (n0 + 1) a0 x0 = F.pleachref26_Wrong.l11010.B (F.pleachref25_Node K) (F.pleachref26_Wrong.l11010 K n0) (F.pleachref26_Wrong.l111010 K K) a0 x0 := (F.pleachref26_Wrong.in_eq K [1, 1, 0, 1, 0] [n0 + 1] (F.pleachref26_Wrong.l11010.st a0 x0)).trans ((show ∀ H, F.pleachref26_Wrong.in K H [1, 1, 0, 1, 0] [n0 + 1] (F.pleachref26_Wrong.l11010.st a0 x0) = F.pleachref26_Wrong.l11010.B (F.pleachref25_Node K) (fun a0 x0 => H [1, 1, 0, 1, 0] [n0] (F.pleachref26_Wrong.l11010.st a0 x0)) (fun a0 x0 => H [1, 1, 1, 0, 1, 0] [K] (F.pleachref26_Wrong.l111010.st a0 x0)) a0 x0 from by intro H; kernel_rfl) (F.pleachref26_Wrong.at K))
noncomputable def F.pleachref26_Wrong.l111010.B (c0 : (TEdge) → Option (Int)) (c1 : (TGraph) → (ByteArray) → Option (Int)) (c2 : (TGraph) → (Int) → Option (Int)) (a0 : TGraph) (x0 : Int) : Option (Int) :=
    (bif (decide (x0 < (a0.2.length : Int))) then (guardK (decide (0 ≤ x0) && decide (x0 < (a0.2.length : Int))) ((c0 ((rd sEdge a0.2 x0.toNat).1, ((rd sEdge a0.2 x0.toNat).2).1, (((rd sEdge a0.2 x0.toNat).2).2).1, ((((rd sEdge a0.2 x0.toNat).2).2).2).1, ((((rd sEdge a0.2 x0.toNat).2).2).2).2)).bind fun t1 => (bif (t1 != 0) then (some t1) else (bif (decide (x0 > 0)) then (guardK (decide (0 ≤ (w64 (x0 - 1))) && decide ((w64 (x0 - 1)) < (a0.2.length : Int))) (bif (strLt ((rd sEdge a0.2 x0.toNat).1) ((rd sEdge a0.2 ((w64 (x0 - 1)).toNat)).1) || strEq ((rd sEdge a0.2 x0.toNat).1) ((rd sEdge a0.2 ((w64 (x0 - 1)).toNat)).1)) then (some 4) else ((c1 (a0.1, a0.2) (((rd sEdge a0.2 x0.toNat).2).1)).bind fun t2 => (bif (decide (t2 < 0)) then (some 9) else ((c1 (a0.1, a0.2) ((((rd sEdge a0.2 x0.toNat).2).2).1)).bind fun t3 => (bif (decide (t3 < 0)) then (some 9) else (c2 a0 (w64 (x0 + 1))))))))) else ((c1 (a0.1, a0.2) (((rd sEdge a0.2 x0.toNat).2).1)).bind fun t4 => (bif (decide (t4 < 0)) then (some 9) else ((c1 (a0.1, a0.2) ((((rd sEdge a0.2 x0.toNat).2).2).1)).bind fun t5 => (bif (decide (t5 < 0)) then (some 9) else (c2 a0 (w64 (x0 + 1))))))))))) else (some 0))
theorem F.pleachref26_Wrong.l111010.eq K n0 a0 x0 : F.pleachref26_Wrong.l111010 K (n0 + 1) a0 x0 = F.pleachref26_Wrong.l111010.B (F.pleachref25_Edge K) (F.pleachref26_NodeAt K) (F.pleachref26_Wrong.l111010 K n0) a0 x0 := (F.pleachref26_Wrong.in_eq K [1, 1, 1, 0, 1, 0] [n0 + 1] (F.pleachref26_Wrong.l111010.st a0 x0)).trans ((show ∀ H, F.pleachref26_Wrong.in K H [1, 1, 1, 0, 1, 0] [n0 + 1] (F.pleachref26_Wrong.l111010.st a0 x0) = F.pleachref26_Wrong.l111010.B (F.pleachref25_Edge K) (F.pleachref26_NodeAt K) (fun a0 x0 => H [1, 1, 1, 0, 1, 0] [n0] (F.pleachref26_Wrong.l111010.st a0 x0)) a0 x0 from by intro H; kernel_rfl) (F.pleachref26_Wrong.at K))
noncomputable def F.pleachref26_Wrong.B (c0 : (TGraph) → (Int) → Option (Int)) (a0 : TGraph) : Option (Int) :=
    (bif (decide ((a0.1.length : Int) > 500)) then (some 5) else (bif (decide ((a0.2.length : Int) > 1000)) then (some 5) else (c0 a0 0)))
theorem F.pleachref26_Wrong.eq K a0 : F.pleachref26_Wrong (K + 1) a0 = F.pleachref26_Wrong.B (F.pleachref26_Wrong.l11010 K K) a0 := (F.pleachref26_Wrong.in_main K a0).trans ((show ∀ H, F.pleachref26_Wrong.in K H [] [] ⟨slots [.agg [.list sNode a0.1 false, .list sEdge a0.2 false]] 0, []⟩ = F.pleachref26_Wrong.B (fun a0 x0 => H [1, 1, 0, 1, 0] [K] (F.pleachref26_Wrong.l11010.st a0 x0)) a0 from by intro H; kernel_rfl) (F.pleachref26_Wrong.at K))
noncomputable def V.pleachref26_Wrong.l11010 (a0 : TGraph) (x0 : Int) := lim fun v => F.pleachref26_Wrong.l11010 (v 0) (v 1) a0 x0
noncomputable def V.pleachref26_Wrong.l111010 (a0 : TGraph) (x0 : Int) := lim fun v => F.pleachref26_Wrong.l111010 (v 0) (v 1) a0 x0
noncomputable def V.pleachref26_Wrong (a0 : TGraph) := lim fun v => F.pleachref26_Wrong (v 0) a0
theorem V.pleachref26_Wrong.l11010.of a0 x0 {r} (h : F.pleachref26_Wrong.l11010.B V.pleachref25_Node V.pleachref26_Wrong.l11010 V.pleachref26_Wrong.l111010 a0 x0 = some r) : V.pleachref26_Wrong.l11010 a0 x0 = some r :=
  App.to (App.step 1 (fun v => F.pleachref26_Wrong.l11010.eq (v 0) (v 1) a0 x0) (by unfold F.pleachref26_Wrong.l11010.B; repeat' first | exact App.val | exact App.no | exact App.lim | exact (App.enter 1 App.lim) | apply App.cond | apply App.guard | apply App.meet | apply App.ite | refine App.bind ?_ fun _ => ?_)) h
theorem V.pleachref26_Wrong.l111010.of a0 x0 {r} (h : F.pleachref26_Wrong.l111010.B V.pleachref25_Edge V.pleachref26_NodeAt V.pleachref26_Wrong.l111010 a0 x0 = some r) : V.pleachref26_Wrong.l111010 a0 x0 = some r :=
  App.to (App.step 1 (fun v => F.pleachref26_Wrong.l111010.eq (v 0) (v 1) a0 x0) (by unfold F.pleachref26_Wrong.l111010.B; repeat' first | exact App.val | exact App.no | exact App.lim | apply App.cond | apply App.guard | apply App.meet | apply App.ite | refine App.bind ?_ fun _ => ?_)) h
theorem V.pleachref26_Wrong.of a0 {r} (h : F.pleachref26_Wrong.B V.pleachref26_Wrong.l11010 a0 = some r) : V.pleachref26_Wrong a0 = some r :=
  App.to (App.step 0 (fun v => F.pleachref26_Wrong.eq (v 0) a0) (by unfold F.pleachref26_Wrong.B; repeat' first | exact App.val | exact App.no | exact App.lim | exact (App.enter 1 App.lim) | apply App.cond | apply App.guard | apply App.meet | apply App.ite | refine App.bind ?_ fun _ => ?_)) h
noncomputable def F.graph_Node (K : Nat) (a0 : TGraph) (a1 : ByteArray) : Option (TNode × Bool) := evFn Tryz.prog sg K 14 [.agg [.list sNode a0.1 false, .list sEdge a0.2 false], .sc (.val (.string a1))] []
noncomputable def F.graph_Node.B (c0 : (TGraph) → (ByteArray) → Option (Int × Bool)) (c1 : (TGraph) → Option (TGraph)) (a0 : TGraph) (a1 : ByteArray) : Option (TNode × Bool) :=
    ((c0 (a0.1, a0.2) a1).bind fun t0 => (bif (!t0.2) then (some (((⟨#[]⟩ : ByteArray), [], []), false)) else (guardK (decide (0 ≤ t0.1) && decide (t0.1 ≤ (w64 (t0.1 + 1))) && decide ((w64 (t0.1 + 1)) ≤ (a0.1.length : Int))) ((c1 (((a0.1.take ((w64 (t0.1 + 1)).toNat)).drop t0.1.toNat), [])).bind fun t1 => (guardK (decide (0 < (t1.1.length : Int))) (some (((rd sNode t1.1 0).1, ((rd sNode t1.1 0).2).1, ((rd sNode t1.1 0).2).2), true)))))))
theorem F.graph_Node.eq K a0 a1 : F.graph_Node (K + 1) a0 a1 = F.graph_Node.B (F.graph_node K) (F.graph_Copy K) a0 a1 := by kernel_rfl
noncomputable def V.graph_Node (a0 : TGraph) (a1 : ByteArray) := lim fun v => F.graph_Node (v 0) a0 a1
theorem V.graph_Node.of a0 a1 {r} (h : F.graph_Node.B V.graph_node V.graph_Copy a0 a1 = some r) : V.graph_Node a0 a1 = some r :=
  App.to (App.step 0 (fun v => F.graph_Node.eq (v 0) a0 a1) (by unfold F.graph_Node.B; repeat' first | exact App.val | exact App.no | exact App.lim | apply App.cond | apply App.guard | apply App.meet | apply App.ite | refine App.bind ?_ fun _ => ?_)) h
noncomputable def F.graph_Edge (K : Nat) (a0 : TGraph) (a1 : ByteArray) : Option (TEdge × Bool) := evFn Tryz.prog sg K 15 [.agg [.list sNode a0.1 false, .list sEdge a0.2 false], .sc (.val (.string a1))] []
noncomputable def F.graph_Edge.B (c0 : (TGraph) → (ByteArray) → Option (Int × Bool)) (c1 : (TGraph) → Option (TGraph)) (a0 : TGraph) (a1 : ByteArray) : Option (TEdge × Bool) :=
    ((c0 (a0.1, a0.2) a1).bind fun t0 => (bif (!t0.2) then (some (((⟨#[]⟩ : ByteArray), (⟨#[]⟩ : ByteArray), (⟨#[]⟩ : ByteArray), [], []), false)) else (guardK (decide (0 ≤ t0.1) && decide (t0.1 ≤ (w64 (t0.1 + 1))) && decide ((w64 (t0.1 + 1)) ≤ (a0.2.length : Int))) ((c1 ([], ((a0.2.take ((w64 (t0.1 + 1)).toNat)).drop t0.1.toNat))).bind fun t1 => (guardK (decide (0 < (t1.2.length : Int))) (some (((rd sEdge t1.2 0).1, ((rd sEdge t1.2 0).2).1, (((rd sEdge t1.2 0).2).2).1, ((((rd sEdge t1.2 0).2).2).2).1, ((((rd sEdge t1.2 0).2).2).2).2), true)))))))
theorem F.graph_Edge.eq K a0 a1 : F.graph_Edge (K + 1) a0 a1 = F.graph_Edge.B (F.graph_edge K) (F.graph_Copy K) a0 a1 := by kernel_rfl
noncomputable def V.graph_Edge (a0 : TGraph) (a1 : ByteArray) := lim fun v => F.graph_Edge (v 0) a0 a1
theorem V.graph_Edge.of a0 a1 {r} (h : F.graph_Edge.B V.graph_edge V.graph_Copy a0 a1 = some r) : V.graph_Edge a0 a1 = some r :=
  App.to (App.step 0 (fun v => F.graph_Edge.eq (v 0) a0 a1) (by unfold F.graph_Edge.B; repeat' first | exact App.val | exact App.no | exact App.lim | apply App.cond | apply App.guard | apply App.meet | apply App.ite | refine App.bind ?_ fun _ => ?_)) h
noncomputable def F.pleachref26_EdgeAt (K : Nat) (a0 : TGraph) (a1 : ByteArray) : Option (Int) := evFn Tryz.prog sg K 17 [.agg [.list sNode a0.1 false, .list sEdge a0.2 false], .sc (.val (.string a1))] []
noncomputable def F.pleachref26_EdgeAt.at (K : Nat) (p ns : List Nat) (s : St) : Option (Int) := atFn Tryz.prog sg K 17 0 p ns s
noncomputable def F.pleachref26_EdgeAt.in (K : Nat) (H : List Nat → List Nat → St → Option (Int)) (p ns : List Nat) (s : St) : Option (Int) := inFn Tryz.prog sg K 17 0 [] H p ns s
theorem F.pleachref26_EdgeAt.in_eq K p ns s : F.pleachref26_EdgeAt.at K p ns s = F.pleachref26_EdgeAt.in K (F.pleachref26_EdgeAt.at K) p ns s := atFn_eq (P := Tryz.prog) (sg := sg) (K := K) (f := 17) (m := 0) [] p ns s
theorem F.pleachref26_EdgeAt.in_main K a0 a1 : F.pleachref26_EdgeAt (K + 1) a0 a1 = F.pleachref26_EdgeAt.in K (F.pleachref26_EdgeAt.at K) [] [] ⟨slots [.agg [.list sNode a0.1 false, .list sEdge a0.2 false], .sc (.val (.string a1))] 0, []⟩ := evFn_eq (P := Tryz.prog) (sg := sg) (K := K) (f := 17) (args := [.agg [.list sNode a0.1 false, .list sEdge a0.2 false], .sc (.val (.string a1))]) (σ := []) [] (by kernel_rfl)
def F.pleachref26_EdgeAt.l1010.st (a0 : TGraph) (a1 : ByteArray) (x0 : Int) : St := ⟨[(1, vS a1), (2, .one (.sc (.ref 0 0))), (5, vI x0)], [.cells 25 [.list sNode a0.1 false, .list sEdge a0.2 false]]⟩
noncomputable def F.pleachref26_EdgeAt.l1010 (K n0 : Nat) (a0 : TGraph) (a1 : ByteArray) (x0 : Int) := F.pleachref26_EdgeAt.at K [1, 0, 1, 0] [n0] (F.pleachref26_EdgeAt.l1010.st a0 a1 x0)
noncomputable def F.pleachref26_EdgeAt.l1010.B (c0 : (TGraph) → (ByteArray) → (Int) → Option (Int)) (a0 : TGraph) (a1 : ByteArray) (x0 : Int) : Option (Int) :=
    (bif (decide (x0 < (a0.2.length : Int))) then (guardK (decide (0 ≤ x0) && decide (x0 < (a0.2.length : Int))) (bif (strEq ((rd sEdge a0.2 x0.toNat).1) a1) then (some x0) else (c0 a0 a1 (w64 (x0 + 1))))) else (some (-1)))
theorem F.pleachref26_EdgeAt.l1010.eq K n0 a0 a1 x0 : F.pleachref26_EdgeAt.l1010 K (n0 + 1) a0 a1 x0 = F.pleachref26_EdgeAt.l1010.B (F.pleachref26_EdgeAt.l1010 K n0) a0 a1 x0 := (F.pleachref26_EdgeAt.in_eq K [1, 0, 1, 0] [n0 + 1] (F.pleachref26_EdgeAt.l1010.st a0 a1 x0)).trans ((show ∀ H, F.pleachref26_EdgeAt.in K H [1, 0, 1, 0] [n0 + 1] (F.pleachref26_EdgeAt.l1010.st a0 a1 x0) = F.pleachref26_EdgeAt.l1010.B (fun a0 a1 x0 => H [1, 0, 1, 0] [n0] (F.pleachref26_EdgeAt.l1010.st a0 a1 x0)) a0 a1 x0 from by intro H; kernel_rfl) (F.pleachref26_EdgeAt.at K))
noncomputable def F.pleachref26_EdgeAt.B (c0 : (TGraph) → (ByteArray) → (Int) → Option (Int)) (a0 : TGraph) (a1 : ByteArray) : Option (Int) :=
    (c0 a0 a1 0)
theorem F.pleachref26_EdgeAt.eq K a0 a1 : F.pleachref26_EdgeAt (K + 1) a0 a1 = F.pleachref26_EdgeAt.B (F.pleachref26_EdgeAt.l1010 K K) a0 a1 := (F.pleachref26_EdgeAt.in_main K a0 a1).trans ((show ∀ H, F.pleachref26_EdgeAt.in K H [] [] ⟨slots [.agg [.list sNode a0.1 false, .list sEdge a0.2 false], .sc (.val (.string a1))] 0, []⟩ = F.pleachref26_EdgeAt.B (fun a0 a1 x0 => H [1, 0, 1, 0] [K] (F.pleachref26_EdgeAt.l1010.st a0 a1 x0)) a0 a1 from by intro H; kernel_rfl) (F.pleachref26_EdgeAt.at K))
noncomputable def V.pleachref26_EdgeAt.l1010 (a0 : TGraph) (a1 : ByteArray) (x0 : Int) := lim fun v => F.pleachref26_EdgeAt.l1010 (v 0) (v 1) a0 a1 x0
noncomputable def V.pleachref26_EdgeAt (a0 : TGraph) (a1 : ByteArray) := lim fun v => F.pleachref26_EdgeAt (v 0) a0 a1
theorem V.pleachref26_EdgeAt.l1010.of a0 a1 x0 {r} (h : F.pleachref26_EdgeAt.l1010.B V.pleachref26_EdgeAt.l1010 a0 a1 x0 = some r) : V.pleachref26_EdgeAt.l1010 a0 a1 x0 = some r :=
  App.to (App.step 1 (fun v => F.pleachref26_EdgeAt.l1010.eq (v 0) (v 1) a0 a1 x0) (by unfold F.pleachref26_EdgeAt.l1010.B; repeat' first | exact App.val | exact App.no | exact App.lim | apply App.cond | apply App.guard | apply App.meet | apply App.ite | refine App.bind ?_ fun _ => ?_)) h
theorem V.pleachref26_EdgeAt.of a0 a1 {r} (h : F.pleachref26_EdgeAt.B V.pleachref26_EdgeAt.l1010 a0 a1 = some r) : V.pleachref26_EdgeAt a0 a1 = some r :=
  App.to (App.step 0 (fun v => F.pleachref26_EdgeAt.eq (v 0) a0 a1) (by unfold F.pleachref26_EdgeAt.B; repeat' first | exact App.val | exact App.no | exact App.lim | exact (App.enter 1 App.lim) | apply App.cond | apply App.guard | apply App.meet | apply App.ite | refine App.bind ?_ fun _ => ?_)) h
noncomputable def F.pleachref25_SameTexts (K : Nat) (a0 : List ByteArray) (a1 : List ByteArray) : Option (Bool) := evFn Tryz.prog sg K 44 [.sc (.list .str a0 false), .sc (.list .str a1 false)] []
noncomputable def F.pleachref25_SameTexts.at (K : Nat) (p ns : List Nat) (s : St) : Option (Bool) := atFn Tryz.prog sg K 44 0 p ns s
noncomputable def F.pleachref25_SameTexts.in (K : Nat) (H : List Nat → List Nat → St → Option (Bool)) (p ns : List Nat) (s : St) : Option (Bool) := inFn Tryz.prog sg K 44 0 [] H p ns s
theorem F.pleachref25_SameTexts.in_eq K p ns s : F.pleachref25_SameTexts.at K p ns s = F.pleachref25_SameTexts.in K (F.pleachref25_SameTexts.at K) p ns s := atFn_eq (P := Tryz.prog) (sg := sg) (K := K) (f := 44) (m := 0) [] p ns s
theorem F.pleachref25_SameTexts.in_main K a0 a1 : F.pleachref25_SameTexts (K + 1) a0 a1 = F.pleachref25_SameTexts.in K (F.pleachref25_SameTexts.at K) [] [] ⟨slots [.sc (.list .str a0 false), .sc (.list .str a1 false)] 0, []⟩ := evFn_eq (P := Tryz.prog) (sg := sg) (K := K) (f := 44) (args := [.sc (.list .str a0 false), .sc (.list .str a1 false)]) (σ := []) [] (by kernel_rfl)
def F.pleachref25_SameTexts.l11010.st (a0 : List ByteArray) (a1 : List ByteArray) (x0 : Int) : St := ⟨[(0, vL .str a0), (1, vL .str a1), (5, vI x0)], []⟩
noncomputable def F.pleachref25_SameTexts.l11010 (K n0 : Nat) (a0 : List ByteArray) (a1 : List ByteArray) (x0 : Int) := F.pleachref25_SameTexts.at K [1, 1, 0, 1, 0] [n0] (F.pleachref25_SameTexts.l11010.st a0 a1 x0)
noncomputable def F.pleachref25_SameTexts.l11010.B (c0 : (List ByteArray) → (List ByteArray) → (Int) → Option (Bool)) (a0 : List ByteArray) (a1 : List ByteArray) (x0 : Int) : Option (Bool) :=
    (bif (decide (x0 < (a0.length : Int))) then (guardK (decide (0 ≤ x0) && decide (x0 < (a0.length : Int))) (guardK (decide (0 ≤ x0) && decide (x0 < (a1.length : Int))) (bif (!strEq (rd .str a0 x0.toNat) (rd .str a1 x0.toNat)) then (some false) else (c0 a0 a1 (w64 (x0 + 1)))))) else (some true))
theorem F.pleachref25_SameTexts.l11010.eq K n0 a0 a1 x0 : F.pleachref25_SameTexts.l11010 K (n0 + 1) a0 a1 x0 = F.pleachref25_SameTexts.l11010.B (F.pleachref25_SameTexts.l11010 K n0) a0 a1 x0 := (F.pleachref25_SameTexts.in_eq K [1, 1, 0, 1, 0] [n0 + 1] (F.pleachref25_SameTexts.l11010.st a0 a1 x0)).trans ((show ∀ H, F.pleachref25_SameTexts.in K H [1, 1, 0, 1, 0] [n0 + 1] (F.pleachref25_SameTexts.l11010.st a0 a1 x0) = F.pleachref25_SameTexts.l11010.B (fun a0 a1 x0 => H [1, 1, 0, 1, 0] [n0] (F.pleachref25_SameTexts.l11010.st a0 a1 x0)) a0 a1 x0 from by intro H; kernel_rfl) (F.pleachref25_SameTexts.at K))
noncomputable def F.pleachref25_SameTexts.B (c0 : (List ByteArray) → (List ByteArray) → (Int) → Option (Bool)) (a0 : List ByteArray) (a1 : List ByteArray) : Option (Bool) :=
    (bif ((a0.length : Int) != (a1.length : Int)) then (some false) else (c0 a0 a1 0))
theorem F.pleachref25_SameTexts.eq K a0 a1 : F.pleachref25_SameTexts (K + 1) a0 a1 = F.pleachref25_SameTexts.B (F.pleachref25_SameTexts.l11010 K K) a0 a1 := (F.pleachref25_SameTexts.in_main K a0 a1).trans ((show ∀ H, F.pleachref25_SameTexts.in K H [] [] ⟨slots [.sc (.list .str a0 false), .sc (.list .str a1 false)] 0, []⟩ = F.pleachref25_SameTexts.B (fun a0 a1 x0 => H [1, 1, 0, 1, 0] [K] (F.pleachref25_SameTexts.l11010.st a0 a1 x0)) a0 a1 from by intro H; kernel_rfl) (F.pleachref25_SameTexts.at K))
noncomputable def V.pleachref25_SameTexts.l11010 (a0 : List ByteArray) (a1 : List ByteArray) (x0 : Int) := lim fun v => F.pleachref25_SameTexts.l11010 (v 0) (v 1) a0 a1 x0
noncomputable def V.pleachref25_SameTexts (a0 : List ByteArray) (a1 : List ByteArray) := lim fun v => F.pleachref25_SameTexts (v 0) a0 a1
theorem V.pleachref25_SameTexts.l11010.of a0 a1 x0 {r} (h : F.pleachref25_SameTexts.l11010.B V.pleachref25_SameTexts.l11010 a0 a1 x0 = some r) : V.pleachref25_SameTexts.l11010 a0 a1 x0 = some r :=
  App.to (App.step 1 (fun v => F.pleachref25_SameTexts.l11010.eq (v 0) (v 1) a0 a1 x0) (by unfold F.pleachref25_SameTexts.l11010.B; repeat' first | exact App.val | exact App.no | exact App.lim | apply App.cond | apply App.guard | apply App.meet | apply App.ite | refine App.bind ?_ fun _ => ?_)) h
theorem V.pleachref25_SameTexts.of a0 a1 {r} (h : F.pleachref25_SameTexts.B V.pleachref25_SameTexts.l11010 a0 a1 = some r) : V.pleachref25_SameTexts a0 a1 = some r :=
  App.to (App.step 0 (fun v => F.pleachref25_SameTexts.eq (v 0) a0 a1) (by unfold F.pleachref25_SameTexts.B; repeat' first | exact App.val | exact App.no | exact App.lim | exact (App.enter 1 App.lim) | apply App.cond | apply App.guard | apply App.meet | apply App.ite | refine App.bind ?_ fun _ => ?_)) h
noncomputable def F.pleachref25_SameProps (K : Nat) (a0 : List TProp) (a1 : List TProp) : Option (Bool) := evFn Tryz.prog sg K 45 [.sc (.list sProp a0 false), .sc (.list sProp a1 false)] []
noncomputable def F.pleachref25_SameProps.at (K : Nat) (p ns : List Nat) (s : St) : Option (Bool) := atFn Tryz.prog sg K 45 0 p ns s
noncomputable def F.pleachref25_SameProps.in (K : Nat) (H : List Nat → List Nat → St → Option (Bool)) (p ns : List Nat) (s : St) : Option (Bool) := inFn Tryz.prog sg K 45 0 [] H p ns s
theorem F.pleachref25_SameProps.in_eq K p ns s : F.pleachref25_SameProps.at K p ns s = F.pleachref25_SameProps.in K (F.pleachref25_SameProps.at K) p ns s := atFn_eq (P := Tryz.prog) (sg := sg) (K := K) (f := 45) (m := 0) [] p ns s
theorem F.pleachref25_SameProps.in_main K a0 a1 : F.pleachref25_SameProps (K + 1) a0 a1 = F.pleachref25_SameProps.in K (F.pleachref25_SameProps.at K) [] [] ⟨slots [.sc (.list sProp a0 false), .sc (.list sProp a1 false)] 0, []⟩ := evFn_eq (P := Tryz.prog) (sg := sg) (K := K) (f := 45) (args := [.sc (.list sProp a0 false), .sc (.list sProp a1 false)]) (σ := []) [] (by kernel_rfl)
def F.pleachref25_SameProps.l11010.st (a0 : List TProp) (a1 : List TProp) (x0 : Int) : St := ⟨[(0, vL sProp a0), (1, vL sProp a1), (5, vI x0)], []⟩
noncomputable def F.pleachref25_SameProps.l11010 (K n0 : Nat) (a0 : List TProp) (a1 : List TProp) (x0 : Int) := F.pleachref25_SameProps.at K [1, 1, 0, 1, 0] [n0] (F.pleachref25_SameProps.l11010.st a0 a1 x0)
noncomputable def F.pleachref25_SameProps.l11010.B (c0 : (List TProp) → (List TProp) → (Int) → Option (Bool)) (a0 : List TProp) (a1 : List TProp) (x0 : Int) : Option (Bool) :=
    (bif (decide (x0 < (a0.length : Int))) then (guardK (decide (0 ≤ x0) && decide (x0 < (a0.length : Int))) (guardK (decide (0 ≤ x0) && decide (x0 < (a1.length : Int))) (bif (!((strEq ((rd sProp a0 x0.toNat).1) ((rd sProp a1 x0.toNat).1)) && (((((rd sProp a0 x0.toNat).2).1 == ((rd sProp a1 x0.toNat).2).1) && (((((rd sProp a0 x0.toNat).2).2).1 == (((rd sProp a1 x0.toNat).2).2).1) && ((strEq ((((rd sProp a0 x0.toNat).2).2).2) ((((rd sProp a1 x0.toNat).2).2).2)) && true))) && true))) then (some false) else (c0 a0 a1 (w64 (x0 + 1)))))) else (some true))
theorem F.pleachref25_SameProps.l11010.eq K n0 a0 a1 x0 : F.pleachref25_SameProps.l11010 K (n0 + 1) a0 a1 x0 = F.pleachref25_SameProps.l11010.B (F.pleachref25_SameProps.l11010 K n0) a0 a1 x0 := (F.pleachref25_SameProps.in_eq K [1, 1, 0, 1, 0] [n0 + 1] (F.pleachref25_SameProps.l11010.st a0 a1 x0)).trans ((show ∀ H, F.pleachref25_SameProps.in K H [1, 1, 0, 1, 0] [n0 + 1] (F.pleachref25_SameProps.l11010.st a0 a1 x0) = F.pleachref25_SameProps.l11010.B (fun a0 a1 x0 => H [1, 1, 0, 1, 0] [n0] (F.pleachref25_SameProps.l11010.st a0 a1 x0)) a0 a1 x0 from by intro H; kernel_rfl) (F.pleachref25_SameProps.at K))
noncomputable def F.pleachref25_SameProps.B (c0 : (List TProp) → (List TProp) → (Int) → Option (Bool)) (a0 : List TProp) (a1 : List TProp) : Option (Bool) :=
    (bif ((a0.length : Int) != (a1.length : Int)) then (some false) else (c0 a0 a1 0))
theorem F.pleachref25_SameProps.eq K a0 a1 : F.pleachref25_SameProps (K + 1) a0 a1 = F.pleachref25_SameProps.B (F.pleachref25_SameProps.l11010 K K) a0 a1 := (F.pleachref25_SameProps.in_main K a0 a1).trans ((show ∀ H, F.pleachref25_SameProps.in K H [] [] ⟨slots [.sc (.list sProp a0 false), .sc (.list sProp a1 false)] 0, []⟩ = F.pleachref25_SameProps.B (fun a0 a1 x0 => H [1, 1, 0, 1, 0] [K] (F.pleachref25_SameProps.l11010.st a0 a1 x0)) a0 a1 from by intro H; kernel_rfl) (F.pleachref25_SameProps.at K))
noncomputable def V.pleachref25_SameProps.l11010 (a0 : List TProp) (a1 : List TProp) (x0 : Int) := lim fun v => F.pleachref25_SameProps.l11010 (v 0) (v 1) a0 a1 x0
noncomputable def V.pleachref25_SameProps (a0 : List TProp) (a1 : List TProp) := lim fun v => F.pleachref25_SameProps (v 0) a0 a1
theorem V.pleachref25_SameProps.l11010.of a0 a1 x0 {r} (h : F.pleachref25_SameProps.l11010.B V.pleachref25_SameProps.l11010 a0 a1 x0 = some r) : V.pleachref25_SameProps.l11010 a0 a1 x0 = some r :=
  App.to (App.step 1 (fun v => F.pleachref25_SameProps.l11010.eq (v 0) (v 1) a0 a1 x0) (by unfold F.pleachref25_SameProps.l11010.B; repeat' first | exact App.val | exact App.no | exact App.lim | apply App.cond | apply App.guard | apply App.meet | apply App.ite | refine App.bind ?_ fun _ => ?_)) h
theorem V.pleachref25_SameProps.of a0 a1 {r} (h : F.pleachref25_SameProps.B V.pleachref25_SameProps.l11010 a0 a1 = some r) : V.pleachref25_SameProps a0 a1 = some r :=
  App.to (App.step 0 (fun v => F.pleachref25_SameProps.eq (v 0) a0 a1) (by unfold F.pleachref25_SameProps.B; repeat' first | exact App.val | exact App.no | exact App.lim | exact (App.enter 1 App.lim) | apply App.cond | apply App.guard | apply App.meet | apply App.ite | refine App.bind ?_ fun _ => ?_)) h
noncomputable def F.pleachref25_SameNode (K : Nat) (a0 : TNode) (a1 : TNode) : Option (Bool) := evFn Tryz.prog sg K 18 [.agg [.val (.string a0.1), .list .str a0.2.1 false, .list sProp a0.2.2 false], .agg [.val (.string a1.1), .list .str a1.2.1 false, .list sProp a1.2.2 false]] []
noncomputable def F.pleachref25_SameNode.B (c0 : (List ByteArray) → (List ByteArray) → Option (Bool)) (c1 : (List TProp) → (List TProp) → Option (Bool)) (a0 : TNode) (a1 : TNode) : Option (Bool) :=
    (bif (strEq a0.1 a1.1) then ((c0 a0.2.1 a1.2.1).bind fun t0 => (bif t0 then ((c1 a0.2.2 a1.2.2).bind fun t1 => (some t1)) else (some false))) else (some false))
theorem F.pleachref25_SameNode.eq K a0 a1 : F.pleachref25_SameNode (K + 1) a0 a1 = F.pleachref25_SameNode.B (F.pleachref25_SameTexts K) (F.pleachref25_SameProps K) a0 a1 := by kernel_rfl
noncomputable def V.pleachref25_SameNode (a0 : TNode) (a1 : TNode) := lim fun v => F.pleachref25_SameNode (v 0) a0 a1
theorem V.pleachref25_SameNode.of a0 a1 {r} (h : F.pleachref25_SameNode.B V.pleachref25_SameTexts V.pleachref25_SameProps a0 a1 = some r) : V.pleachref25_SameNode a0 a1 = some r :=
  App.to (App.step 0 (fun v => F.pleachref25_SameNode.eq (v 0) a0 a1) (by unfold F.pleachref25_SameNode.B; repeat' first | exact App.val | exact App.no | exact App.lim | apply App.cond | apply App.guard | apply App.meet | apply App.ite | refine App.bind ?_ fun _ => ?_)) h
noncomputable def F.pleachref25_SameEdge (K : Nat) (a0 : TEdge) (a1 : TEdge) : Option (Bool) := evFn Tryz.prog sg K 19 [.agg [.val (.string a0.1), .val (.string a0.2.1), .val (.string a0.2.2.1), .list .str a0.2.2.2.1 false, .list sProp a0.2.2.2.2 false], .agg [.val (.string a1.1), .val (.string a1.2.1), .val (.string a1.2.2.1), .list .str a1.2.2.2.1 false, .list sProp a1.2.2.2.2 false]] []
noncomputable def F.pleachref25_SameEdge.B (c0 : (List ByteArray) → (List ByteArray) → Option (Bool)) (c1 : (List TProp) → (List TProp) → Option (Bool)) (a0 : TEdge) (a1 : TEdge) : Option (Bool) :=
    (bif (strEq a0.1 a1.1) then (bif (strEq a0.2.1 a1.2.1) then (bif (strEq a0.2.2.1 a1.2.2.1) then ((c0 a0.2.2.2.1 a1.2.2.2.1).bind fun t0 => (bif t0 then ((c1 a0.2.2.2.2 a1.2.2.2.2).bind fun t1 => (some t1)) else (some false))) else (some false)) else (some false)) else (some false))
theorem F.pleachref25_SameEdge.eq K a0 a1 : F.pleachref25_SameEdge (K + 1) a0 a1 = F.pleachref25_SameEdge.B (F.pleachref25_SameTexts K) (F.pleachref25_SameProps K) a0 a1 := by kernel_rfl
noncomputable def V.pleachref25_SameEdge (a0 : TEdge) (a1 : TEdge) := lim fun v => F.pleachref25_SameEdge (v 0) a0 a1
theorem V.pleachref25_SameEdge.of a0 a1 {r} (h : F.pleachref25_SameEdge.B V.pleachref25_SameTexts V.pleachref25_SameProps a0 a1 = some r) : V.pleachref25_SameEdge a0 a1 = some r :=
  App.to (App.step 0 (fun v => F.pleachref25_SameEdge.eq (v 0) a0 a1) (by unfold F.pleachref25_SameEdge.B; repeat' first | exact App.val | exact App.no | exact App.lim | apply App.cond | apply App.guard | apply App.meet | apply App.ite | refine App.bind ?_ fun _ => ?_)) h
noncomputable def F.graph_Out_1 (K : Nat) (a0 : TEdge) (a1 : ByteArray) : Option (Bool × ByteArray) := evFn Tryz.prog sg K 47 [.agg [.val (.string a0.1), .val (.string a0.2.1), .val (.string a0.2.2.1), .list .str a0.2.2.2.1 false, .list sProp a0.2.2.2.2 false], .sc (.ref 0 0)] [.cells 9 [.val (.string a1)]]
noncomputable def F.graph_Out_1.B (a0 : TEdge) (a1 : ByteArray) : Option (Bool × ByteArray) :=
    (some ((strEq a0.2.1 a1), a1))
theorem F.graph_Out_1.eq K a0 a1 : F.graph_Out_1 (K + 1) a0 a1 = F.graph_Out_1.B a0 a1 := by kernel_rfl
noncomputable def V.graph_Out_1 (a0 : TEdge) (a1 : ByteArray) := lim fun v => F.graph_Out_1 (v 0) a0 a1
theorem V.graph_Out_1.of a0 a1 {r} (h : F.graph_Out_1.B a0 a1 = some r) : V.graph_Out_1 a0 a1 = some r :=
  App.to (App.step 0 (fun v => F.graph_Out_1.eq (v 0) a0 a1) (by unfold F.graph_Out_1.B; repeat' first | exact App.val | exact App.no | exact App.lim | apply App.cond | apply App.guard | apply App.meet | apply App.ite | refine App.bind ?_ fun _ => ?_)) h
noncomputable def F.graph_some_by_graph_Out_1 (K : Nat) (a0 : TGraph) (a1_0 : ByteArray) : Option ((List TEdge) × ByteArray) := evFn Tryz.prog sg K 46 [.agg [.list sNode a0.1 false, .list sEdge a0.2 false], .sc (.fn 47 [.ref 0 0])] [.cells 9 [.val (.string a1_0)]]
noncomputable def F.graph_some_by_graph_Out_1.at (K : Nat) (p ns : List Nat) (s : St) : Option ((List TEdge) × ByteArray) := atFn Tryz.prog sg K 46 1 p ns s
noncomputable def F.graph_some_by_graph_Out_1.in (K : Nat) (H : List Nat → List Nat → St → Option ((List TEdge) × ByteArray)) (p ns : List Nat) (s : St) : Option ((List TEdge) × ByteArray) := inFn Tryz.prog sg K 46 1 [] H p ns s
theorem F.graph_some_by_graph_Out_1.in_eq K p ns s : F.graph_some_by_graph_Out_1.at K p ns s = F.graph_some_by_graph_Out_1.in K (F.graph_some_by_graph_Out_1.at K) p ns s := atFn_eq (P := Tryz.prog) (sg := sg) (K := K) (f := 46) (m := 1) [] p ns s
theorem F.graph_some_by_graph_Out_1.in_main K a0 a1_0 : F.graph_some_by_graph_Out_1 (K + 1) a0 a1_0 = F.graph_some_by_graph_Out_1.in K (F.graph_some_by_graph_Out_1.at K) [] [] ⟨slots [.agg [.list sNode a0.1 false, .list sEdge a0.2 false], .sc (.fn 47 [.ref 0 0])] 0, [.cells 9 [.val (.string a1_0)]]⟩ := evFn_eq (P := Tryz.prog) (sg := sg) (K := K) (f := 46) (args := [.agg [.list sNode a0.1 false, .list sEdge a0.2 false], .sc (.fn 47 [.ref 0 0])]) (σ := [.cells 9 [.val (.string a1_0)]]) [] (by kernel_rfl)
def F.graph_some_by_graph_Out_1.l11010.st (a0 : TGraph) (a1_0 : ByteArray) (x0 : Int) (x1 : ByteArray) (x2 : List TEdge) : St := ⟨[(1, .one (.sc (.fn 47 [.ref 0 0]))), (5, .one (.sc (.own 1 none))), (9, vL sEdge a0.2), (10, vI (a0.2.length : Int)), (11, vI x0)], [.cells 9 [.val (.string x1)], .elems sEdge x2]⟩
noncomputable def F.graph_some_by_graph_Out_1.l11010 (K n0 : Nat) (a0 : TGraph) (a1_0 : ByteArray) (x0 : Int) (x1 : ByteArray) (x2 : List TEdge) := F.graph_some_by_graph_Out_1.at K [1, 1, 0, 1, 0] [n0] (F.graph_some_by_graph_Out_1.l11010.st a0 a1_0 x0 x1 x2)
noncomputable def F.graph_some_by_graph_Out_1.l11010.B (c0 : (TEdge) → (ByteArray) → Option (Bool × ByteArray)) (c1 : (TGraph) → (ByteArray) → (Int) → (ByteArray) → (List TEdge) → Option ((List TEdge) × ByteArray)) (c2 : (TGraph) → Option (TGraph)) (a0 : TGraph) (a1_0 : ByteArray) (x0 : Int) (x1 : ByteArray) (x2 : List TEdge) : Option ((List TEdge) × ByteArray) :=
    (bif (decide (x0 < (a0.2.length : Int))) then (guardK (decide (0 ≤ x0) && decide (x0 < (a0.2.length : Int))) ((c0 ((rd sEdge a0.2 x0.toNat).1, ((rd sEdge a0.2 x0.toNat).2).1, (((rd sEdge a0.2 x0.toNat).2).2).1, ((((rd sEdge a0.2 x0.toNat).2).2).2).1, ((((rd sEdge a0.2 x0.toNat).2).2).2).2) x1).bind fun t0 => (bif t0.1 then (guardK (decide (x2.length + ([((rd sEdge a0.2 x0.toNat).1, ((rd sEdge a0.2 x0.toNat).2).1, (((rd sEdge a0.2 x0.toNat).2).2).1, ((((rd sEdge a0.2 x0.toNat).2).2).2).1, ((((rd sEdge a0.2 x0.toNat).2).2).2).2)]).length ≤ nmax)) (c1 a0 a1_0 (w64 (x0 + 1)) t0.2 (x2 ++ [((rd sEdge a0.2 x0.toNat).1, ((rd sEdge a0.2 x0.toNat).2).1, (((rd sEdge a0.2 x0.toNat).2).2).1, ((((rd sEdge a0.2 x0.toNat).2).2).2).1, ((((rd sEdge a0.2 x0.toNat).2).2).2).2)]))) else (c1 a0 a1_0 (w64 (x0 + 1)) t0.2 x2)))) else ((c2 ([], x2)).bind fun t1 => (some (t1.2, x1))))
theorem F.graph_some_by_graph_Out_1.l11010.eq K n0 a0 a1_0 x0 x1 x2 : F.graph_some_by_graph_Out_1.l11010 K (n0 + 1) a0 a1_0 x0 x1 x2 = F.graph_some_by_graph_Out_1.l11010.B (F.graph_Out_1 K) (F.graph_some_by_graph_Out_1.l11010 K n0) (F.graph_Copy K) a0 a1_0 x0 x1 x2 := (F.graph_some_by_graph_Out_1.in_eq K [1, 1, 0, 1, 0] [n0 + 1] (F.graph_some_by_graph_Out_1.l11010.st a0 a1_0 x0 x1 x2)).trans ((show ∀ H, F.graph_some_by_graph_Out_1.in K H [1, 1, 0, 1, 0] [n0 + 1] (F.graph_some_by_graph_Out_1.l11010.st a0 a1_0 x0 x1 x2) = F.graph_some_by_graph_Out_1.l11010.B (F.graph_Out_1 K) (fun a0 a1_0 x0 x1 x2 => H [1, 1, 0, 1, 0] [n0] (F.graph_some_by_graph_Out_1.l11010.st a0 a1_0 x0 x1 x2)) (F.graph_Copy K) a0 a1_0 x0 x1 x2 from by intro H; kernel_rfl) (F.graph_some_by_graph_Out_1.at K))
noncomputable def F.graph_some_by_graph_Out_1.B (c0 : (TGraph) → (ByteArray) → (Int) → (ByteArray) → (List TEdge) → Option ((List TEdge) × ByteArray)) (a0 : TGraph) (a1_0 : ByteArray) : Option ((List TEdge) × ByteArray) :=
    (c0 a0 a1_0 0 a1_0 ([]))
theorem F.graph_some_by_graph_Out_1.eq K a0 a1_0 : F.graph_some_by_graph_Out_1 (K + 1) a0 a1_0 = F.graph_some_by_graph_Out_1.B (F.graph_some_by_graph_Out_1.l11010 K K) a0 a1_0 := (F.graph_some_by_graph_Out_1.in_main K a0 a1_0).trans ((show ∀ H, F.graph_some_by_graph_Out_1.in K H [] [] ⟨slots [.agg [.list sNode a0.1 false, .list sEdge a0.2 false], .sc (.fn 47 [.ref 0 0])] 0, [.cells 9 [.val (.string a1_0)]]⟩ = F.graph_some_by_graph_Out_1.B (fun a0 a1_0 x0 x1 x2 => H [1, 1, 0, 1, 0] [K] (F.graph_some_by_graph_Out_1.l11010.st a0 a1_0 x0 x1 x2)) a0 a1_0 from by intro H; kernel_rfl) (F.graph_some_by_graph_Out_1.at K))
noncomputable def V.graph_some_by_graph_Out_1.l11010 (a0 : TGraph) (a1_0 : ByteArray) (x0 : Int) (x1 : ByteArray) (x2 : List TEdge) := lim fun v => F.graph_some_by_graph_Out_1.l11010 (v 0) (v 1) a0 a1_0 x0 x1 x2
noncomputable def V.graph_some_by_graph_Out_1 (a0 : TGraph) (a1_0 : ByteArray) := lim fun v => F.graph_some_by_graph_Out_1 (v 0) a0 a1_0
theorem V.graph_some_by_graph_Out_1.l11010.of a0 a1_0 x0 x1 x2 {r} (h : F.graph_some_by_graph_Out_1.l11010.B V.graph_Out_1 V.graph_some_by_graph_Out_1.l11010 V.graph_Copy a0 a1_0 x0 x1 x2 = some r) : V.graph_some_by_graph_Out_1.l11010 a0 a1_0 x0 x1 x2 = some r :=
  App.to (App.step 1 (fun v => F.graph_some_by_graph_Out_1.l11010.eq (v 0) (v 1) a0 a1_0 x0 x1 x2) (by unfold F.graph_some_by_graph_Out_1.l11010.B; repeat' first | exact App.val | exact App.no | exact App.lim | apply App.cond | apply App.guard | apply App.meet | apply App.ite | refine App.bind ?_ fun _ => ?_)) h
theorem V.graph_some_by_graph_Out_1.of a0 a1_0 {r} (h : F.graph_some_by_graph_Out_1.B V.graph_some_by_graph_Out_1.l11010 a0 a1_0 = some r) : V.graph_some_by_graph_Out_1 a0 a1_0 = some r :=
  App.to (App.step 0 (fun v => F.graph_some_by_graph_Out_1.eq (v 0) a0 a1_0) (by unfold F.graph_some_by_graph_Out_1.B; repeat' first | exact App.val | exact App.no | exact App.lim | exact (App.enter 1 App.lim) | apply App.cond | apply App.guard | apply App.meet | apply App.ite | refine App.bind ?_ fun _ => ?_)) h
noncomputable def F.graph_Out (K : Nat) (a0 : TGraph) (a1 : ByteArray) : Option ((List TEdge)) := evFn Tryz.prog sg K 21 [.agg [.list sNode a0.1 false, .list sEdge a0.2 false], .sc (.val (.string a1))] []
noncomputable def F.graph_Out.B (c0 : (TGraph) → (ByteArray) → Option ((List TEdge) × ByteArray)) (a0 : TGraph) (a1 : ByteArray) : Option ((List TEdge)) :=
    ((c0 (a0.1, a0.2) a1).bind fun t0 => (some t0.1))
theorem F.graph_Out.eq K a0 a1 : F.graph_Out (K + 1) a0 a1 = F.graph_Out.B (F.graph_some_by_graph_Out_1 K) a0 a1 := by kernel_rfl
noncomputable def V.graph_Out (a0 : TGraph) (a1 : ByteArray) := lim fun v => F.graph_Out (v 0) a0 a1
theorem V.graph_Out.of a0 a1 {r} (h : F.graph_Out.B V.graph_some_by_graph_Out_1 a0 a1 = some r) : V.graph_Out a0 a1 = some r :=
  App.to (App.step 0 (fun v => F.graph_Out.eq (v 0) a0 a1) (by unfold F.graph_Out.B; repeat' first | exact App.val | exact App.no | exact App.lim | apply App.cond | apply App.guard | apply App.meet | apply App.ite | refine App.bind ?_ fun _ => ?_)) h
noncomputable def F.pleachref26_Out (K : Nat) (a0 : TGraph) (a1 : ByteArray) : Option ((List TEdge)) := evFn Tryz.prog sg K 22 [.agg [.list sNode a0.1 false, .list sEdge a0.2 false], .sc (.val (.string a1))] []
noncomputable def F.pleachref26_Out.at (K : Nat) (p ns : List Nat) (s : St) : Option ((List TEdge)) := atFn Tryz.prog sg K 22 0 p ns s
noncomputable def F.pleachref26_Out.in (K : Nat) (H : List Nat → List Nat → St → Option ((List TEdge))) (p ns : List Nat) (s : St) : Option ((List TEdge)) := inFn Tryz.prog sg K 22 0 [] H p ns s
theorem F.pleachref26_Out.in_eq K p ns s : F.pleachref26_Out.at K p ns s = F.pleachref26_Out.in K (F.pleachref26_Out.at K) p ns s := atFn_eq (P := Tryz.prog) (sg := sg) (K := K) (f := 22) (m := 0) [] p ns s
theorem F.pleachref26_Out.in_main K a0 a1 : F.pleachref26_Out (K + 1) a0 a1 = F.pleachref26_Out.in K (F.pleachref26_Out.at K) [] [] ⟨slots [.agg [.list sNode a0.1 false, .list sEdge a0.2 false], .sc (.val (.string a1))] 0, []⟩ := evFn_eq (P := Tryz.prog) (sg := sg) (K := K) (f := 22) (args := [.agg [.list sNode a0.1 false, .list sEdge a0.2 false], .sc (.val (.string a1))]) (σ := []) [] (by kernel_rfl)
def F.pleachref26_Out.l11010.st (a0 : TGraph) (a1 : ByteArray) (x0 : Int) (x1 : List TEdge) : St := ⟨[(1, vS a1), (2, .one (.sc (.ref 0 0))), (5, .one (.sc (.own 1 none))), (6, vI x0)], [.cells 25 [.list sNode a0.1 false, .list sEdge a0.2 false], .elems sEdge x1]⟩
noncomputable def F.pleachref26_Out.l11010 (K n0 : Nat) (a0 : TGraph) (a1 : ByteArray) (x0 : Int) (x1 : List TEdge) := F.pleachref26_Out.at K [1, 1, 0, 1, 0] [n0] (F.pleachref26_Out.l11010.st a0 a1 x0 x1)
noncomputable def F.pleachref26_Out.l11010.B (c0 : (TGraph) → (ByteArray) → (Int) → (List TEdge) → Option ((List TEdge))) (a0 : TGraph) (a1 : ByteArray) (x0 : Int) (x1 : List TEdge) : Option ((List TEdge)) :=
    (bif (decide (x0 < (a0.2.length : Int))) then (guardK (decide (0 ≤ x0) && decide (x0 < (a0.2.length : Int))) (bif (strEq (((rd sEdge a0.2 x0.toNat).2).1) a1) then (guardK (decide (0 ≤ x0) && decide (x0 < (a0.2.length : Int))) (guardK (decide (x1.length + ([((rd sEdge a0.2 x0.toNat).1, ((rd sEdge a0.2 x0.toNat).2).1, (((rd sEdge a0.2 x0.toNat).2).2).1, ((((rd sEdge a0.2 x0.toNat).2).2).2).1, ((((rd sEdge a0.2 x0.toNat).2).2).2).2)]).length ≤ nmax)) (c0 a0 a1 (w64 (x0 + 1)) (x1 ++ [((rd sEdge a0.2 x0.toNat).1, ((rd sEdge a0.2 x0.toNat).2).1, (((rd sEdge a0.2 x0.toNat).2).2).1, ((((rd sEdge a0.2 x0.toNat).2).2).2).1, ((((rd sEdge a0.2 x0.toNat).2).2).2).2)])))) else (c0 a0 a1 (w64 (x0 + 1)) x1))) else (some x1))
theorem F.pleachref26_Out.l11010.eq K n0 a0 a1 x0 x1 : F.pleachref26_Out.l11010 K (n0 + 1) a0 a1 x0 x1 = F.pleachref26_Out.l11010.B (F.pleachref26_Out.l11010 K n0) a0 a1 x0 x1 := (F.pleachref26_Out.in_eq K [1, 1, 0, 1, 0] [n0 + 1] (F.pleachref26_Out.l11010.st a0 a1 x0 x1)).trans ((show ∀ H, F.pleachref26_Out.in K H [1, 1, 0, 1, 0] [n0 + 1] (F.pleachref26_Out.l11010.st a0 a1 x0 x1) = F.pleachref26_Out.l11010.B (fun a0 a1 x0 x1 => H [1, 1, 0, 1, 0] [n0] (F.pleachref26_Out.l11010.st a0 a1 x0 x1)) a0 a1 x0 x1 from by intro H; kernel_rfl) (F.pleachref26_Out.at K))
noncomputable def F.pleachref26_Out.B (c0 : (TGraph) → (ByteArray) → (Int) → (List TEdge) → Option ((List TEdge))) (a0 : TGraph) (a1 : ByteArray) : Option ((List TEdge)) :=
    (c0 a0 a1 0 ([]))
theorem F.pleachref26_Out.eq K a0 a1 : F.pleachref26_Out (K + 1) a0 a1 = F.pleachref26_Out.B (F.pleachref26_Out.l11010 K K) a0 a1 := (F.pleachref26_Out.in_main K a0 a1).trans ((show ∀ H, F.pleachref26_Out.in K H [] [] ⟨slots [.agg [.list sNode a0.1 false, .list sEdge a0.2 false], .sc (.val (.string a1))] 0, []⟩ = F.pleachref26_Out.B (fun a0 a1 x0 x1 => H [1, 1, 0, 1, 0] [K] (F.pleachref26_Out.l11010.st a0 a1 x0 x1)) a0 a1 from by intro H; kernel_rfl) (F.pleachref26_Out.at K))
noncomputable def V.pleachref26_Out.l11010 (a0 : TGraph) (a1 : ByteArray) (x0 : Int) (x1 : List TEdge) := lim fun v => F.pleachref26_Out.l11010 (v 0) (v 1) a0 a1 x0 x1
noncomputable def V.pleachref26_Out (a0 : TGraph) (a1 : ByteArray) := lim fun v => F.pleachref26_Out (v 0) a0 a1
theorem V.pleachref26_Out.l11010.of a0 a1 x0 x1 {r} (h : F.pleachref26_Out.l11010.B V.pleachref26_Out.l11010 a0 a1 x0 x1 = some r) : V.pleachref26_Out.l11010 a0 a1 x0 x1 = some r :=
  App.to (App.step 1 (fun v => F.pleachref26_Out.l11010.eq (v 0) (v 1) a0 a1 x0 x1) (by unfold F.pleachref26_Out.l11010.B; repeat' first | exact App.val | exact App.no | exact App.lim | apply App.cond | apply App.guard | apply App.meet | apply App.ite | refine App.bind ?_ fun _ => ?_)) h
theorem V.pleachref26_Out.of a0 a1 {r} (h : F.pleachref26_Out.B V.pleachref26_Out.l11010 a0 a1 = some r) : V.pleachref26_Out a0 a1 = some r :=
  App.to (App.step 0 (fun v => F.pleachref26_Out.eq (v 0) a0 a1) (by unfold F.pleachref26_Out.B; repeat' first | exact App.val | exact App.no | exact App.lim | exact (App.enter 1 App.lim) | apply App.cond | apply App.guard | apply App.meet | apply App.ite | refine App.bind ?_ fun _ => ?_)) h
noncomputable def F.pleachref26_Same (K : Nat) (a0 : TGraph) (a1 : TGraph) : Option (Bool) := evFn Tryz.prog sg K 12 [.agg [.list sNode a0.1 false, .list sEdge a0.2 false], .agg [.list sNode a1.1 false, .list sEdge a1.2 false]] []
noncomputable def F.pleachref26_Same.at (K : Nat) (p ns : List Nat) (s : St) : Option (Bool) := atFn Tryz.prog sg K 12 0 p ns s
noncomputable def F.pleachref26_Same.in (K : Nat) (H : List Nat → List Nat → St → Option (Bool)) (p ns : List Nat) (s : St) : Option (Bool) := inFn Tryz.prog sg K 12 0 [] H p ns s
theorem F.pleachref26_Same.in_eq K p ns s : F.pleachref26_Same.at K p ns s = F.pleachref26_Same.in K (F.pleachref26_Same.at K) p ns s := atFn_eq (P := Tryz.prog) (sg := sg) (K := K) (f := 12) (m := 0) [] p ns s
theorem F.pleachref26_Same.in_main K a0 a1 : F.pleachref26_Same (K + 1) a0 a1 = F.pleachref26_Same.in K (F.pleachref26_Same.at K) [] [] ⟨slots [.agg [.list sNode a0.1 false, .list sEdge a0.2 false], .agg [.list sNode a1.1 false, .list sEdge a1.2 false]] 0, []⟩ := evFn_eq (P := Tryz.prog) (sg := sg) (K := K) (f := 12) (args := [.agg [.list sNode a0.1 false, .list sEdge a0.2 false], .agg [.list sNode a1.1 false, .list sEdge a1.2 false]]) (σ := []) [] (by kernel_rfl)
def F.pleachref26_Same.l11010.st (a0 : TGraph) (a1 : TGraph) (x0 : Int) : St := ⟨[(2, .one (.sc (.ref 0 0))), (3, .one (.sc (.ref 1 0))), (5, vI x0)], [.cells 25 [.list sNode a0.1 false, .list sEdge a0.2 false], .cells 25 [.list sNode a1.1 false, .list sEdge a1.2 false]]⟩
noncomputable def F.pleachref26_Same.l11010 (K n0 : Nat) (a0 : TGraph) (a1 : TGraph) (x0 : Int) := F.pleachref26_Same.at K [1, 1, 0, 1, 0] [n0] (F.pleachref26_Same.l11010.st a0 a1 x0)
def F.pleachref26_Same.l111010.st (a0 : TGraph) (a1 : TGraph) (x0 : Int) : St := ⟨[(2, .one (.sc (.ref 0 0))), (3, .one (.sc (.ref 1 0))), (6, vI x0)], [.cells 25 [.list sNode a0.1 false, .list sEdge a0.2 false], .cells 25 [.list sNode a1.1 false, .list sEdge a1.2 false]]⟩
noncomputable def F.pleachref26_Same.l111010 (K n0 : Nat) (a0 : TGraph) (a1 : TGraph) (x0 : Int) := F.pleachref26_Same.at K [1, 1, 1, 0, 1, 0] [n0] (F.pleachref26_Same.l111010.st a0 a1 x0)
noncomputable def F.pleachref26_Same.l11010.B (c0 : (TNode) → (TNode) → Option (Bool)) (c1 : (TGraph) → (TGraph) → (Int) → Option (Bool)) (c2 : (TGraph) → (TGraph) → (Int) → Option (Bool)) (a0 : TGraph) (a1 : TGraph) (x0 : Int) : Option (Bool) :=
    (bif (decide (x0 < (a0.1.length : Int))) then (guardK (decide (0 ≤ x0) && decide (x0 < (a0.1.length : Int))) (guardK (decide (0 ≤ x0) && decide (x0 < (a1.1.length : Int))) ((c0 ((rd sNode a0.1 x0.toNat).1, ((rd sNode a0.1 x0.toNat).2).1, ((rd sNode a0.1 x0.toNat).2).2) ((rd sNode a1.1 x0.toNat).1, ((rd sNode a1.1 x0.toNat).2).1, ((rd sNode a1.1 x0.toNat).2).2)).bind fun t0 => (bif (!t0) then (some false) else (c1 a0 a1 (w64 (x0 + 1))))))) else (c2 a0 a1 0))
theorem F.pleachref26_Same.l11010.eq K n0 a0 a1 x0 : F.pleachref26_Same.l11010 K (n0 + 1) a0 a1 x0 = F.pleachref26_Same.l11010.B (F.pleachref25_SameNode K) (F.pleachref26_Same.l11010 K n0) (F.pleachref26_Same.l111010 K K) a0 a1 x0 := (F.pleachref26_Same.in_eq K [1, 1, 0, 1, 0] [n0 + 1] (F.pleachref26_Same.l11010.st a0 a1 x0)).trans ((show ∀ H, F.pleachref26_Same.in K H [1, 1, 0, 1, 0] [n0 + 1] (F.pleachref26_Same.l11010.st a0 a1 x0) = F.pleachref26_Same.l11010.B (F.pleachref25_SameNode K) (fun a0 a1 x0 => H [1, 1, 0, 1, 0] [n0] (F.pleachref26_Same.l11010.st a0 a1 x0)) (fun a0 a1 x0 => H [1, 1, 1, 0, 1, 0] [K] (F.pleachref26_Same.l111010.st a0 a1 x0)) a0 a1 x0 from by intro H; kernel_rfl) (F.pleachref26_Same.at K))
noncomputable def F.pleachref26_Same.l111010.B (c0 : (TEdge) → (TEdge) → Option (Bool)) (c1 : (TGraph) → (TGraph) → (Int) → Option (Bool)) (a0 : TGraph) (a1 : TGraph) (x0 : Int) : Option (Bool) :=
    (bif (decide (x0 < (a0.2.length : Int))) then (guardK (decide (0 ≤ x0) && decide (x0 < (a0.2.length : Int))) (guardK (decide (0 ≤ x0) && decide (x0 < (a1.2.length : Int))) ((c0 ((rd sEdge a0.2 x0.toNat).1, ((rd sEdge a0.2 x0.toNat).2).1, (((rd sEdge a0.2 x0.toNat).2).2).1, ((((rd sEdge a0.2 x0.toNat).2).2).2).1, ((((rd sEdge a0.2 x0.toNat).2).2).2).2) ((rd sEdge a1.2 x0.toNat).1, ((rd sEdge a1.2 x0.toNat).2).1, (((rd sEdge a1.2 x0.toNat).2).2).1, ((((rd sEdge a1.2 x0.toNat).2).2).2).1, ((((rd sEdge a1.2 x0.toNat).2).2).2).2)).bind fun t1 => (bif (!t1) then (some false) else (c1 a0 a1 (w64 (x0 + 1))))))) else (some true))
theorem F.pleachref26_Same.l111010.eq K n0 a0 a1 x0 : F.pleachref26_Same.l111010 K (n0 + 1) a0 a1 x0 = F.pleachref26_Same.l111010.B (F.pleachref25_SameEdge K) (F.pleachref26_Same.l111010 K n0) a0 a1 x0 := (F.pleachref26_Same.in_eq K [1, 1, 1, 0, 1, 0] [n0 + 1] (F.pleachref26_Same.l111010.st a0 a1 x0)).trans ((show ∀ H, F.pleachref26_Same.in K H [1, 1, 1, 0, 1, 0] [n0 + 1] (F.pleachref26_Same.l111010.st a0 a1 x0) = F.pleachref26_Same.l111010.B (F.pleachref25_SameEdge K) (fun a0 a1 x0 => H [1, 1, 1, 0, 1, 0] [n0] (F.pleachref26_Same.l111010.st a0 a1 x0)) a0 a1 x0 from by intro H; kernel_rfl) (F.pleachref26_Same.at K))
noncomputable def F.pleachref26_Same.B (c0 : (TGraph) → (TGraph) → (Int) → Option (Bool)) (a0 : TGraph) (a1 : TGraph) : Option (Bool) :=
    (bif ((a0.1.length : Int) != (a1.1.length : Int)) then (some false) else (bif ((a0.2.length : Int) != (a1.2.length : Int)) then (some false) else (c0 a0 a1 0)))
theorem F.pleachref26_Same.eq K a0 a1 : F.pleachref26_Same (K + 1) a0 a1 = F.pleachref26_Same.B (F.pleachref26_Same.l11010 K K) a0 a1 := (F.pleachref26_Same.in_main K a0 a1).trans ((show ∀ H, F.pleachref26_Same.in K H [] [] ⟨slots [.agg [.list sNode a0.1 false, .list sEdge a0.2 false], .agg [.list sNode a1.1 false, .list sEdge a1.2 false]] 0, []⟩ = F.pleachref26_Same.B (fun a0 a1 x0 => H [1, 1, 0, 1, 0] [K] (F.pleachref26_Same.l11010.st a0 a1 x0)) a0 a1 from by intro H; kernel_rfl) (F.pleachref26_Same.at K))
noncomputable def V.pleachref26_Same.l11010 (a0 : TGraph) (a1 : TGraph) (x0 : Int) := lim fun v => F.pleachref26_Same.l11010 (v 0) (v 1) a0 a1 x0
noncomputable def V.pleachref26_Same.l111010 (a0 : TGraph) (a1 : TGraph) (x0 : Int) := lim fun v => F.pleachref26_Same.l111010 (v 0) (v 1) a0 a1 x0
noncomputable def V.pleachref26_Same (a0 : TGraph) (a1 : TGraph) := lim fun v => F.pleachref26_Same (v 0) a0 a1
theorem V.pleachref26_Same.l11010.of a0 a1 x0 {r} (h : F.pleachref26_Same.l11010.B V.pleachref25_SameNode V.pleachref26_Same.l11010 V.pleachref26_Same.l111010 a0 a1 x0 = some r) : V.pleachref26_Same.l11010 a0 a1 x0 = some r :=
  App.to (App.step 1 (fun v => F.pleachref26_Same.l11010.eq (v 0) (v 1) a0 a1 x0) (by unfold F.pleachref26_Same.l11010.B; repeat' first | exact App.val | exact App.no | exact App.lim | exact (App.enter 1 App.lim) | apply App.cond | apply App.guard | apply App.meet | apply App.ite | refine App.bind ?_ fun _ => ?_)) h
theorem V.pleachref26_Same.l111010.of a0 a1 x0 {r} (h : F.pleachref26_Same.l111010.B V.pleachref25_SameEdge V.pleachref26_Same.l111010 a0 a1 x0 = some r) : V.pleachref26_Same.l111010 a0 a1 x0 = some r :=
  App.to (App.step 1 (fun v => F.pleachref26_Same.l111010.eq (v 0) (v 1) a0 a1 x0) (by unfold F.pleachref26_Same.l111010.B; repeat' first | exact App.val | exact App.no | exact App.lim | apply App.cond | apply App.guard | apply App.meet | apply App.ite | refine App.bind ?_ fun _ => ?_)) h
theorem V.pleachref26_Same.of a0 a1 {r} (h : F.pleachref26_Same.B V.pleachref26_Same.l11010 a0 a1 = some r) : V.pleachref26_Same a0 a1 = some r :=
  App.to (App.step 0 (fun v => F.pleachref26_Same.eq (v 0) a0 a1) (by unfold F.pleachref26_Same.B; repeat' first | exact App.val | exact App.no | exact App.lim | exact (App.enter 1 App.lim) | apply App.cond | apply App.guard | apply App.meet | apply App.ite | refine App.bind ?_ fun _ => ?_)) h
noncomputable def F.pleachlaw26_sameEdges (K : Nat) (a0 : List TEdge) (a1 : List TEdge) : Option (Bool) := evFn Tryz.prog sg K 20 [.sc (.list sEdge a0 false), .sc (.list sEdge a1 false)] []
noncomputable def F.pleachlaw26_sameEdges.B (c0 : (TGraph) → (TGraph) → Option (Bool)) (a0 : List TEdge) (a1 : List TEdge) : Option (Bool) :=
    ((c0 ([], a0) ([], a1)).bind fun t0 => (some t0))
theorem F.pleachlaw26_sameEdges.eq K a0 a1 : F.pleachlaw26_sameEdges (K + 1) a0 a1 = F.pleachlaw26_sameEdges.B (F.pleachref26_Same K) a0 a1 := by kernel_rfl
noncomputable def V.pleachlaw26_sameEdges (a0 : List TEdge) (a1 : List TEdge) := lim fun v => F.pleachlaw26_sameEdges (v 0) a0 a1
theorem V.pleachlaw26_sameEdges.of a0 a1 {r} (h : F.pleachlaw26_sameEdges.B V.pleachref26_Same a0 a1 = some r) : V.pleachlaw26_sameEdges a0 a1 = some r :=
  App.to (App.step 0 (fun v => F.pleachlaw26_sameEdges.eq (v 0) a0 a1) (by unfold F.pleachlaw26_sameEdges.B; repeat' first | exact App.val | exact App.no | exact App.lim | apply App.cond | apply App.guard | apply App.meet | apply App.ite | refine App.bind ?_ fun _ => ?_)) h
noncomputable def F.graph_In_1 (K : Nat) (a0 : TEdge) (a1 : ByteArray) : Option (Bool × ByteArray) := evFn Tryz.prog sg K 48 [.agg [.val (.string a0.1), .val (.string a0.2.1), .val (.string a0.2.2.1), .list .str a0.2.2.2.1 false, .list sProp a0.2.2.2.2 false], .sc (.ref 0 0)] [.cells 9 [.val (.string a1)]]
noncomputable def F.graph_In_1.B (a0 : TEdge) (a1 : ByteArray) : Option (Bool × ByteArray) :=
    (some ((strEq a0.2.2.1 a1), a1))
theorem F.graph_In_1.eq K a0 a1 : F.graph_In_1 (K + 1) a0 a1 = F.graph_In_1.B a0 a1 := by kernel_rfl
noncomputable def V.graph_In_1 (a0 : TEdge) (a1 : ByteArray) := lim fun v => F.graph_In_1 (v 0) a0 a1
theorem V.graph_In_1.of a0 a1 {r} (h : F.graph_In_1.B a0 a1 = some r) : V.graph_In_1 a0 a1 = some r :=
  App.to (App.step 0 (fun v => F.graph_In_1.eq (v 0) a0 a1) (by unfold F.graph_In_1.B; repeat' first | exact App.val | exact App.no | exact App.lim | apply App.cond | apply App.guard | apply App.meet | apply App.ite | refine App.bind ?_ fun _ => ?_)) h
noncomputable def F.graph_some_by_graph_In_1 (K : Nat) (a0 : TGraph) (a1_0 : ByteArray) : Option ((List TEdge) × ByteArray) := evFn Tryz.prog sg K 46 [.agg [.list sNode a0.1 false, .list sEdge a0.2 false], .sc (.fn 48 [.ref 0 0])] [.cells 9 [.val (.string a1_0)]]
noncomputable def F.graph_some_by_graph_In_1.at (K : Nat) (p ns : List Nat) (s : St) : Option ((List TEdge) × ByteArray) := atFn Tryz.prog sg K 46 1 p ns s
noncomputable def F.graph_some_by_graph_In_1.in (K : Nat) (H : List Nat → List Nat → St → Option ((List TEdge) × ByteArray)) (p ns : List Nat) (s : St) : Option ((List TEdge) × ByteArray) := inFn Tryz.prog sg K 46 1 [] H p ns s
theorem F.graph_some_by_graph_In_1.in_eq K p ns s : F.graph_some_by_graph_In_1.at K p ns s = F.graph_some_by_graph_In_1.in K (F.graph_some_by_graph_In_1.at K) p ns s := atFn_eq (P := Tryz.prog) (sg := sg) (K := K) (f := 46) (m := 1) [] p ns s
theorem F.graph_some_by_graph_In_1.in_main K a0 a1_0 : F.graph_some_by_graph_In_1 (K + 1) a0 a1_0 = F.graph_some_by_graph_In_1.in K (F.graph_some_by_graph_In_1.at K) [] [] ⟨slots [.agg [.list sNode a0.1 false, .list sEdge a0.2 false], .sc (.fn 48 [.ref 0 0])] 0, [.cells 9 [.val (.string a1_0)]]⟩ := evFn_eq (P := Tryz.prog) (sg := sg) (K := K) (f := 46) (args := [.agg [.list sNode a0.1 false, .list sEdge a0.2 false], .sc (.fn 48 [.ref 0 0])]) (σ := [.cells 9 [.val (.string a1_0)]]) [] (by kernel_rfl)
def F.graph_some_by_graph_In_1.l11010.st (a0 : TGraph) (a1_0 : ByteArray) (x0 : Int) (x1 : ByteArray) (x2 : List TEdge) : St := ⟨[(1, .one (.sc (.fn 48 [.ref 0 0]))), (5, .one (.sc (.own 1 none))), (9, vL sEdge a0.2), (10, vI (a0.2.length : Int)), (11, vI x0)], [.cells 9 [.val (.string x1)], .elems sEdge x2]⟩
noncomputable def F.graph_some_by_graph_In_1.l11010 (K n0 : Nat) (a0 : TGraph) (a1_0 : ByteArray) (x0 : Int) (x1 : ByteArray) (x2 : List TEdge) := F.graph_some_by_graph_In_1.at K [1, 1, 0, 1, 0] [n0] (F.graph_some_by_graph_In_1.l11010.st a0 a1_0 x0 x1 x2)
noncomputable def F.graph_some_by_graph_In_1.l11010.B (c0 : (TEdge) → (ByteArray) → Option (Bool × ByteArray)) (c1 : (TGraph) → (ByteArray) → (Int) → (ByteArray) → (List TEdge) → Option ((List TEdge) × ByteArray)) (c2 : (TGraph) → Option (TGraph)) (a0 : TGraph) (a1_0 : ByteArray) (x0 : Int) (x1 : ByteArray) (x2 : List TEdge) : Option ((List TEdge) × ByteArray) :=
    (bif (decide (x0 < (a0.2.length : Int))) then (guardK (decide (0 ≤ x0) && decide (x0 < (a0.2.length : Int))) ((c0 ((rd sEdge a0.2 x0.toNat).1, ((rd sEdge a0.2 x0.toNat).2).1, (((rd sEdge a0.2 x0.toNat).2).2).1, ((((rd sEdge a0.2 x0.toNat).2).2).2).1, ((((rd sEdge a0.2 x0.toNat).2).2).2).2) x1).bind fun t0 => (bif t0.1 then (guardK (decide (x2.length + ([((rd sEdge a0.2 x0.toNat).1, ((rd sEdge a0.2 x0.toNat).2).1, (((rd sEdge a0.2 x0.toNat).2).2).1, ((((rd sEdge a0.2 x0.toNat).2).2).2).1, ((((rd sEdge a0.2 x0.toNat).2).2).2).2)]).length ≤ nmax)) (c1 a0 a1_0 (w64 (x0 + 1)) t0.2 (x2 ++ [((rd sEdge a0.2 x0.toNat).1, ((rd sEdge a0.2 x0.toNat).2).1, (((rd sEdge a0.2 x0.toNat).2).2).1, ((((rd sEdge a0.2 x0.toNat).2).2).2).1, ((((rd sEdge a0.2 x0.toNat).2).2).2).2)]))) else (c1 a0 a1_0 (w64 (x0 + 1)) t0.2 x2)))) else ((c2 ([], x2)).bind fun t1 => (some (t1.2, x1))))
theorem F.graph_some_by_graph_In_1.l11010.eq K n0 a0 a1_0 x0 x1 x2 : F.graph_some_by_graph_In_1.l11010 K (n0 + 1) a0 a1_0 x0 x1 x2 = F.graph_some_by_graph_In_1.l11010.B (F.graph_In_1 K) (F.graph_some_by_graph_In_1.l11010 K n0) (F.graph_Copy K) a0 a1_0 x0 x1 x2 := (F.graph_some_by_graph_In_1.in_eq K [1, 1, 0, 1, 0] [n0 + 1] (F.graph_some_by_graph_In_1.l11010.st a0 a1_0 x0 x1 x2)).trans ((show ∀ H, F.graph_some_by_graph_In_1.in K H [1, 1, 0, 1, 0] [n0 + 1] (F.graph_some_by_graph_In_1.l11010.st a0 a1_0 x0 x1 x2) = F.graph_some_by_graph_In_1.l11010.B (F.graph_In_1 K) (fun a0 a1_0 x0 x1 x2 => H [1, 1, 0, 1, 0] [n0] (F.graph_some_by_graph_In_1.l11010.st a0 a1_0 x0 x1 x2)) (F.graph_Copy K) a0 a1_0 x0 x1 x2 from by intro H; kernel_rfl) (F.graph_some_by_graph_In_1.at K))
noncomputable def F.graph_some_by_graph_In_1.B (c0 : (TGraph) → (ByteArray) → (Int) → (ByteArray) → (List TEdge) → Option ((List TEdge) × ByteArray)) (a0 : TGraph) (a1_0 : ByteArray) : Option ((List TEdge) × ByteArray) :=
    (c0 a0 a1_0 0 a1_0 ([]))
theorem F.graph_some_by_graph_In_1.eq K a0 a1_0 : F.graph_some_by_graph_In_1 (K + 1) a0 a1_0 = F.graph_some_by_graph_In_1.B (F.graph_some_by_graph_In_1.l11010 K K) a0 a1_0 := (F.graph_some_by_graph_In_1.in_main K a0 a1_0).trans ((show ∀ H, F.graph_some_by_graph_In_1.in K H [] [] ⟨slots [.agg [.list sNode a0.1 false, .list sEdge a0.2 false], .sc (.fn 48 [.ref 0 0])] 0, [.cells 9 [.val (.string a1_0)]]⟩ = F.graph_some_by_graph_In_1.B (fun a0 a1_0 x0 x1 x2 => H [1, 1, 0, 1, 0] [K] (F.graph_some_by_graph_In_1.l11010.st a0 a1_0 x0 x1 x2)) a0 a1_0 from by intro H; kernel_rfl) (F.graph_some_by_graph_In_1.at K))
noncomputable def V.graph_some_by_graph_In_1.l11010 (a0 : TGraph) (a1_0 : ByteArray) (x0 : Int) (x1 : ByteArray) (x2 : List TEdge) := lim fun v => F.graph_some_by_graph_In_1.l11010 (v 0) (v 1) a0 a1_0 x0 x1 x2
noncomputable def V.graph_some_by_graph_In_1 (a0 : TGraph) (a1_0 : ByteArray) := lim fun v => F.graph_some_by_graph_In_1 (v 0) a0 a1_0
theorem V.graph_some_by_graph_In_1.l11010.of a0 a1_0 x0 x1 x2 {r} (h : F.graph_some_by_graph_In_1.l11010.B V.graph_In_1 V.graph_some_by_graph_In_1.l11010 V.graph_Copy a0 a1_0 x0 x1 x2 = some r) : V.graph_some_by_graph_In_1.l11010 a0 a1_0 x0 x1 x2 = some r :=
  App.to (App.step 1 (fun v => F.graph_some_by_graph_In_1.l11010.eq (v 0) (v 1) a0 a1_0 x0 x1 x2) (by unfold F.graph_some_by_graph_In_1.l11010.B; repeat' first | exact App.val | exact App.no | exact App.lim | apply App.cond | apply App.guard | apply App.meet | apply App.ite | refine App.bind ?_ fun _ => ?_)) h
theorem V.graph_some_by_graph_In_1.of a0 a1_0 {r} (h : F.graph_some_by_graph_In_1.B V.graph_some_by_graph_In_1.l11010 a0 a1_0 = some r) : V.graph_some_by_graph_In_1 a0 a1_0 = some r :=
  App.to (App.step 0 (fun v => F.graph_some_by_graph_In_1.eq (v 0) a0 a1_0) (by unfold F.graph_some_by_graph_In_1.B; repeat' first | exact App.val | exact App.no | exact App.lim | exact (App.enter 1 App.lim) | apply App.cond | apply App.guard | apply App.meet | apply App.ite | refine App.bind ?_ fun _ => ?_)) h
noncomputable def F.graph_In (K : Nat) (a0 : TGraph) (a1 : ByteArray) : Option ((List TEdge)) := evFn Tryz.prog sg K 23 [.agg [.list sNode a0.1 false, .list sEdge a0.2 false], .sc (.val (.string a1))] []
noncomputable def F.graph_In.B (c0 : (TGraph) → (ByteArray) → Option ((List TEdge) × ByteArray)) (a0 : TGraph) (a1 : ByteArray) : Option ((List TEdge)) :=
    ((c0 (a0.1, a0.2) a1).bind fun t0 => (some t0.1))
theorem F.graph_In.eq K a0 a1 : F.graph_In (K + 1) a0 a1 = F.graph_In.B (F.graph_some_by_graph_In_1 K) a0 a1 := by kernel_rfl
noncomputable def V.graph_In (a0 : TGraph) (a1 : ByteArray) := lim fun v => F.graph_In (v 0) a0 a1
theorem V.graph_In.of a0 a1 {r} (h : F.graph_In.B V.graph_some_by_graph_In_1 a0 a1 = some r) : V.graph_In a0 a1 = some r :=
  App.to (App.step 0 (fun v => F.graph_In.eq (v 0) a0 a1) (by unfold F.graph_In.B; repeat' first | exact App.val | exact App.no | exact App.lim | apply App.cond | apply App.guard | apply App.meet | apply App.ite | refine App.bind ?_ fun _ => ?_)) h
noncomputable def F.pleachref26_In (K : Nat) (a0 : TGraph) (a1 : ByteArray) : Option ((List TEdge)) := evFn Tryz.prog sg K 24 [.agg [.list sNode a0.1 false, .list sEdge a0.2 false], .sc (.val (.string a1))] []
noncomputable def F.pleachref26_In.at (K : Nat) (p ns : List Nat) (s : St) : Option ((List TEdge)) := atFn Tryz.prog sg K 24 0 p ns s
noncomputable def F.pleachref26_In.in (K : Nat) (H : List Nat → List Nat → St → Option ((List TEdge))) (p ns : List Nat) (s : St) : Option ((List TEdge)) := inFn Tryz.prog sg K 24 0 [] H p ns s
theorem F.pleachref26_In.in_eq K p ns s : F.pleachref26_In.at K p ns s = F.pleachref26_In.in K (F.pleachref26_In.at K) p ns s := atFn_eq (P := Tryz.prog) (sg := sg) (K := K) (f := 24) (m := 0) [] p ns s
theorem F.pleachref26_In.in_main K a0 a1 : F.pleachref26_In (K + 1) a0 a1 = F.pleachref26_In.in K (F.pleachref26_In.at K) [] [] ⟨slots [.agg [.list sNode a0.1 false, .list sEdge a0.2 false], .sc (.val (.string a1))] 0, []⟩ := evFn_eq (P := Tryz.prog) (sg := sg) (K := K) (f := 24) (args := [.agg [.list sNode a0.1 false, .list sEdge a0.2 false], .sc (.val (.string a1))]) (σ := []) [] (by kernel_rfl)
def F.pleachref26_In.l11010.st (a0 : TGraph) (a1 : ByteArray) (x0 : Int) (x1 : List TEdge) : St := ⟨[(1, vS a1), (2, .one (.sc (.ref 0 0))), (5, .one (.sc (.own 1 none))), (6, vI x0)], [.cells 25 [.list sNode a0.1 false, .list sEdge a0.2 false], .elems sEdge x1]⟩
noncomputable def F.pleachref26_In.l11010 (K n0 : Nat) (a0 : TGraph) (a1 : ByteArray) (x0 : Int) (x1 : List TEdge) := F.pleachref26_In.at K [1, 1, 0, 1, 0] [n0] (F.pleachref26_In.l11010.st a0 a1 x0 x1)
noncomputable def F.pleachref26_In.l11010.B (c0 : (TGraph) → (ByteArray) → (Int) → (List TEdge) → Option ((List TEdge))) (a0 : TGraph) (a1 : ByteArray) (x0 : Int) (x1 : List TEdge) : Option ((List TEdge)) :=
    (bif (decide (x0 < (a0.2.length : Int))) then (guardK (decide (0 ≤ x0) && decide (x0 < (a0.2.length : Int))) (bif (strEq ((((rd sEdge a0.2 x0.toNat).2).2).1) a1) then (guardK (decide (0 ≤ x0) && decide (x0 < (a0.2.length : Int))) (guardK (decide (x1.length + ([((rd sEdge a0.2 x0.toNat).1, ((rd sEdge a0.2 x0.toNat).2).1, (((rd sEdge a0.2 x0.toNat).2).2).1, ((((rd sEdge a0.2 x0.toNat).2).2).2).1, ((((rd sEdge a0.2 x0.toNat).2).2).2).2)]).length ≤ nmax)) (c0 a0 a1 (w64 (x0 + 1)) (x1 ++ [((rd sEdge a0.2 x0.toNat).1, ((rd sEdge a0.2 x0.toNat).2).1, (((rd sEdge a0.2 x0.toNat).2).2).1, ((((rd sEdge a0.2 x0.toNat).2).2).2).1, ((((rd sEdge a0.2 x0.toNat).2).2).2).2)])))) else (c0 a0 a1 (w64 (x0 + 1)) x1))) else (some x1))
theorem F.pleachref26_In.l11010.eq K n0 a0 a1 x0 x1 : F.pleachref26_In.l11010 K (n0 + 1) a0 a1 x0 x1 = F.pleachref26_In.l11010.B (F.pleachref26_In.l11010 K n0) a0 a1 x0 x1 := (F.pleachref26_In.in_eq K [1, 1, 0, 1, 0] [n0 + 1] (F.pleachref26_In.l11010.st a0 a1 x0 x1)).trans ((show ∀ H, F.pleachref26_In.in K H [1, 1, 0, 1, 0] [n0 + 1] (F.pleachref26_In.l11010.st a0 a1 x0 x1) = F.pleachref26_In.l11010.B (fun a0 a1 x0 x1 => H [1, 1, 0, 1, 0] [n0] (F.pleachref26_In.l11010.st a0 a1 x0 x1)) a0 a1 x0 x1 from by intro H; kernel_rfl) (F.pleachref26_In.at K))
noncomputable def F.pleachref26_In.B (c0 : (TGraph) → (ByteArray) → (Int) → (List TEdge) → Option ((List TEdge))) (a0 : TGraph) (a1 : ByteArray) : Option ((List TEdge)) :=
    (c0 a0 a1 0 ([]))
theorem F.pleachref26_In.eq K a0 a1 : F.pleachref26_In (K + 1) a0 a1 = F.pleachref26_In.B (F.pleachref26_In.l11010 K K) a0 a1 := (F.pleachref26_In.in_main K a0 a1).trans ((show ∀ H, F.pleachref26_In.in K H [] [] ⟨slots [.agg [.list sNode a0.1 false, .list sEdge a0.2 false], .sc (.val (.string a1))] 0, []⟩ = F.pleachref26_In.B (fun a0 a1 x0 x1 => H [1, 1, 0, 1, 0] [K] (F.pleachref26_In.l11010.st a0 a1 x0 x1)) a0 a1 from by intro H; kernel_rfl) (F.pleachref26_In.at K))
noncomputable def V.pleachref26_In.l11010 (a0 : TGraph) (a1 : ByteArray) (x0 : Int) (x1 : List TEdge) := lim fun v => F.pleachref26_In.l11010 (v 0) (v 1) a0 a1 x0 x1
noncomputable def V.pleachref26_In (a0 : TGraph) (a1 : ByteArray) := lim fun v => F.pleachref26_In (v 0) a0 a1
theorem V.pleachref26_In.l11010.of a0 a1 x0 x1 {r} (h : F.pleachref26_In.l11010.B V.pleachref26_In.l11010 a0 a1 x0 x1 = some r) : V.pleachref26_In.l11010 a0 a1 x0 x1 = some r :=
  App.to (App.step 1 (fun v => F.pleachref26_In.l11010.eq (v 0) (v 1) a0 a1 x0 x1) (by unfold F.pleachref26_In.l11010.B; repeat' first | exact App.val | exact App.no | exact App.lim | apply App.cond | apply App.guard | apply App.meet | apply App.ite | refine App.bind ?_ fun _ => ?_)) h
theorem V.pleachref26_In.of a0 a1 {r} (h : F.pleachref26_In.B V.pleachref26_In.l11010 a0 a1 = some r) : V.pleachref26_In a0 a1 = some r :=
  App.to (App.step 0 (fun v => F.pleachref26_In.eq (v 0) a0 a1) (by unfold F.pleachref26_In.B; repeat' first | exact App.val | exact App.no | exact App.lim | exact (App.enter 1 App.lim) | apply App.cond | apply App.guard | apply App.meet | apply App.ite | refine App.bind ?_ fun _ => ?_)) h
noncomputable def F.graph_Labelled (K : Nat) (a0 : TGraph) (a1 : ByteArray) : Option ((List TNode)) := evFn Tryz.prog sg K 26 [.agg [.list sNode a0.1 false, .list sEdge a0.2 false], .sc (.val (.string a1))] []
noncomputable def F.graph_Labelled.at (K : Nat) (p ns : List Nat) (s : St) : Option ((List TNode)) := atFn Tryz.prog sg K 26 0 p ns s
noncomputable def F.graph_Labelled.in (K : Nat) (H : List Nat → List Nat → St → Option ((List TNode))) (p ns : List Nat) (s : St) : Option ((List TNode)) := inFn Tryz.prog sg K 26 0 [] H p ns s
theorem F.graph_Labelled.in_eq K p ns s : F.graph_Labelled.at K p ns s = F.graph_Labelled.in K (F.graph_Labelled.at K) p ns s := atFn_eq (P := Tryz.prog) (sg := sg) (K := K) (f := 26) (m := 0) [] p ns s
theorem F.graph_Labelled.in_main K a0 a1 : F.graph_Labelled (K + 1) a0 a1 = F.graph_Labelled.in K (F.graph_Labelled.at K) [] [] ⟨slots [.agg [.list sNode a0.1 false, .list sEdge a0.2 false], .sc (.val (.string a1))] 0, []⟩ := evFn_eq (P := Tryz.prog) (sg := sg) (K := K) (f := 26) (args := [.agg [.list sNode a0.1 false, .list sEdge a0.2 false], .sc (.val (.string a1))]) (σ := []) [] (by kernel_rfl)
def F.graph_Labelled.l11010.st (a0 : TGraph) (a1 : ByteArray) (x0 : Int) (x1 : List TNode) : St := ⟨[(1, vS a1), (5, .one (.sc (.own 0 none))), (11, vL sNode a0.1), (12, vI (a0.1.length : Int)), (13, vI x0)], [.elems sNode x1]⟩
noncomputable def F.graph_Labelled.l11010 (K n0 : Nat) (a0 : TGraph) (a1 : ByteArray) (x0 : Int) (x1 : List TNode) := F.graph_Labelled.at K [1, 1, 0, 1, 0] [n0] (F.graph_Labelled.l11010.st a0 a1 x0 x1)
noncomputable def F.graph_Labelled.l11010.B (c0 : (List ByteArray) → (ByteArray) → Option (Int × Bool)) (c1 : (TGraph) → (ByteArray) → (Int) → (List TNode) → Option ((List TNode))) (c2 : (TGraph) → Option (TGraph)) (a0 : TGraph) (a1 : ByteArray) (x0 : Int) (x1 : List TNode) : Option ((List TNode)) :=
    (bif (decide (x0 < (a0.1.length : Int))) then (guardK (decide (0 ≤ x0) && decide (x0 < (a0.1.length : Int))) ((c0 (((rd sNode a0.1 x0.toNat).2).1) a1).bind fun t0 => (bif t0.2 then (guardK (decide (x1.length + ([((rd sNode a0.1 x0.toNat).1, ((rd sNode a0.1 x0.toNat).2).1, ((rd sNode a0.1 x0.toNat).2).2)]).length ≤ nmax)) (c1 a0 a1 (w64 (x0 + 1)) (x1 ++ [((rd sNode a0.1 x0.toNat).1, ((rd sNode a0.1 x0.toNat).2).1, ((rd sNode a0.1 x0.toNat).2).2)]))) else (c1 a0 a1 (w64 (x0 + 1)) x1)))) else ((c2 (x1, [])).bind fun t1 => (some t1.1)))
theorem F.graph_Labelled.l11010.eq K n0 a0 a1 x0 x1 : F.graph_Labelled.l11010 K (n0 + 1) a0 a1 x0 x1 = F.graph_Labelled.l11010.B (F.name_Find K) (F.graph_Labelled.l11010 K n0) (F.graph_Copy K) a0 a1 x0 x1 := (F.graph_Labelled.in_eq K [1, 1, 0, 1, 0] [n0 + 1] (F.graph_Labelled.l11010.st a0 a1 x0 x1)).trans ((show ∀ H, F.graph_Labelled.in K H [1, 1, 0, 1, 0] [n0 + 1] (F.graph_Labelled.l11010.st a0 a1 x0 x1) = F.graph_Labelled.l11010.B (F.name_Find K) (fun a0 a1 x0 x1 => H [1, 1, 0, 1, 0] [n0] (F.graph_Labelled.l11010.st a0 a1 x0 x1)) (F.graph_Copy K) a0 a1 x0 x1 from by intro H; kernel_rfl) (F.graph_Labelled.at K))
noncomputable def F.graph_Labelled.B (c0 : (TGraph) → (ByteArray) → (Int) → (List TNode) → Option ((List TNode))) (a0 : TGraph) (a1 : ByteArray) : Option ((List TNode)) :=
    (c0 a0 a1 0 ([]))
theorem F.graph_Labelled.eq K a0 a1 : F.graph_Labelled (K + 1) a0 a1 = F.graph_Labelled.B (F.graph_Labelled.l11010 K K) a0 a1 := (F.graph_Labelled.in_main K a0 a1).trans ((show ∀ H, F.graph_Labelled.in K H [] [] ⟨slots [.agg [.list sNode a0.1 false, .list sEdge a0.2 false], .sc (.val (.string a1))] 0, []⟩ = F.graph_Labelled.B (fun a0 a1 x0 x1 => H [1, 1, 0, 1, 0] [K] (F.graph_Labelled.l11010.st a0 a1 x0 x1)) a0 a1 from by intro H; kernel_rfl) (F.graph_Labelled.at K))
noncomputable def V.graph_Labelled.l11010 (a0 : TGraph) (a1 : ByteArray) (x0 : Int) (x1 : List TNode) := lim fun v => F.graph_Labelled.l11010 (v 0) (v 1) a0 a1 x0 x1
noncomputable def V.graph_Labelled (a0 : TGraph) (a1 : ByteArray) := lim fun v => F.graph_Labelled (v 0) a0 a1
theorem V.graph_Labelled.l11010.of a0 a1 x0 x1 {r} (h : F.graph_Labelled.l11010.B V.name_Find V.graph_Labelled.l11010 V.graph_Copy a0 a1 x0 x1 = some r) : V.graph_Labelled.l11010 a0 a1 x0 x1 = some r :=
  App.to (App.step 1 (fun v => F.graph_Labelled.l11010.eq (v 0) (v 1) a0 a1 x0 x1) (by unfold F.graph_Labelled.l11010.B; repeat' first | exact App.val | exact App.no | exact App.lim | apply App.cond | apply App.guard | apply App.meet | apply App.ite | refine App.bind ?_ fun _ => ?_)) h
theorem V.graph_Labelled.of a0 a1 {r} (h : F.graph_Labelled.B V.graph_Labelled.l11010 a0 a1 = some r) : V.graph_Labelled a0 a1 = some r :=
  App.to (App.step 0 (fun v => F.graph_Labelled.eq (v 0) a0 a1) (by unfold F.graph_Labelled.B; repeat' first | exact App.val | exact App.no | exact App.lim | exact (App.enter 1 App.lim) | apply App.cond | apply App.guard | apply App.meet | apply App.ite | refine App.bind ?_ fun _ => ?_)) h
noncomputable def F.pleachref05_In (K : Nat) (a0 : List ByteArray) (a1 : ByteArray) : Option (Bool) := evFn Tryz.prog sg K 50 [.sc (.list .str a0 false), .sc (.val (.string a1))] []
noncomputable def F.pleachref05_In.at (K : Nat) (p ns : List Nat) (s : St) : Option (Bool) := atFn Tryz.prog sg K 50 0 p ns s
noncomputable def F.pleachref05_In.in (K : Nat) (H : List Nat → List Nat → St → Option (Bool)) (p ns : List Nat) (s : St) : Option (Bool) := inFn Tryz.prog sg K 50 0 [] H p ns s
theorem F.pleachref05_In.in_eq K p ns s : F.pleachref05_In.at K p ns s = F.pleachref05_In.in K (F.pleachref05_In.at K) p ns s := atFn_eq (P := Tryz.prog) (sg := sg) (K := K) (f := 50) (m := 0) [] p ns s
theorem F.pleachref05_In.in_main K a0 a1 : F.pleachref05_In (K + 1) a0 a1 = F.pleachref05_In.in K (F.pleachref05_In.at K) [] [] ⟨slots [.sc (.list .str a0 false), .sc (.val (.string a1))] 0, []⟩ := evFn_eq (P := Tryz.prog) (sg := sg) (K := K) (f := 50) (args := [.sc (.list .str a0 false), .sc (.val (.string a1))]) (σ := []) [] (by kernel_rfl)
def F.pleachref05_In.l1010.st (a0 : List ByteArray) (a1 : ByteArray) (x0 : Int) : St := ⟨[(0, vL .str a0), (1, vS a1), (5, vI x0)], []⟩
noncomputable def F.pleachref05_In.l1010 (K n0 : Nat) (a0 : List ByteArray) (a1 : ByteArray) (x0 : Int) := F.pleachref05_In.at K [1, 0, 1, 0] [n0] (F.pleachref05_In.l1010.st a0 a1 x0)
noncomputable def F.pleachref05_In.l1010.B (c0 : (List ByteArray) → (ByteArray) → (Int) → Option (Bool)) (a0 : List ByteArray) (a1 : ByteArray) (x0 : Int) : Option (Bool) :=
    (bif (decide (x0 < (a0.length : Int))) then (guardK (decide (0 ≤ x0) && decide (x0 < (a0.length : Int))) (bif (strEq (rd .str a0 x0.toNat) a1) then (some true) else (c0 a0 a1 (w64 (x0 + 1))))) else (some false))
theorem F.pleachref05_In.l1010.eq K n0 a0 a1 x0 : F.pleachref05_In.l1010 K (n0 + 1) a0 a1 x0 = F.pleachref05_In.l1010.B (F.pleachref05_In.l1010 K n0) a0 a1 x0 := (F.pleachref05_In.in_eq K [1, 0, 1, 0] [n0 + 1] (F.pleachref05_In.l1010.st a0 a1 x0)).trans ((show ∀ H, F.pleachref05_In.in K H [1, 0, 1, 0] [n0 + 1] (F.pleachref05_In.l1010.st a0 a1 x0) = F.pleachref05_In.l1010.B (fun a0 a1 x0 => H [1, 0, 1, 0] [n0] (F.pleachref05_In.l1010.st a0 a1 x0)) a0 a1 x0 from by intro H; kernel_rfl) (F.pleachref05_In.at K))
noncomputable def F.pleachref05_In.B (c0 : (List ByteArray) → (ByteArray) → (Int) → Option (Bool)) (a0 : List ByteArray) (a1 : ByteArray) : Option (Bool) :=
    (c0 a0 a1 0)
theorem F.pleachref05_In.eq K a0 a1 : F.pleachref05_In (K + 1) a0 a1 = F.pleachref05_In.B (F.pleachref05_In.l1010 K K) a0 a1 := (F.pleachref05_In.in_main K a0 a1).trans ((show ∀ H, F.pleachref05_In.in K H [] [] ⟨slots [.sc (.list .str a0 false), .sc (.val (.string a1))] 0, []⟩ = F.pleachref05_In.B (fun a0 a1 x0 => H [1, 0, 1, 0] [K] (F.pleachref05_In.l1010.st a0 a1 x0)) a0 a1 from by intro H; kernel_rfl) (F.pleachref05_In.at K))
noncomputable def V.pleachref05_In.l1010 (a0 : List ByteArray) (a1 : ByteArray) (x0 : Int) := lim fun v => F.pleachref05_In.l1010 (v 0) (v 1) a0 a1 x0
noncomputable def V.pleachref05_In (a0 : List ByteArray) (a1 : ByteArray) := lim fun v => F.pleachref05_In (v 0) a0 a1
theorem V.pleachref05_In.l1010.of a0 a1 x0 {r} (h : F.pleachref05_In.l1010.B V.pleachref05_In.l1010 a0 a1 x0 = some r) : V.pleachref05_In.l1010 a0 a1 x0 = some r :=
  App.to (App.step 1 (fun v => F.pleachref05_In.l1010.eq (v 0) (v 1) a0 a1 x0) (by unfold F.pleachref05_In.l1010.B; repeat' first | exact App.val | exact App.no | exact App.lim | apply App.cond | apply App.guard | apply App.meet | apply App.ite | refine App.bind ?_ fun _ => ?_)) h
theorem V.pleachref05_In.of a0 a1 {r} (h : F.pleachref05_In.B V.pleachref05_In.l1010 a0 a1 = some r) : V.pleachref05_In a0 a1 = some r :=
  App.to (App.step 0 (fun v => F.pleachref05_In.eq (v 0) a0 a1) (by unfold F.pleachref05_In.B; repeat' first | exact App.val | exact App.no | exact App.lim | exact (App.enter 1 App.lim) | apply App.cond | apply App.guard | apply App.meet | apply App.ite | refine App.bind ?_ fun _ => ?_)) h
noncomputable def F.pleachref26_Labelled (K : Nat) (a0 : TGraph) (a1 : ByteArray) : Option ((List TNode)) := evFn Tryz.prog sg K 27 [.agg [.list sNode a0.1 false, .list sEdge a0.2 false], .sc (.val (.string a1))] []
noncomputable def F.pleachref26_Labelled.at (K : Nat) (p ns : List Nat) (s : St) : Option ((List TNode)) := atFn Tryz.prog sg K 27 0 p ns s
noncomputable def F.pleachref26_Labelled.in (K : Nat) (H : List Nat → List Nat → St → Option ((List TNode))) (p ns : List Nat) (s : St) : Option ((List TNode)) := inFn Tryz.prog sg K 27 0 [] H p ns s
theorem F.pleachref26_Labelled.in_eq K p ns s : F.pleachref26_Labelled.at K p ns s = F.pleachref26_Labelled.in K (F.pleachref26_Labelled.at K) p ns s := atFn_eq (P := Tryz.prog) (sg := sg) (K := K) (f := 27) (m := 0) [] p ns s
theorem F.pleachref26_Labelled.in_main K a0 a1 : F.pleachref26_Labelled (K + 1) a0 a1 = F.pleachref26_Labelled.in K (F.pleachref26_Labelled.at K) [] [] ⟨slots [.agg [.list sNode a0.1 false, .list sEdge a0.2 false], .sc (.val (.string a1))] 0, []⟩ := evFn_eq (P := Tryz.prog) (sg := sg) (K := K) (f := 27) (args := [.agg [.list sNode a0.1 false, .list sEdge a0.2 false], .sc (.val (.string a1))]) (σ := []) [] (by kernel_rfl)
def F.pleachref26_Labelled.l11010.st (a0 : TGraph) (a1 : ByteArray) (x0 : Int) (x1 : List TNode) : St := ⟨[(1, vS a1), (2, .one (.sc (.ref 0 0))), (5, .one (.sc (.own 1 none))), (6, vI x0)], [.cells 25 [.list sNode a0.1 false, .list sEdge a0.2 false], .elems sNode x1]⟩
noncomputable def F.pleachref26_Labelled.l11010 (K n0 : Nat) (a0 : TGraph) (a1 : ByteArray) (x0 : Int) (x1 : List TNode) := F.pleachref26_Labelled.at K [1, 1, 0, 1, 0] [n0] (F.pleachref26_Labelled.l11010.st a0 a1 x0 x1)
noncomputable def F.pleachref26_Labelled.l11010.B (c0 : (List ByteArray) → (ByteArray) → Option (Bool)) (c1 : (TGraph) → (ByteArray) → (Int) → (List TNode) → Option ((List TNode))) (a0 : TGraph) (a1 : ByteArray) (x0 : Int) (x1 : List TNode) : Option ((List TNode)) :=
    (bif (decide (x0 < (a0.1.length : Int))) then (guardK (decide (0 ≤ x0) && decide (x0 < (a0.1.length : Int))) ((c0 (((rd sNode a0.1 x0.toNat).2).1) a1).bind fun t0 => (bif t0 then (guardK (decide (0 ≤ x0) && decide (x0 < (a0.1.length : Int))) (guardK (decide (x1.length + ([((rd sNode a0.1 x0.toNat).1, ((rd sNode a0.1 x0.toNat).2).1, ((rd sNode a0.1 x0.toNat).2).2)]).length ≤ nmax)) (c1 a0 a1 (w64 (x0 + 1)) (x1 ++ [((rd sNode a0.1 x0.toNat).1, ((rd sNode a0.1 x0.toNat).2).1, ((rd sNode a0.1 x0.toNat).2).2)])))) else (c1 a0 a1 (w64 (x0 + 1)) x1)))) else (some x1))
theorem F.pleachref26_Labelled.l11010.eq K n0 a0 a1 x0 x1 : F.pleachref26_Labelled.l11010 K (n0 + 1) a0 a1 x0 x1 = F.pleachref26_Labelled.l11010.B (F.pleachref05_In K) (F.pleachref26_Labelled.l11010 K n0) a0 a1 x0 x1 := (F.pleachref26_Labelled.in_eq K [1, 1, 0, 1, 0] [n0 + 1] (F.pleachref26_Labelled.l11010.st a0 a1 x0 x1)).trans ((show ∀ H, F.pleachref26_Labelled.in K H [1, 1, 0, 1, 0] [n0 + 1] (F.pleachref26_Labelled.l11010.st a0 a1 x0 x1) = F.pleachref26_Labelled.l11010.B (F.pleachref05_In K) (fun a0 a1 x0 x1 => H [1, 1, 0, 1, 0] [n0] (F.pleachref26_Labelled.l11010.st a0 a1 x0 x1)) a0 a1 x0 x1 from by intro H; kernel_rfl) (F.pleachref26_Labelled.at K))
noncomputable def F.pleachref26_Labelled.B (c0 : (TGraph) → (ByteArray) → (Int) → (List TNode) → Option ((List TNode))) (a0 : TGraph) (a1 : ByteArray) : Option ((List TNode)) :=
    (c0 a0 a1 0 ([]))
theorem F.pleachref26_Labelled.eq K a0 a1 : F.pleachref26_Labelled (K + 1) a0 a1 = F.pleachref26_Labelled.B (F.pleachref26_Labelled.l11010 K K) a0 a1 := (F.pleachref26_Labelled.in_main K a0 a1).trans ((show ∀ H, F.pleachref26_Labelled.in K H [] [] ⟨slots [.agg [.list sNode a0.1 false, .list sEdge a0.2 false], .sc (.val (.string a1))] 0, []⟩ = F.pleachref26_Labelled.B (fun a0 a1 x0 x1 => H [1, 1, 0, 1, 0] [K] (F.pleachref26_Labelled.l11010.st a0 a1 x0 x1)) a0 a1 from by intro H; kernel_rfl) (F.pleachref26_Labelled.at K))
noncomputable def V.pleachref26_Labelled.l11010 (a0 : TGraph) (a1 : ByteArray) (x0 : Int) (x1 : List TNode) := lim fun v => F.pleachref26_Labelled.l11010 (v 0) (v 1) a0 a1 x0 x1
noncomputable def V.pleachref26_Labelled (a0 : TGraph) (a1 : ByteArray) := lim fun v => F.pleachref26_Labelled (v 0) a0 a1
theorem V.pleachref26_Labelled.l11010.of a0 a1 x0 x1 {r} (h : F.pleachref26_Labelled.l11010.B V.pleachref05_In V.pleachref26_Labelled.l11010 a0 a1 x0 x1 = some r) : V.pleachref26_Labelled.l11010 a0 a1 x0 x1 = some r :=
  App.to (App.step 1 (fun v => F.pleachref26_Labelled.l11010.eq (v 0) (v 1) a0 a1 x0 x1) (by unfold F.pleachref26_Labelled.l11010.B; repeat' first | exact App.val | exact App.no | exact App.lim | apply App.cond | apply App.guard | apply App.meet | apply App.ite | refine App.bind ?_ fun _ => ?_)) h
theorem V.pleachref26_Labelled.of a0 a1 {r} (h : F.pleachref26_Labelled.B V.pleachref26_Labelled.l11010 a0 a1 = some r) : V.pleachref26_Labelled a0 a1 = some r :=
  App.to (App.step 0 (fun v => F.pleachref26_Labelled.eq (v 0) a0 a1) (by unfold F.pleachref26_Labelled.B; repeat' first | exact App.val | exact App.no | exact App.lim | exact (App.enter 1 App.lim) | apply App.cond | apply App.guard | apply App.meet | apply App.ite | refine App.bind ?_ fun _ => ?_)) h
noncomputable def F.pleachlaw26_sameNodes (K : Nat) (a0 : List TNode) (a1 : List TNode) : Option (Bool) := evFn Tryz.prog sg K 25 [.sc (.list sNode a0 false), .sc (.list sNode a1 false)] []
noncomputable def F.pleachlaw26_sameNodes.B (c0 : (TGraph) → (TGraph) → Option (Bool)) (a0 : List TNode) (a1 : List TNode) : Option (Bool) :=
    ((c0 (a0, []) (a1, [])).bind fun t0 => (some t0))
theorem F.pleachlaw26_sameNodes.eq K a0 a1 : F.pleachlaw26_sameNodes (K + 1) a0 a1 = F.pleachlaw26_sameNodes.B (F.pleachref26_Same K) a0 a1 := by kernel_rfl
noncomputable def V.pleachlaw26_sameNodes (a0 : List TNode) (a1 : List TNode) := lim fun v => F.pleachlaw26_sameNodes (v 0) a0 a1
theorem V.pleachlaw26_sameNodes.of a0 a1 {r} (h : F.pleachlaw26_sameNodes.B V.pleachref26_Same a0 a1 = some r) : V.pleachlaw26_sameNodes a0 a1 = some r :=
  App.to (App.step 0 (fun v => F.pleachlaw26_sameNodes.eq (v 0) a0 a1) (by unfold F.pleachlaw26_sameNodes.B; repeat' first | exact App.val | exact App.no | exact App.lim | apply App.cond | apply App.guard | apply App.meet | apply App.ite | refine App.bind ?_ fun _ => ?_)) h
noncomputable def F.pleachlaw26_GraphFinds (K : Nat) (a0 : TGraph) (a1 : ByteArray) (a2 : ByteArray) : Option (Bool) := evFn Tryz.prog sg K 4 [.agg [.list sNode a0.1 false, .list sEdge a0.2 false], .sc (.val (.string a1)), .sc (.val (.string a2))] []
noncomputable def F.pleachlaw26_GraphFinds.at (K : Nat) (p ns : List Nat) (s : St) : Option (Bool) := atFn Tryz.prog sg K 4 0 p ns s
noncomputable def F.pleachlaw26_GraphFinds.in (K : Nat) (H : List Nat → List Nat → St → Option (Bool)) (p ns : List Nat) (s : St) : Option (Bool) := inFn Tryz.prog sg K 4 0 [[1, 0, 1], [1, 1, 1, 1, 1, 0, 1], [1, 1, 1, 1, 1, 1, 0, 1], [1, 1, 1, 1, 1, 1, 1]] H p ns s
theorem F.pleachlaw26_GraphFinds.in_eq K p ns s : F.pleachlaw26_GraphFinds.at K p ns s = F.pleachlaw26_GraphFinds.in K (F.pleachlaw26_GraphFinds.at K) p ns s := atFn_eq (P := Tryz.prog) (sg := sg) (K := K) (f := 4) (m := 0) [[1, 0, 1], [1, 1, 1, 1, 1, 0, 1], [1, 1, 1, 1, 1, 1, 0, 1], [1, 1, 1, 1, 1, 1, 1]] p ns s
theorem F.pleachlaw26_GraphFinds.in_main K a0 a1 a2 : F.pleachlaw26_GraphFinds (K + 1) a0 a1 a2 = F.pleachlaw26_GraphFinds.in K (F.pleachlaw26_GraphFinds.at K) [] [] ⟨slots [.agg [.list sNode a0.1 false, .list sEdge a0.2 false], .sc (.val (.string a1)), .sc (.val (.string a2))] 0, []⟩ := evFn_eq (P := Tryz.prog) (sg := sg) (K := K) (f := 4) (args := [.agg [.list sNode a0.1 false, .list sEdge a0.2 false], .sc (.val (.string a1)), .sc (.val (.string a2))]) (σ := []) [[1, 0, 1], [1, 1, 1, 1, 1, 0, 1], [1, 1, 1, 1, 1, 1, 0, 1], [1, 1, 1, 1, 1, 1, 1]] (by kernel_rfl)
def F.pleachlaw26_GraphFinds.j101.st (a0 : TGraph) (a1 : ByteArray) (a2 : ByteArray) (x0 : Bool) : St := ⟨[(1, vS a1), (2, vS a2), (3, .one (.sc (.ref 0 0))), (30, vB x0)], [.cells 25 [.list sNode a0.1 false, .list sEdge a0.2 false]]⟩
noncomputable def F.pleachlaw26_GraphFinds.j101 (K : Nat) (a0 : TGraph) (a1 : ByteArray) (a2 : ByteArray) (x0 : Bool) := F.pleachlaw26_GraphFinds.at K [1, 0, 1] [] (F.pleachlaw26_GraphFinds.j101.st a0 a1 a2 x0)
def F.pleachlaw26_GraphFinds.j1111101.st (a0 : TGraph) (a1 : ByteArray) (a2 : ByteArray) (x0 : Bool) (x1 : Bool) (x2 : Int) (x3 : Int) (x4 : Bool) (x5 : ByteArray) (x6 : List ByteArray) (x7 : List TProp) (x8 : ByteArray) (x9 : ByteArray) (x10 : ByteArray) (x11 : List ByteArray) (x12 : List TProp) : St := ⟨[(1, vS a1), (2, vS a2), (3, .one (.sc (.ref 0 0))), (7, .one (.sc (.ref 1 0))), (8, vB x0), (9, .one (.sc (.ref 2 0))), (10, vB x1), (11, vI x2), (12, vI x3), (59, vB x4)], [.cells 25 [.list sNode a0.1 false, .list sEdge a0.2 false], .cells 42 [.val (.string x5), .list .str x6 false, .list sProp x7 false], .cells 46 [.val (.string x8), .val (.string x9), .val (.string x10), .list .str x11 false, .list sProp x12 false]]⟩
noncomputable def F.pleachlaw26_GraphFinds.j1111101 (K : Nat) (a0 : TGraph) (a1 : ByteArray) (a2 : ByteArray) (x0 : Bool) (x1 : Bool) (x2 : Int) (x3 : Int) (x4 : Bool) (x5 : ByteArray) (x6 : List ByteArray) (x7 : List TProp) (x8 : ByteArray) (x9 : ByteArray) (x10 : ByteArray) (x11 : List ByteArray) (x12 : List TProp) := F.pleachlaw26_GraphFinds.at K [1, 1, 1, 1, 1, 0, 1] [] (F.pleachlaw26_GraphFinds.j1111101.st a0 a1 a2 x0 x1 x2 x3 x4 x5 x6 x7 x8 x9 x10 x11 x12)
def F.pleachlaw26_GraphFinds.j11111101.st (a0 : TGraph) (a1 : ByteArray) (a2 : ByteArray) (x0 : Bool) : St := ⟨[(1, vS a1), (2, vS a2), (3, .one (.sc (.ref 0 0))), (103, vB x0)], [.cells 25 [.list sNode a0.1 false, .list sEdge a0.2 false]]⟩
noncomputable def F.pleachlaw26_GraphFinds.j11111101 (K : Nat) (a0 : TGraph) (a1 : ByteArray) (a2 : ByteArray) (x0 : Bool) := F.pleachlaw26_GraphFinds.at K [1, 1, 1, 1, 1, 1, 0, 1] [] (F.pleachlaw26_GraphFinds.j11111101.st a0 a1 a2 x0)
def F.pleachlaw26_GraphFinds.j1111111.st (a0 : TGraph) (a1 : ByteArray) (a2 : ByteArray) : St := ⟨[(1, vS a1), (2, vS a2), (3, .one (.sc (.ref 0 0)))], [.cells 25 [.list sNode a0.1 false, .list sEdge a0.2 false]]⟩
noncomputable def F.pleachlaw26_GraphFinds.j1111111 (K : Nat) (a0 : TGraph) (a1 : ByteArray) (a2 : ByteArray) := F.pleachlaw26_GraphFinds.at K [1, 1, 1, 1, 1, 1, 1] [] (F.pleachlaw26_GraphFinds.j1111111.st a0 a1 a2)
noncomputable def F.pleachlaw26_GraphFinds.j101.B (c0 : Option (Bool)) (c1 : (TGraph) → (ByteArray) → Option (TNode × Bool)) (c2 : (TGraph) → (ByteArray) → Option (TEdge × Bool)) (c3 : (TGraph) → (ByteArray) → Option (Int)) (c4 : (TGraph) → (ByteArray) → Option (Int)) (c5 : (TGraph) → (ByteArray) → (ByteArray) → (Bool) → (Bool) → (Int) → (Int) → (Bool) → (ByteArray) → (List ByteArray) → (List TProp) → (ByteArray) → (ByteArray) → (ByteArray) → (List ByteArray) → (List TProp) → Option (Bool)) (a0 : TGraph) (a1 : ByteArray) (a2 : ByteArray) (x0 : Bool) : Option (Bool) :=
    (bif x0 then ((c0).bind fun t2 => (some t2)) else ((c1 (a0.1, a0.2) a1).bind fun t3 => ((c2 (a0.1, a0.2) a1).bind fun t4 => ((c3 (a0.1, a0.2) a1).bind fun t5 => ((c4 (a0.1, a0.2) a1).bind fun t6 => (bif (!(t3.2 == (decide (t5 ≥ 0)))) then (c5 a0 a1 a2 t3.2 t4.2 t5 t6 true t3.1.1 t3.1.2.1 t3.1.2.2 t4.1.1 t4.1.2.1 t4.1.2.2.1 t4.1.2.2.2.1 t4.1.2.2.2.2) else (c5 a0 a1 a2 t3.2 t4.2 t5 t6 (!(t4.2 == (decide (t6 ≥ 0)))) t3.1.1 t3.1.2.1 t3.1.2.2 t4.1.1 t4.1.2.1 t4.1.2.2.1 t4.1.2.2.2.1 t4.1.2.2.2.2)))))))
theorem F.pleachlaw26_GraphFinds.j101.eq K a0 a1 a2 x0 : F.pleachlaw26_GraphFinds.j101 K a0 a1 a2 x0 = F.pleachlaw26_GraphFinds.j101.B (F.pleachlaw26_awake K) (F.graph_Node K) (F.graph_Edge K) (F.pleachref26_NodeAt K) (F.pleachref26_EdgeAt K) (F.pleachlaw26_GraphFinds.j1111101 K) a0 a1 a2 x0 := (F.pleachlaw26_GraphFinds.in_eq K [1, 0, 1] [] (F.pleachlaw26_GraphFinds.j101.st a0 a1 a2 x0)).trans ((show ∀ H, F.pleachlaw26_GraphFinds.in K H [1, 0, 1] [] (F.pleachlaw26_GraphFinds.j101.st a0 a1 a2 x0) = F.pleachlaw26_GraphFinds.j101.B (F.pleachlaw26_awake K) (F.graph_Node K) (F.graph_Edge K) (F.pleachref26_NodeAt K) (F.pleachref26_EdgeAt K) (fun a0 a1 a2 x0 x1 x2 x3 x4 x5 x6 x7 x8 x9 x10 x11 x12 => H [1, 1, 1, 1, 1, 0, 1] [] (F.pleachlaw26_GraphFinds.j1111101.st a0 a1 a2 x0 x1 x2 x3 x4 x5 x6 x7 x8 x9 x10 x11 x12)) a0 a1 a2 x0 from by intro H; kernel_rfl) (F.pleachlaw26_GraphFinds.at K))
noncomputable def F.pleachlaw26_GraphFinds.j1111101.B (c0 : (TNode) → (TNode) → Option (Bool)) (c1 : (TGraph) → (ByteArray) → (ByteArray) → (Bool) → Option (Bool)) (c2 : (TEdge) → (TEdge) → Option (Bool)) (a0 : TGraph) (a1 : ByteArray) (a2 : ByteArray) (x0 : Bool) (x1 : Bool) (x2 : Int) (x3 : Int) (x4 : Bool) (x5 : ByteArray) (x6 : List ByteArray) (x7 : List TProp) (x8 : ByteArray) (x9 : ByteArray) (x10 : ByteArray) (x11 : List ByteArray) (x12 : List TProp) : Option (Bool) :=
    (bif x4 then (some false) else (bif x0 then (guardK (decide (0 ≤ x2) && decide (x2 < (a0.1.length : Int))) ((c0 (x5, x6, x7) ((rd sNode a0.1 x2.toNat).1, ((rd sNode a0.1 x2.toNat).2).1, ((rd sNode a0.1 x2.toNat).2).2)).bind fun t7 => (bif (!t7) then (c1 a0 a1 a2 true) else (bif (!x0) then ((c0 (x5, x6, x7) ((⟨#[]⟩ : ByteArray), [], [])).bind fun t8 => (bif (!t8) then (c1 a0 a1 a2 true) else (bif x1 then (guardK (decide (0 ≤ x3) && decide (x3 < (a0.2.length : Int))) ((c2 (x8, x9, x10, x11, x12) ((rd sEdge a0.2 x3.toNat).1, ((rd sEdge a0.2 x3.toNat).2).1, (((rd sEdge a0.2 x3.toNat).2).2).1, ((((rd sEdge a0.2 x3.toNat).2).2).2).1, ((((rd sEdge a0.2 x3.toNat).2).2).2).2)).bind fun t9 => (bif (!t9) then (c1 a0 a1 a2 true) else (bif (!x1) then ((c2 (x8, x9, x10, x11, x12) ((⟨#[]⟩ : ByteArray), (⟨#[]⟩ : ByteArray), (⟨#[]⟩ : ByteArray), [], [])).bind fun t10 => (c1 a0 a1 a2 (!t10))) else (c1 a0 a1 a2 false))))) else (bif (!x1) then ((c2 (x8, x9, x10, x11, x12) ((⟨#[]⟩ : ByteArray), (⟨#[]⟩ : ByteArray), (⟨#[]⟩ : ByteArray), [], [])).bind fun t11 => (c1 a0 a1 a2 (!t11))) else (c1 a0 a1 a2 false))))) else (bif x1 then (guardK (decide (0 ≤ x3) && decide (x3 < (a0.2.length : Int))) ((c2 (x8, x9, x10, x11, x12) ((rd sEdge a0.2 x3.toNat).1, ((rd sEdge a0.2 x3.toNat).2).1, (((rd sEdge a0.2 x3.toNat).2).2).1, ((((rd sEdge a0.2 x3.toNat).2).2).2).1, ((((rd sEdge a0.2 x3.toNat).2).2).2).2)).bind fun t12 => (bif (!t12) then (c1 a0 a1 a2 true) else (bif (!x1) then ((c2 (x8, x9, x10, x11, x12) ((⟨#[]⟩ : ByteArray), (⟨#[]⟩ : ByteArray), (⟨#[]⟩ : ByteArray), [], [])).bind fun t13 => (c1 a0 a1 a2 (!t13))) else (c1 a0 a1 a2 false))))) else (bif (!x1) then ((c2 (x8, x9, x10, x11, x12) ((⟨#[]⟩ : ByteArray), (⟨#[]⟩ : ByteArray), (⟨#[]⟩ : ByteArray), [], [])).bind fun t14 => (c1 a0 a1 a2 (!t14))) else (c1 a0 a1 a2 false))))))) else (bif (!x0) then ((c0 (x5, x6, x7) ((⟨#[]⟩ : ByteArray), [], [])).bind fun t15 => (bif (!t15) then (c1 a0 a1 a2 true) else (bif x1 then (guardK (decide (0 ≤ x3) && decide (x3 < (a0.2.length : Int))) ((c2 (x8, x9, x10, x11, x12) ((rd sEdge a0.2 x3.toNat).1, ((rd sEdge a0.2 x3.toNat).2).1, (((rd sEdge a0.2 x3.toNat).2).2).1, ((((rd sEdge a0.2 x3.toNat).2).2).2).1, ((((rd sEdge a0.2 x3.toNat).2).2).2).2)).bind fun t16 => (bif (!t16) then (c1 a0 a1 a2 true) else (bif (!x1) then ((c2 (x8, x9, x10, x11, x12) ((⟨#[]⟩ : ByteArray), (⟨#[]⟩ : ByteArray), (⟨#[]⟩ : ByteArray), [], [])).bind fun t17 => (c1 a0 a1 a2 (!t17))) else (c1 a0 a1 a2 false))))) else (bif (!x1) then ((c2 (x8, x9, x10, x11, x12) ((⟨#[]⟩ : ByteArray), (⟨#[]⟩ : ByteArray), (⟨#[]⟩ : ByteArray), [], [])).bind fun t18 => (c1 a0 a1 a2 (!t18))) else (c1 a0 a1 a2 false))))) else (bif x1 then (guardK (decide (0 ≤ x3) && decide (x3 < (a0.2.length : Int))) ((c2 (x8, x9, x10, x11, x12) ((rd sEdge a0.2 x3.toNat).1, ((rd sEdge a0.2 x3.toNat).2).1, (((rd sEdge a0.2 x3.toNat).2).2).1, ((((rd sEdge a0.2 x3.toNat).2).2).2).1, ((((rd sEdge a0.2 x3.toNat).2).2).2).2)).bind fun t19 => (bif (!t19) then (c1 a0 a1 a2 true) else (bif (!x1) then ((c2 (x8, x9, x10, x11, x12) ((⟨#[]⟩ : ByteArray), (⟨#[]⟩ : ByteArray), (⟨#[]⟩ : ByteArray), [], [])).bind fun t20 => (c1 a0 a1 a2 (!t20))) else (c1 a0 a1 a2 false))))) else (bif (!x1) then ((c2 (x8, x9, x10, x11, x12) ((⟨#[]⟩ : ByteArray), (⟨#[]⟩ : ByteArray), (⟨#[]⟩ : ByteArray), [], [])).bind fun t21 => (c1 a0 a1 a2 (!t21))) else (c1 a0 a1 a2 false))))))
theorem F.pleachlaw26_GraphFinds.j1111101.eq K a0 a1 a2 x0 x1 x2 x3 x4 x5 x6 x7 x8 x9 x10 x11 x12 : F.pleachlaw26_GraphFinds.j1111101 K a0 a1 a2 x0 x1 x2 x3 x4 x5 x6 x7 x8 x9 x10 x11 x12 = F.pleachlaw26_GraphFinds.j1111101.B (F.pleachref25_SameNode K) (F.pleachlaw26_GraphFinds.j11111101 K) (F.pleachref25_SameEdge K) a0 a1 a2 x0 x1 x2 x3 x4 x5 x6 x7 x8 x9 x10 x11 x12 := (F.pleachlaw26_GraphFinds.in_eq K [1, 1, 1, 1, 1, 0, 1] [] (F.pleachlaw26_GraphFinds.j1111101.st a0 a1 a2 x0 x1 x2 x3 x4 x5 x6 x7 x8 x9 x10 x11 x12)).trans ((show ∀ H, F.pleachlaw26_GraphFinds.in K H [1, 1, 1, 1, 1, 0, 1] [] (F.pleachlaw26_GraphFinds.j1111101.st a0 a1 a2 x0 x1 x2 x3 x4 x5 x6 x7 x8 x9 x10 x11 x12) = F.pleachlaw26_GraphFinds.j1111101.B (F.pleachref25_SameNode K) (fun a0 a1 a2 x0 => H [1, 1, 1, 1, 1, 1, 0, 1] [] (F.pleachlaw26_GraphFinds.j11111101.st a0 a1 a2 x0)) (F.pleachref25_SameEdge K) a0 a1 a2 x0 x1 x2 x3 x4 x5 x6 x7 x8 x9 x10 x11 x12 from by intro H; kernel_rfl) (F.pleachlaw26_GraphFinds.at K))
noncomputable def F.pleachlaw26_GraphFinds.j11111101.B (c0 : (TGraph) → (ByteArray) → (ByteArray) → Option (Bool)) (a0 : TGraph) (a1 : ByteArray) (a2 : ByteArray) (x0 : Bool) : Option (Bool) :=
    (bif x0 then (some false) else (c0 a0 a1 a2))
theorem F.pleachlaw26_GraphFinds.j11111101.eq K a0 a1 a2 x0 : F.pleachlaw26_GraphFinds.j11111101 K a0 a1 a2 x0 = F.pleachlaw26_GraphFinds.j11111101.B (F.pleachlaw26_GraphFinds.j1111111 K) a0 a1 a2 x0 := (F.pleachlaw26_GraphFinds.in_eq K [1, 1, 1, 1, 1, 1, 0, 1] [] (F.pleachlaw26_GraphFinds.j11111101.st a0 a1 a2 x0)).trans ((show ∀ H, F.pleachlaw26_GraphFinds.in K H [1, 1, 1, 1, 1, 1, 0, 1] [] (F.pleachlaw26_GraphFinds.j11111101.st a0 a1 a2 x0) = F.pleachlaw26_GraphFinds.j11111101.B (fun a0 a1 a2 => H [1, 1, 1, 1, 1, 1, 1] [] (F.pleachlaw26_GraphFinds.j1111111.st a0 a1 a2)) a0 a1 a2 x0 from by intro H; kernel_rfl) (F.pleachlaw26_GraphFinds.at K))
noncomputable def F.pleachlaw26_GraphFinds.j1111111.B (c0 : (TGraph) → (ByteArray) → Option ((List TEdge))) (c1 : (TGraph) → (ByteArray) → Option ((List TEdge))) (c2 : (List TEdge) → (List TEdge) → Option (Bool)) (c3 : (TGraph) → (ByteArray) → Option ((List TEdge))) (c4 : (TGraph) → (ByteArray) → Option ((List TEdge))) (c5 : (TGraph) → (ByteArray) → Option ((List TNode))) (c6 : (TGraph) → (ByteArray) → Option ((List TNode))) (c7 : (List TNode) → (List TNode) → Option (Bool)) (c8 : Option (Bool)) (a0 : TGraph) (a1 : ByteArray) (a2 : ByteArray) : Option (Bool) :=
    ((c0 (a0.1, a0.2) a1).bind fun t22 => ((c1 (a0.1, a0.2) a1).bind fun t23 => ((c2 t22 t23).bind fun t24 => (bif t24 then ((c3 (a0.1, a0.2) a1).bind fun t25 => ((c4 (a0.1, a0.2) a1).bind fun t26 => ((c2 t25 t26).bind fun t27 => (bif t27 then ((c5 (a0.1, a0.2) a2).bind fun t28 => ((c6 (a0.1, a0.2) a2).bind fun t29 => ((c7 t28 t29).bind fun t30 => (bif t30 then ((c8).bind fun t31 => (some t31)) else (some false))))) else (some false))))) else (some false)))))
theorem F.pleachlaw26_GraphFinds.j1111111.eq K a0 a1 a2 : F.pleachlaw26_GraphFinds.j1111111 K a0 a1 a2 = F.pleachlaw26_GraphFinds.j1111111.B (F.graph_Out K) (F.pleachref26_Out K) (F.pleachlaw26_sameEdges K) (F.graph_In K) (F.pleachref26_In K) (F.graph_Labelled K) (F.pleachref26_Labelled K) (F.pleachlaw26_sameNodes K) (F.pleachlaw26_awake K) a0 a1 a2 := (F.pleachlaw26_GraphFinds.in_eq K [1, 1, 1, 1, 1, 1, 1] [] (F.pleachlaw26_GraphFinds.j1111111.st a0 a1 a2)).trans ((show ∀ H, F.pleachlaw26_GraphFinds.in K H [1, 1, 1, 1, 1, 1, 1] [] (F.pleachlaw26_GraphFinds.j1111111.st a0 a1 a2) = F.pleachlaw26_GraphFinds.j1111111.B (F.graph_Out K) (F.pleachref26_Out K) (F.pleachlaw26_sameEdges K) (F.graph_In K) (F.pleachref26_In K) (F.graph_Labelled K) (F.pleachref26_Labelled K) (F.pleachlaw26_sameNodes K) (F.pleachlaw26_awake K) a0 a1 a2 from by intro H; kernel_rfl) (F.pleachlaw26_GraphFinds.at K))
noncomputable def F.pleachlaw26_GraphFinds.B (c0 : (TGraph) → Option (Bool)) (c1 : (TGraph) → (ByteArray) → (ByteArray) → (Bool) → Option (Bool)) (c2 : (TGraph) → Option (Int)) (a0 : TGraph) (a1 : ByteArray) (a2 : ByteArray) : Option (Bool) :=
    ((c0 (a0.1, a0.2)).bind fun t0 => (bif (!t0) then (c1 a0 a1 a2 true) else ((c2 (a0.1, a0.2)).bind fun t1 => (bif (t1 != 0) then (c1 a0 a1 a2 true) else (bif (decide ((a1.size : Int) > 100)) then (c1 a0 a1 a2 true) else (c1 a0 a1 a2 (decide ((a2.size : Int) > 100))))))))
theorem F.pleachlaw26_GraphFinds.eq K a0 a1 a2 : F.pleachlaw26_GraphFinds (K + 1) a0 a1 a2 = F.pleachlaw26_GraphFinds.B (F.pleachref26_Few K) (F.pleachlaw26_GraphFinds.j101 K) (F.pleachref26_Wrong K) a0 a1 a2 := (F.pleachlaw26_GraphFinds.in_main K a0 a1 a2).trans ((show ∀ H, F.pleachlaw26_GraphFinds.in K H [] [] ⟨slots [.agg [.list sNode a0.1 false, .list sEdge a0.2 false], .sc (.val (.string a1)), .sc (.val (.string a2))] 0, []⟩ = F.pleachlaw26_GraphFinds.B (F.pleachref26_Few K) (fun a0 a1 a2 x0 => H [1, 0, 1] [] (F.pleachlaw26_GraphFinds.j101.st a0 a1 a2 x0)) (F.pleachref26_Wrong K) a0 a1 a2 from by intro H; kernel_rfl) (F.pleachlaw26_GraphFinds.at K))
noncomputable def V.pleachlaw26_GraphFinds.j101 (a0 : TGraph) (a1 : ByteArray) (a2 : ByteArray) (x0 : Bool) := lim fun v => F.pleachlaw26_GraphFinds.j101 (v 0) a0 a1 a2 x0
noncomputable def V.pleachlaw26_GraphFinds.j1111101 (a0 : TGraph) (a1 : ByteArray) (a2 : ByteArray) (x0 : Bool) (x1 : Bool) (x2 : Int) (x3 : Int) (x4 : Bool) (x5 : ByteArray) (x6 : List ByteArray) (x7 : List TProp) (x8 : ByteArray) (x9 : ByteArray) (x10 : ByteArray) (x11 : List ByteArray) (x12 : List TProp) := lim fun v => F.pleachlaw26_GraphFinds.j1111101 (v 0) a0 a1 a2 x0 x1 x2 x3 x4 x5 x6 x7 x8 x9 x10 x11 x12
noncomputable def V.pleachlaw26_GraphFinds.j11111101 (a0 : TGraph) (a1 : ByteArray) (a2 : ByteArray) (x0 : Bool) := lim fun v => F.pleachlaw26_GraphFinds.j11111101 (v 0) a0 a1 a2 x0
noncomputable def V.pleachlaw26_GraphFinds.j1111111 (a0 : TGraph) (a1 : ByteArray) (a2 : ByteArray) := lim fun v => F.pleachlaw26_GraphFinds.j1111111 (v 0) a0 a1 a2
noncomputable def V.pleachlaw26_GraphFinds (a0 : TGraph) (a1 : ByteArray) (a2 : ByteArray) := lim fun v => F.pleachlaw26_GraphFinds (v 0) a0 a1 a2
theorem V.pleachlaw26_GraphFinds.j101.of a0 a1 a2 x0 {r} (h : F.pleachlaw26_GraphFinds.j101.B V.pleachlaw26_awake V.graph_Node V.graph_Edge V.pleachref26_NodeAt V.pleachref26_EdgeAt V.pleachlaw26_GraphFinds.j1111101 a0 a1 a2 x0 = some r) : V.pleachlaw26_GraphFinds.j101 a0 a1 a2 x0 = some r :=
  App.to (App.same (fun v => F.pleachlaw26_GraphFinds.j101.eq (v 0) a0 a1 a2 x0) (by unfold F.pleachlaw26_GraphFinds.j101.B; repeat' first | exact App.val | exact App.no | exact App.lim | apply App.cond | apply App.guard | apply App.meet | apply App.ite | refine App.bind ?_ fun _ => ?_)) h
theorem V.pleachlaw26_GraphFinds.j1111101.of a0 a1 a2 x0 x1 x2 x3 x4 x5 x6 x7 x8 x9 x10 x11 x12 {r} (h : F.pleachlaw26_GraphFinds.j1111101.B V.pleachref25_SameNode V.pleachlaw26_GraphFinds.j11111101 V.pleachref25_SameEdge a0 a1 a2 x0 x1 x2 x3 x4 x5 x6 x7 x8 x9 x10 x11 x12 = some r) : V.pleachlaw26_GraphFinds.j1111101 a0 a1 a2 x0 x1 x2 x3 x4 x5 x6 x7 x8 x9 x10 x11 x12 = some r :=
  App.to (App.same (fun v => F.pleachlaw26_GraphFinds.j1111101.eq (v 0) a0 a1 a2 x0 x1 x2 x3 x4 x5 x6 x7 x8 x9 x10 x11 x12) (by unfold F.pleachlaw26_GraphFinds.j1111101.B; repeat' first | exact App.val | exact App.no | exact App.lim | apply App.cond | apply App.guard | apply App.meet | apply App.ite | refine App.bind ?_ fun _ => ?_)) h
theorem V.pleachlaw26_GraphFinds.j11111101.of a0 a1 a2 x0 {r} (h : F.pleachlaw26_GraphFinds.j11111101.B V.pleachlaw26_GraphFinds.j1111111 a0 a1 a2 x0 = some r) : V.pleachlaw26_GraphFinds.j11111101 a0 a1 a2 x0 = some r :=
  App.to (App.same (fun v => F.pleachlaw26_GraphFinds.j11111101.eq (v 0) a0 a1 a2 x0) (by unfold F.pleachlaw26_GraphFinds.j11111101.B; repeat' first | exact App.val | exact App.no | exact App.lim | apply App.cond | apply App.guard | apply App.meet | apply App.ite | refine App.bind ?_ fun _ => ?_)) h
theorem V.pleachlaw26_GraphFinds.j1111111.of a0 a1 a2 {r} (h : F.pleachlaw26_GraphFinds.j1111111.B V.graph_Out V.pleachref26_Out V.pleachlaw26_sameEdges V.graph_In V.pleachref26_In V.graph_Labelled V.pleachref26_Labelled V.pleachlaw26_sameNodes V.pleachlaw26_awake a0 a1 a2 = some r) : V.pleachlaw26_GraphFinds.j1111111 a0 a1 a2 = some r :=
  App.to (App.same (fun v => F.pleachlaw26_GraphFinds.j1111111.eq (v 0) a0 a1 a2) (by unfold F.pleachlaw26_GraphFinds.j1111111.B; repeat' first | exact App.val | exact App.no | exact App.lim | apply App.cond | apply App.guard | apply App.meet | apply App.ite | refine App.bind ?_ fun _ => ?_)) h
theorem V.pleachlaw26_GraphFinds.of a0 a1 a2 {r} (h : F.pleachlaw26_GraphFinds.B V.pleachref26_Few V.pleachlaw26_GraphFinds.j101 V.pleachref26_Wrong a0 a1 a2 = some r) : V.pleachlaw26_GraphFinds a0 a1 a2 = some r :=
  App.to (App.step 0 (fun v => F.pleachlaw26_GraphFinds.eq (v 0) a0 a1 a2) (by unfold F.pleachlaw26_GraphFinds.B; repeat' first | exact App.val | exact App.no | exact App.lim | apply App.cond | apply App.guard | apply App.meet | apply App.ite | refine App.bind ?_ fun _ => ?_)) h
end Go.Proofs.YtdblhdpnllckhaaGreat.AE
end
section
set_option linter.unusedVariables false
set_option linter.unusedSimpArgs false
namespace Go.Proofs.YtdblhdpnllckhaaGreat.AE
open Go

theorem w64_id {x : Int} (h0 : -9223372036854775808 ≤ x) (h1 : x ≤ 9223372036854775807) : w64 x = x := by
  show IntKind.i64.wrap x = x
  simp [IntKind.wrap, IntKind.bits, IntKind.signed]
  omega
theorem u64_id {x : Int} (h0 : 0 ≤ x) (h1 : x ≤ 18446744073709551615) : IntKind.wrap .u64 x = x := by
  have : IntKind.u64.wrap x = x % 18446744073709551616 := by simp [IntKind.wrap, IntKind.bits, IntKind.signed]
  rw [this]; omega
theorem w64_up {i n : Nat} (h : i < n) (hn : n ≤ 140737488351232) : w64 ((i : Int) + 1) = ((i + 1 : Nat) : Int) := by rw [w64_id (by omega) (by omega)]; omega
theorem w64_dn {i n : Nat} (h : i < n) (hn : n ≤ 140737488351232) (h0 : 0 < i) : w64 ((i : Int) - 1) = ((i - 1 : Nat) : Int) := by rw [w64_id (by omega) (by omega)]; omega

theorem guard_of {α : Type} {g : Bool} {a : Option α} (h : g = true) : guardK g a = a := by rw [h]; rfl
theorem guard_dec {α : Type} {p : Prop} [Decidable p] {a : Option α} (h : p) : guardK (decide p) a = a := guard_of (decide_eq_true h)
/-- Inside a row. -/
theorem guard_in {α : Type} {i n : Nat} {a : Option α} (h : i < n) : guardK (decide (0 ≤ (i : Int)) && decide ((i : Int) < (n : Int))) a = a := guard_of (by simp [h])
theorem if_in {α : Type} {i n : Nat} {a b : α} (h : i < n) : (bif decide ((i : Int) < (n : Int)) then a else b) = a := by simp [h]
theorem if_out {α : Type} {i n : Nat} {a b : α} (h : n ≤ i) : (bif decide ((i : Int) < (n : Int)) then a else b) = b := by simp [Nat.not_lt.2 h]
theorem if_yes {α : Type} {p : Prop} [Decidable p] {a b : α} (h : p) : (bif decide p then a else b) = a := by simp [h]
theorem if_no {α : Type} {p : Prop} [Decidable p] {a b : α} (h : ¬ p) : (bif decide p then a else b) = b := by simp [h]
theorem nat_cast (i : Nat) : ((i : Nat) : Int).toNat = i := rfl
theorem meet_self {α : Type} (a : Option α) : meet a a = a := by unfold meet; simp
theorem data_len (s : ByteArray) : s.data.toList.length = s.size := by rw [Array.length_toList]; rfl
theorem toList_size (s : ByteArray) : s.toList.length = s.size := by rw [ByteArray.toList_eq]; exact data_len s
theorem toList_nil {s : ByteArray} : s.toList = [] ↔ s.size = 0 := by
  rw [← toList_size, List.length_eq_zero_iff]
theorem bytes_ext {s t : ByteArray} (h : s.toList = t.toList) : s = t := by
  rw [ByteArray.toList_eq, ByteArray.toList_eq] at h
  have : s.data = t.data := by rwa [← Array.toList_inj]
  cases s; cases t; simp_all
theorem strEq_iff {s t : ByteArray} : strEq s t = true ↔ s = t := by
  unfold strEq
  rw [beq_iff_eq]
  exact ⟨bytes_ext, fun h => by rw [h]⟩
theorem strEq_self (s : ByteArray) : strEq s s = true := strEq_iff.2 rfl
theorem strEq_no {s t : ByteArray} (h : s ≠ t) : strEq s t = false := by
  cases hb : strEq s t with
  | false => rfl
  | true => exact absurd (strEq_iff.1 hb) h
theorem strEq_dec (s t : ByteArray) : strEq s t = decide (s = t) := by
  by_cases h : s = t
  · rw [h, strEq_self]; simp
  · rw [strEq_no h]; simp [h]
/-! ### The order of texts -/

theorem less_leq : ∀ x y : List UInt8, (Op.bytesLess x y || x == y) = !(Op.bytesLess y x)
  | [], [] => by simp [Op.bytesLess]
  | [], b :: y => by simp [Op.bytesLess]
  | a :: x, [] => by simp [Op.bytesLess]
  | a :: x, b :: y => by
    have ih := less_leq x y
    by_cases h1 : a < b
    · have h2 : ¬ b < a := by simp only [UInt8.lt_iff_toNat_lt] at *; omega
      have h3 : ¬ b = a := by rintro rfl; simp at h1
      simp [Op.bytesLess, h1, h2, h3]
    · by_cases h2 : b < a
      · have h3 : ¬ b = a := by rintro rfl; simp at h2
        have h4 : ¬ a = b := fun h => h3 h.symm
        simp [Op.bytesLess, h1, h2, h4]
      · have h3 : a = b := by
          apply UInt8.toNat_inj.1
          simp only [UInt8.lt_iff_toNat_lt] at *
          omega
        subst h3
        simp [Op.bytesLess, h1] at ih ⊢
        exact ih
theorem less_irr : ∀ x : List UInt8, Op.bytesLess x x = false
  | [] => rfl
  | a :: x => by
    have : ¬ a < a := by simp
    simp [Op.bytesLess, less_irr x, this]
theorem less_trans : ∀ x y z : List UInt8, Op.bytesLess x y = true → Op.bytesLess y z = true → Op.bytesLess x z = true
  | _, [], _, h, _ => by simp [Op.bytesLess] at h
  | _, _ :: _, [], _, h => by simp [Op.bytesLess] at h
  | [], b :: y, c :: z, _, _ => rfl
  | a :: x, b :: y, c :: z, h1, h2 => by
    simp only [Op.bytesLess, Bool.or_eq_true, Bool.and_eq_true, decide_eq_true_eq, beq_iff_eq] at h1 h2 ⊢
    rcases h1 with h1 | ⟨rfl, h1⟩
    · rcases h2 with h2 | ⟨rfl, h2⟩
      · left; simp only [UInt8.lt_iff_toNat_lt] at *; omega
      · exact .inl h1
    · rcases h2 with h2 | ⟨rfl, h2⟩
      · exact .inl h2
      · exact .inr ⟨rfl, less_trans x y z h1 h2⟩
/-- Of two texts one is less, or they are the same. -/
theorem lt_or (a b : ByteArray) : (strLt a b || strEq a b) = !strLt b a := less_leq a.toList b.toList
theorem lt_irr (a : ByteArray) : strLt a a = false := less_irr a.toList
theorem lt_trans {a b c : ByteArray} (h : strLt a b = true) (g : strLt b c = true) : strLt a c = true := less_trans _ _ _ h g
theorem lt_total {a b : ByteArray} (h : strLt a b = false) (hn : a ≠ b) : strLt b a = true := by
  have := lt_or a b
  rw [h, strEq_no hn] at this
  cases hb : strLt b a with
  | true => rfl
  | false => rw [hb] at this; simp at this
theorem size_zero {s : ByteArray} (h : s.size = 0) : s = (⟨#[]⟩ : ByteArray) := by
  apply bytes_ext
  rw [toList_nil.2 h]
  exact (toList_nil.2 rfl).symm
theorem strEq_nil (s : ByteArray) : strEq s (⟨#[]⟩ : ByteArray) = (s.size == 0) := by
  rw [Bool.eq_iff_iff, strEq_iff]
  simp only [beq_iff_eq]
  exact ⟨fun h => by rw [h]; rfl, size_zero⟩
theorem rd_get {e : Sh} {l : List (den e)} {i : Nat} (h : i < l.length) : rd e l i = l[i] := by
  simp [rd, List.getD_eq_getElem?_getD, List.getElem?_eq_getElem h]
theorem rd_mem {e : Sh} {l : List (den e)} {i : Nat} (h : i < l.length) : rd e l i ∈ l := by rw [rd_get h]; exact List.getElem_mem h
theorem drop_rd {e : Sh} {l : List (den e)} {i : Nat} (h : i < l.length) : l.drop i = rd e l i :: l.drop (i + 1) := by rw [rd_get h]; exact List.drop_eq_getElem_cons h
theorem take_rd {e : Sh} {l : List (den e)} {i : Nat} (h : i < l.length) : l.take (i + 1) = l.take i ++ [rd e l i] := by
  rw [rd_get h, List.take_add_one, List.getElem?_eq_getElem h]; rfl

/-- A loop that ends at the first place at which the step tells something; else what is told at the end. -/
def scanG {α : Type} (step : Nat → Option α) (fin : α) : Nat → Nat → α
  | 0, _ => fin
  | d + 1, i => match step i with
    | some r => r
    | none => scanG step fin d (i + 1)
abbrev scanI (step : Nat → Option Int) : Nat → Nat → Int := scanG step 0
theorem scanG_succ {α : Type} (step : Nat → Option α) (fin : α) (d i : Nat) : scanG step fin (d + 1) i = (step i).getD (scanG step fin d (i + 1)) := by
  show (match step i with | some r => r | none => scanG step fin d (i + 1)) = _
  cases step i <;> rfl
theorem scanI_succ (step : Nat → Option Int) (d i : Nat) : scanI step (d + 1) i = (step i).getD (scanI step d (i + 1)) := scanG_succ step 0 d i
end Go.Proofs.YtdblhdpnllckhaaGreat.AE
end
section
set_option linter.unusedVariables false
set_option linter.unusedSimpArgs false
namespace Go.Proofs.YtdblhdpnllckhaaGreat.AE
open Go

def okc (c : Int) : Bool := (decide (97 ≤ c) && decide (c ≤ 122)) || (decide (48 ≤ c) && decide (c ≤ 57)) || c == 45
theorem name_fits_ok (c : Int) : V.name_fits c = some (okc c) := by
  refine V.name_fits.of _ ?_
  unfold F.name_fits.B okc
  by_cases a1 : c ≥ 97 <;> by_cases a2 : c ≤ 122 <;> by_cases a3 : c ≥ 48 <;> by_cases a4 : c ≤ 57 <;> simp [Bool.cond_eq_ite, a1, a2, a3, a4] <;> omega
/-- From place i on, d bytes, all fit. -/
def okFrom (s : ByteArray) : Nat → Nat → Bool
  | 0, _ => true
  | d + 1, i => okc (byteAt s i) && okFrom s d (i + 1)
def nameB (s : ByteArray) : Bool := decide (1 ≤ s.size) && decide (s.size ≤ 12) && okFrom s s.size 0

theorem name_Check_l (s : ByteArray) (hs : s.size ≤ 140737488351232) : ∀ d i : Nat, i + d = s.size → V.name_Check.l11010 s (i : Int) = some (if okFrom s d i then 0 else 2)
  | 0, i, h => by
    refine V.name_Check.l11010.of _ _ ?_
    unfold F.name_Check.l11010.B
    rw [if_out (by omega)]
    simp [okFrom]
  | d + 1, i, h => by
    refine V.name_Check.l11010.of _ _ ?_
    unfold F.name_Check.l11010.B
    rw [if_in (by omega), guard_in (by omega), name_fits_ok, Option.bind_some, w64_up (show i < s.size by omega) hs, name_Check_l s hs d (i + 1) (by omega)]
    cases hc : okc (byteAt s (i : Int)) <;> simp [okFrom, hc]
theorem name_Check_ok (s : ByteArray) (hs : s.size ≤ 140737488351232) : V.name_Check s = some (if nameB s then 0 else 2) := by
  refine V.name_Check.of _ ?_
  unfold F.name_Check.B
  rw [strEq_nil]
  have := name_Check_l s hs s.size 0 (by omega)
  rw [show (0 : Int) = ((0 : Nat) : Int) from rfl, this]
  by_cases h0 : s.size = 0
  · simp [Bool.cond_eq_ite, h0, nameB]
  · by_cases h2 : s.size ≤ 12
    · have h1 : 1 ≤ s.size := by omega
      have h3 : ¬ (s.size : Int) > 12 := by omega
      simp [Bool.cond_eq_ite, h0, h1, h2, h3, nameB]
    · have h3 : (s.size : Int) > 12 := by omega
      simp [Bool.cond_eq_ite, h0, h2, h3, nameB]

theorem refIs_l (s : ByteArray) (hs : s.size ≤ 140737488351232) : ∀ d i : Nat, i + d = s.size → V.pleachref05_Is.l1010 s (i : Int) = some (okFrom s d i && (decide (1 ≤ s.size) && decide (s.size ≤ 12)))
  | 0, i, h => by
    refine V.pleachref05_Is.l1010.of _ _ ?_
    unfold F.pleachref05_Is.l1010.B
    rw [if_out (by omega)]
    by_cases h1 : 1 ≤ s.size
    · have h2 : (s.size : Int) ≥ 1 := by omega
      simp [okFrom, h1, h2]
      omega
    · have h2 : ¬ (s.size : Int) ≥ 1 := by omega
      simp [okFrom, h1, h2]
  | d + 1, i, h => by
    refine V.pleachref05_Is.l1010.of _ _ ?_
    unfold F.pleachref05_Is.l1010.B
    rw [if_in (by omega)]
    simp only [guard_in (show i < s.size by omega), w64_up (show i < s.size by omega) hs, refIs_l s hs d (i + 1) (by omega), okFrom, okc]
    generalize byteAt s (i : Int) = c
    generalize okFrom s d (i + 1) = b
    by_cases a1 : c ≥ 97 <;> by_cases a2 : c ≤ 122 <;> by_cases a3 : c ≥ 48 <;> by_cases a4 : c ≤ 57 <;> by_cases a5 : c = 45 <;> simp [Bool.cond_eq_ite, a1, a2, a3, a4, a5] <;> omega
theorem refIs_ok (s : ByteArray) (hs : s.size ≤ 140737488351232) : V.pleachref05_Is s = some (nameB s) := by
  refine V.pleachref05_Is.of _ ?_
  unfold F.pleachref05_Is.B
  rw [show (0 : Int) = ((0 : Nat) : Int) from rfl, refIs_l s hs s.size 0 (by omega), nameB, Bool.and_comm]

def valueB (v : TValue) : Bool := (v.1 == 1 && (v.2.1 == 0 || v.2.1 == 1) && v.2.2.size == 0) || (v.1 == 2 && v.2.2.size == 0) || (v.1 == 3 && v.2.1 == 0 && decide (v.2.2.size ≤ 64))
theorem value_Check_ok (v : TValue) : V.value_Check v = some (if valueB v then 0 else 2) := by
  refine V.value_Check.of _ ?_
  obtain ⟨a, b, s⟩ := v
  unfold F.value_Check.B valueB
  simp only [strEq_nil]
  by_cases a1 : a = 1
  · subst a1
    by_cases b0 : b = 0 <;> by_cases b1 : b = 1 <;> by_cases s0 : s.size = 0 <;> simp [Bool.cond_eq_ite, b0, b1, s0]
  · by_cases a2 : a = 2
    · subst a2
      by_cases s0 : s.size = 0 <;> simp [Bool.cond_eq_ite, s0]
    · by_cases a3 : a = 3
      · subst a3
        by_cases b0 : b = 0 <;> by_cases s0 : s.size ≤ 64 <;> simp [Bool.cond_eq_ite, b0, s0] <;> omega
      · simp [Bool.cond_eq_ite, a1, a2, a3]
theorem refVIs_ok (v : TValue) : V.pleachref06_Is v = some (valueB v) := by
  refine V.pleachref06_Is.of _ ?_
  obtain ⟨a, b, s⟩ := v
  unfold F.pleachref06_Is.B valueB
  simp only [strEq_nil]
  by_cases a1 : a = 1
  · subst a1
    by_cases s0 : s.size = 0 <;> by_cases b0 : b ≥ 0 <;> by_cases b1 : b ≤ 1 <;> simp [Bool.cond_eq_ite, b0, b1, s0] <;> omega
  · by_cases a2 : a = 2
    · subst a2
      by_cases s0 : s.size = 0 <;> simp [Bool.cond_eq_ite, s0]
    · by_cases a3 : a = 3
      · subst a3
        by_cases b0 : b = 0 <;> by_cases s0 : s.size ≤ 64 <;> simp [Bool.cond_eq_ite, b0, s0] <;> omega
      · simp [Bool.cond_eq_ite, a1, a2, a3]

/-! ### Rows that rise -/

def okProps (l : List TProp) : Prop := l.length ≤ 140737488351232 ∧ ∀ p ∈ l, p.1.size ≤ 140737488351232 ∧ p.2.2.2.size ≤ 140737488351232 ∧ -9223372036854775808 ≤ p.2.2.1 ∧ p.2.2.1 ≤ 9223372036854775807
def okTexts (l : List ByteArray) : Prop := l.length ≤ 140737488351232 ∧ ∀ s ∈ l, s.size ≤ 140737488351232
def propStep (l : List TProp) (i : Nat) : Option Int :=
  if (nameB (rd sProp l i).1 && valueB (rd sProp l i).2) = false then some 2
  else if 0 < i ∧ strLt (rd sProp l (i - 1)).1 (rd sProp l i).1 = false then some 4 else none
def textStep (l : List ByteArray) (i : Nat) : Option Int :=
  if nameB (rd .str l i) = false then some 2
  else if 0 < i ∧ strLt (rd .str l (i - 1)) (rd .str l i) = false then some 4 else none
def propsN (l : List TProp) : Int := if l.length > 8 then 5 else scanI (propStep l) l.length 0
def rowN (l : List ByteArray) : Int := scanI (textStep l) l.length 0
def restN (labels : List ByteArray) (props : List TProp) : Int := if labels.length > 8 then 5 else if rowN labels = 0 then propsN props else rowN labels

theorem CheckProps_l (l : List TProp) (hl : okProps l) : ∀ d i : Nat, i + d = l.length → V.elem_CheckProps.l11010 l (i : Int) = some (scanI (propStep l) d i)
  | 0, i, h => by
    refine V.elem_CheckProps.l11010.of _ _ ?_
    unfold F.elem_CheckProps.l11010.B
    rw [if_out (by omega)]
    rfl
  | d + 1, i, h => by
    refine V.elem_CheckProps.l11010.of _ _ ?_
    unfold F.elem_CheckProps.l11010.B
    have hi : i < l.length := by omega
    rw [if_in hi, guard_in hi]
    simp only [nat_cast, name_Check_ok _ (hl.2 _ (rd_mem (e := sProp) hi)).1, Option.bind_some, value_Check_ok, w64_up hi hl.1, CheckProps_l l hl d (i + 1) (by omega)]
    rw [scanI_succ]
    unfold propStep
    cases hn : nameB (rd sProp l i).1 with
    | false => simp
    | true =>
      cases hv : valueB (rd sProp l i).2 with
      | false => simp [hv]
      | true =>
        by_cases h0 : 0 < i
        · rw [w64_dn hi hl.1 h0, guard_in (show i - 1 < l.length by omega), nat_cast]
          cases hless : strLt (rd sProp l (i - 1)).1 (rd sProp l i).1 <;> simp [hless, hv, h0]
        · have h0 : i = 0 := by omega
          subst h0
          simp [hv]
theorem CheckProps_ok (l : List TProp) (hl : okProps l) : V.elem_CheckProps l = some (propsN l) := by
  refine V.elem_CheckProps.of _ ?_
  unfold F.elem_CheckProps.B propsN
  have := CheckProps_l l hl l.length 0 (by omega)
  rw [show (0 : Int) = ((0 : Nat) : Int) from rfl, this]
  by_cases h : l.length > 8
  · rw [if_yes (by omega), if_pos h]
  · rw [if_no (by omega), if_neg h]
theorem refProps_l (l : List TProp) (hl : okProps l) : ∀ d i : Nat, i + d = l.length → V.pleachref25_Props.l11010 l (i : Int) = some (scanI (propStep l) d i)
  | 0, i, h => by
    refine V.pleachref25_Props.l11010.of _ _ ?_
    unfold F.pleachref25_Props.l11010.B
    rw [if_out (by omega)]
    rfl
  | d + 1, i, h => by
    refine V.pleachref25_Props.l11010.of _ _ ?_
    unfold F.pleachref25_Props.l11010.B
    have hi : i < l.length := by omega
    rw [if_in hi, guard_in hi]
    simp only [nat_cast, refIs_ok _ (hl.2 _ (rd_mem (e := sProp) hi)).1, Option.bind_some, refVIs_ok, w64_up hi hl.1, refProps_l l hl d (i + 1) (by omega), guard_in hi, lt_or]
    rw [scanI_succ]
    unfold propStep
    cases hn : nameB (rd sProp l i).1 with
    | false => simp
    | true =>
      cases hv : valueB (rd sProp l i).2 with
      | false => simp [hv]
      | true =>
        by_cases h0 : 0 < i
        · rw [w64_dn hi hl.1 h0, guard_in (show i - 1 < l.length by omega), nat_cast]
          cases hless : strLt (rd sProp l (i - 1)).1 (rd sProp l i).1 <;> simp [hless, hv, h0]
        · have h0 : i = 0 := by omega
          subst h0
          simp [hv]
theorem refProps_ok (l : List TProp) (hl : okProps l) : V.pleachref25_Props l = some (propsN l) := by
  refine V.pleachref25_Props.of _ ?_
  unfold F.pleachref25_Props.B propsN
  have := refProps_l l hl l.length 0 (by omega)
  rw [show (0 : Int) = ((0 : Nat) : Int) from rfl, this]
  by_cases h : l.length > 8
  · rw [if_yes (by omega), if_pos h]
  · rw [if_no (by omega), if_neg h]

theorem Row_l (l : List ByteArray) (hl : okTexts l) : ∀ d i : Nat, i + d = l.length → V.name_Row.l1010 l (i : Int) = some (scanI (textStep l) d i)
  | 0, i, h => by
    refine V.name_Row.l1010.of _ _ ?_
    unfold F.name_Row.l1010.B
    rw [if_out (by omega)]
    rfl
  | d + 1, i, h => by
    refine V.name_Row.l1010.of _ _ ?_
    unfold F.name_Row.l1010.B
    have hi : i < l.length := by omega
    rw [if_in hi, guard_in hi]
    simp only [nat_cast, name_Check_ok _ (hl.2 _ (rd_mem (e := .str) hi)), Option.bind_some, w64_up hi hl.1, Row_l l hl d (i + 1) (by omega)]
    rw [scanI_succ]
    unfold textStep
    cases hn : nameB (rd .str l i) with
    | false => simp
    | true =>
      by_cases h0 : 0 < i
      · rw [w64_dn hi hl.1 h0, guard_in (show i - 1 < l.length by omega), nat_cast]
        cases hless : strLt (rd .str l (i - 1)) (rd .str l i) <;> simp [hless, h0]
      · have h0 : i = 0 := by omega
        subst h0
        simp
theorem Row_ok (l : List ByteArray) (hl : okTexts l) : V.name_Row l = some (rowN l) := by
  refine V.name_Row.of _ ?_
  unfold F.name_Row.B rowN
  exact Row_l l hl l.length 0 (by omega)
theorem refRow_l (l : List ByteArray) (hl : okTexts l) : ∀ d i : Nat, i + d = l.length → V.pleachref05_Row.l1010 l (i : Int) = some (scanI (textStep l) d i)
  | 0, i, h => by
    refine V.pleachref05_Row.l1010.of _ _ ?_
    unfold F.pleachref05_Row.l1010.B
    rw [if_out (by omega)]
    rfl
  | d + 1, i, h => by
    refine V.pleachref05_Row.l1010.of _ _ ?_
    unfold F.pleachref05_Row.l1010.B
    have hi : i < l.length := by omega
    rw [if_in hi, guard_in hi]
    simp only [nat_cast, refIs_ok _ (hl.2 _ (rd_mem (e := .str) hi)), Option.bind_some, w64_up hi hl.1, refRow_l l hl d (i + 1) (by omega), guard_in hi, lt_or]
    rw [scanI_succ]
    unfold textStep
    cases hn : nameB (rd .str l i) with
    | false => simp
    | true =>
      by_cases h0 : 0 < i
      · rw [w64_dn hi hl.1 h0, guard_in (show i - 1 < l.length by omega), nat_cast]
        cases hless : strLt (rd .str l (i - 1)) (rd .str l i) <;> simp [hless, h0]
      · have h0 : i = 0 := by omega
        subst h0
        simp
theorem refRow_ok (l : List ByteArray) (hl : okTexts l) : V.pleachref05_Row l = some (rowN l) := by
  refine V.pleachref05_Row.of _ ?_
  unfold F.pleachref05_Row.B rowN
  exact refRow_l l hl l.length 0 (by omega)
theorem rest_ok (a : List ByteArray) (l : List TProp) (ha : okTexts a) (hl : okProps l) : V.elem_rest a l = some (restN a l) := by
  refine V.elem_rest.of _ _ ?_
  unfold F.elem_rest.B restN
  rw [Row_ok a ha, CheckProps_ok l hl]
  by_cases h : a.length > 8
  · rw [if_yes (by omega), if_pos h]
  · rw [if_no (by omega), if_neg h]
    by_cases h0 : rowN a = 0 <;> simp [Bool.cond_eq_ite, h0]
theorem refRest_ok (a : List ByteArray) (l : List TProp) (ha : okTexts a) (hl : okProps l) : V.pleachref25_rest a l = some (restN a l) := by
  refine V.pleachref25_rest.of _ _ ?_
  unfold F.pleachref25_rest.B restN
  rw [refRow_ok a ha, refProps_ok l hl]
  by_cases h : a.length > 8
  · rw [if_yes (by omega), if_pos h]
  · rw [if_no (by omega), if_neg h]
    by_cases h0 : rowN a = 0 <;> simp [Bool.cond_eq_ite, h0]
end Go.Proofs.YtdblhdpnllckhaaGreat.AE
end
section
set_option linter.unusedVariables false
set_option linter.unusedSimpArgs false
namespace Go.Proofs.YtdblhdpnllckhaaGreat.AE
open Go

theorem scanI_zero {step : Nat → Option Int} (hs : ∀ i r, step i = some r → r ≠ 0) : ∀ d i, scanI step d i = 0 → ∀ j, i ≤ j → j < i + d → step j = none
  | 0, i, _, j, h1, h2 => by omega
  | d + 1, i, h, j, h1, h2 => by
    rw [scanI_succ] at h
    cases hq : step i with
    | some r => rw [hq] at h; exact absurd h (hs i r hq)
    | none =>
      rw [hq] at h
      by_cases hij : j = i
      · rw [hij]; exact hq
      · exact scanI_zero hs d (i + 1) h j (by omega) (by omega)
theorem propStep_ne (l : List TProp) (i : Nat) (r : Int) (h : propStep l i = some r) : r ≠ 0 := by
  unfold propStep at h
  split at h
  · injection h with h; omega
  · split at h
    · injection h with h; omega
    · cases h
theorem textStep_ne (l : List ByteArray) (i : Nat) (r : Int) (h : textStep l i = some r) : r ≠ 0 := by
  unfold textStep at h
  split at h
  · injection h with h; omega
  · split at h
    · injection h with h; omega
    · cases h
theorem nameB_size {s : ByteArray} (h : nameB s = true) : 1 ≤ s.size ∧ s.size ≤ 12 := by
  unfold nameB at h
  simp at h
  exact ⟨h.1.1, h.1.2⟩
theorem textStep_none {l : List ByteArray} {i : Nat} (h : textStep l i = none) : nameB (rd .str l i) = true ∧ (0 < i → strLt (rd .str l (i - 1)) (rd .str l i) = true) := by
  unfold textStep at h
  split at h
  · cases h
  · rename_i h1
    split at h
    · cases h
    · rename_i h2
      refine ⟨by simpa using h1, fun h0 => ?_⟩
      cases hq : strLt (rd .str l (i - 1)) (rd .str l i) with
      | true => rfl
      | false => exact absurd ⟨h0, hq⟩ h2
theorem propStep_none {l : List TProp} {i : Nat} (h : propStep l i = none) : nameB (rd sProp l i).1 = true ∧ valueB (rd sProp l i).2 = true ∧ (0 < i → strLt (rd sProp l (i - 1)).1 (rd sProp l i).1 = true) := by
  unfold propStep at h
  split at h
  · cases h
  · rename_i h1
    split at h
    · cases h
    · rename_i h2
      have h3 : nameB (rd sProp l i).1 = true ∧ valueB (rd sProp l i).2 = true := by simpa using h1
      refine ⟨h3.1, h3.2, fun h0 => ?_⟩
      cases hq : strLt (rd sProp l (i - 1)).1 (rd sProp l i).1 with
      | true => rfl
      | false => exact absurd ⟨h0, hq⟩ h2
/-- What a row of names, of properties that may be is. -/
theorem rowN_zero {l : List ByteArray} (h : rowN l = 0) {i : Nat} (hi : i < l.length) : nameB (rd .str l i) = true ∧ (0 < i → strLt (rd .str l (i - 1)) (rd .str l i) = true) :=
  textStep_none (scanI_zero (textStep_ne l) l.length 0 h i (by omega) (by omega))
theorem propsN_len {l : List TProp} (h : propsN l = 0) : l.length ≤ 8 := by
  unfold propsN at h
  split at h
  · omega
  · omega
theorem propsN_zero {l : List TProp} (h : propsN l = 0) {i : Nat} (hi : i < l.length) : nameB (rd sProp l i).1 = true ∧ valueB (rd sProp l i).2 = true ∧ (0 < i → strLt (rd sProp l (i - 1)).1 (rd sProp l i).1 = true) := by
  have h8 := propsN_len h
  unfold propsN at h
  rw [if_neg (by omega)] at h
  exact propStep_none (scanI_zero (propStep_ne l) l.length 0 h i (by omega) (by omega))
theorem restN_zero {a : List ByteArray} {l : List TProp} (h : restN a l = 0) : a.length ≤ 8 ∧ rowN a = 0 ∧ propsN l = 0 := by
  unfold restN at h
  split at h
  · omega
  · split at h
    · rename_i h1 h2
      exact ⟨by omega, h2, h⟩
    · rename_i h1 h2
      exact absurd h h2

/-- Labels and properties are as few and short as they may be. -/
structure Short (a : List ByteArray) (l : List TProp) : Prop where
  na : a.length ≤ 8
  nl : l.length ≤ 8
  ta : ∀ i, i < a.length → (rd .str a i).size ≤ 12
  tl : ∀ i, i < l.length → (rd sProp l i).1.size ≤ 12
theorem Short.of {a : List ByteArray} {l : List TProp} (h : restN a l = 0) : Short a l := by
  obtain ⟨h1, h2, h3⟩ := restN_zero h
  exact ⟨h1, propsN_len h3, fun i hi => (nameB_size (rowN_zero h2 hi).1).2, fun i hi => (nameB_size (propsN_zero h3 hi).1).2⟩
structure okNode (n : TNode) : Prop where
  id : n.1.size ≤ 140737488351232
  la : okTexts n.2.1
  pr : okProps n.2.2
structure okEdge (x : TEdge) : Prop where
  id : x.1.size ≤ 140737488351232
  fr : x.2.1.size ≤ 140737488351232
  to : x.2.2.1.size ≤ 140737488351232
  la : okTexts x.2.2.2.1
  pr : okProps x.2.2.2.2
def nodeN (n : TNode) : Int := if nameB n.1 then restN n.2.1 n.2.2 else 2
def edgeN (x : TEdge) : Int := if nameB x.1 && nameB x.2.1 && nameB x.2.2.1 then restN x.2.2.2.1 x.2.2.2.2 else 2
theorem CheckNode_ok (n : TNode) (h : okNode n) : V.elem_CheckNode n = some (nodeN n) := by
  refine V.elem_CheckNode.of _ ?_
  unfold F.elem_CheckNode.B nodeN
  rw [name_Check_ok _ h.id, Option.bind_some, rest_ok _ _ h.la h.pr]
  cases nameB n.1 <;> simp
theorem refNode_ok (n : TNode) (h : okNode n) : V.pleachref25_Node n = some (nodeN n) := by
  refine V.pleachref25_Node.of _ ?_
  unfold F.pleachref25_Node.B nodeN
  rw [refIs_ok _ h.id, Option.bind_some, refRest_ok _ _ h.la h.pr]
  cases nameB n.1 <;> simp
theorem CheckEdge_ok (x : TEdge) (h : okEdge x) : V.elem_CheckEdge x = some (edgeN x) := by
  have e3 : V.elem_CheckEdge.l1010 x 3 = some (restN x.2.2.2.1 x.2.2.2.2) := by
    refine V.elem_CheckEdge.l1010.of _ _ ?_
    unfold F.elem_CheckEdge.l1010.B
    rw [rest_ok _ _ h.la h.pr]
    simp
  have e2 : V.elem_CheckEdge.l1010 x 2 = some (if nameB x.2.2.1 then restN x.2.2.2.1 x.2.2.2.2 else 2) := by
    refine V.elem_CheckEdge.l1010.of _ _ ?_
    unfold F.elem_CheckEdge.l1010.B
    rw [w64_id (by omega) (by omega), show (2 : Int) + 1 = 3 from rfl, e3, name_Check_ok _ h.to]
    cases nameB x.2.2.1 <;> simp
  have e1 : V.elem_CheckEdge.l1010 x 1 = some (if nameB x.2.1 && nameB x.2.2.1 then restN x.2.2.2.1 x.2.2.2.2 else 2) := by
    refine V.elem_CheckEdge.l1010.of _ _ ?_
    unfold F.elem_CheckEdge.l1010.B
    rw [w64_id (by omega) (by omega), show (1 : Int) + 1 = 2 from rfl, e2, name_Check_ok _ h.fr]
    cases nameB x.2.1 <;> simp
  have e0 : V.elem_CheckEdge.l1010 x 0 = some (edgeN x) := by
    refine V.elem_CheckEdge.l1010.of _ _ ?_
    unfold F.elem_CheckEdge.l1010.B edgeN
    rw [w64_id (by omega) (by omega), show (0 : Int) + 1 = 1 from rfl, e1, name_Check_ok _ h.id]
    cases nameB x.1 <;> simp
  refine V.elem_CheckEdge.of _ ?_
  unfold F.elem_CheckEdge.B
  exact e0
theorem refEdge_ok (x : TEdge) (h : okEdge x) : V.pleachref25_Edge x = some (edgeN x) := by
  refine V.pleachref25_Edge.of _ ?_
  unfold F.pleachref25_Edge.B edgeN
  rw [refIs_ok _ h.id, Option.bind_some, refIs_ok _ h.fr, refIs_ok _ h.to, refRest_ok _ _ h.la h.pr]
  cases nameB x.1 <;> cases nameB x.2.1 <;> cases nameB x.2.2.1 <;> simp

end Go.Proofs.YtdblhdpnllckhaaGreat.AE
end
