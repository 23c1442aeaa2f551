/- The evaluator of the program's form, its soundness, the functions of the given program as it evaluates them, and laws on these. Conditions: as each theorem says. -/
import Derived.Test.YtdblhdpnllckhaaCFactsOrderN2
import Derived.Test.YtdblhdpnllckhaaProg
import Derived.Test.YtdblhdpnllckhaaRows
import Derived.WalkKit
import Derived.ProofKit
import Derived.OpenShut
import Derived.ShutString
import Derived.ChangeOld
import Derived.Below
import Derived.SizedLaws
section
set_option linter.unusedVariables false
set_option maxRecDepth 100000
namespace Go.Proofs.Ytdblhdpnllckhaa.AE
open Go
abbrev TEntry : Type := ByteArray × ByteArray
abbrev sEntry : Sh := (.prod .str .str)
abbrev sEdit : Sh := (.prod .str (.prod .str .bool))
abbrev TValue : Type := Int × Int × ByteArray
abbrev sValue : Sh := (.prod (.int .i64) (.prod (.int .i64) .str))
abbrev TFact : Type := Int × ByteArray × TEntry
abbrev sFact : Sh := (.prod (.int .i64) (.prod .str sEntry))
abbrev TProp : Type := ByteArray × TValue
abbrev sProp : Sh := (.prod .str sValue)
abbrev sScan : Sh := (.prod .str (.prod (.int .i64) (.prod (.int .i64) .bool)))
abbrev sChange : Sh := (.prod (.int .i64) (.prod .str (.prod .str (.prod .bool (.prod .bool sEntry)))))
abbrev TNode : Type := ByteArray × (List ByteArray) × List TProp
abbrev sNode : Sh := (.prod .str (.prod (.list .str) (.list sProp)))
abbrev TEdge : Type := ByteArray × ByteArray × TNode
abbrev sEdge : Sh := (.prod .str (.prod .str sNode))
abbrev TGraph : Type := (List TNode) × List TEdge
abbrev sGraph : Sh := (.prod (.list sNode) (.list sEdge))
def sgT : List (Nat × Sig) := [
  (3, { ps := [(.agg sGraph)], vals := [.sc .bool] }),
  (4, { ps := [(.sc (.list sFact)), (.sc (.list sFact)), (.sc (.list sChange))], vals := [.sc .bool] }),
  (5, { ps := [(.sc (.list sFact)), .raw, .raw], vals := [.sc .bool] }),
  (8, { ps := [(.agg sGraph)], vals := [.sc .bool] }),
  (11, { ps := [(.agg sGraph)], vals := [.sc .bool] }),
  (12, { ps := [(.agg sGraph)], vals := [.sc .bool] }),
  (13, { vals := [.sc .bool] }),
  (14, { ps := [(.agg sGraph)], vals := [.own sFact], coer := [(3, (.own sFact))], excl := [(13, [0])] }),
  (15, { ps := [(.sc (.list sFact)), (.sc (.list sFact))], vals := [.sc .bool] }),
  (16, { ps := [(.agg sGraph)], vals := [.own sFact], coer := [(3, (.own sFact))], excl := [(24, [1]), (47, [0])] }),
  (17, { ps := [(.sc (.list sFact))], vals := [.sc (.int .i64)] }),
  (18, { ps := [(.sc (.list sFact))], vals := [.sc .bool] }),
  (19, { ps := [(.sc (.list sFact))], vals := [.sc .bool] }),
  (20, { ps := [(.sc (.list sChange)), (.sc (.list sChange))], vals := [.sc .bool] }),
  (21, { ps := [(.sc (.list sFact)), (.sc (.list sFact))], vals := [.own sChange], coer := [(5, (.own sChange))], excl := [(11, [1]), (12, [0]), (15, [0, 1]), (16, [0]), (19, [1])] }),
  (22, { ps := [(.sc (.list sFact)), (.sc (.list sFact))], vals := [.own sChange], coer := [(5, (.own sChange))] }),
  (23, { ps := [(.agg sFact), (.agg sFact)], vals := [.sc .bool] }),
  (24, { ps := [(.sc (.list sFact)), (.sc (.list sChange))], vals := [.own sFact], coer := [(5, (.own sFact))], excl := [(7, [0])] }),
  (25, { ps := [(.sc (.list sFact)), (.sc (.list sChange))], vals := [.own sFact], coer := [(5, (.own sFact)), (8, (.own sFact))] }),
  (26, { ps := [(.agg sFact), (.agg sFact)], vals := [.sc (.int .i64)] }),
  (27, { vals := [.sc .str] }),
  (28, { tup := true, vals := [.sc .str, .sc .str] }),
  (29, { tup := true, vals := [.sc .str, .sc .str] }),
  (30, { ps := [(.agg sGraph)], vals := [.sc (.int .i64)] }),
  (38, { ps := [(.sc (.list .str)), (.sc (.list .str))], vals := [.sc .bool] }),
  (39, { ps := [(.sc (.list sProp)), (.sc (.list sProp))], vals := [.sc .bool] }),
  (41, { ps := [(.agg sGraph)], vals := [.sc (.int .i64)] }),
  (42, { ps := [(.agg sGraph), (.agg sGraph)], vals := [.sc .bool] }),
  (43, { ps := [(.agg sGraph)], vals := [.sc .bool] }),
  (44, { vals := [.sc .bool] }),
  (45, { ps := [(.agg sGraph)], tup := true, vals := [.agg (.prod (.list sEntry) (.prod (.list sEntry) (.prod (.list sEntry) (.list sEntry)))), .sc (.int .i64)] }),
  (46, { ps := [(.agg sGraph)], tup := true, vals := [.sc (.list sEntry), .sc (.list sEntry), .sc (.list sEntry), .sc (.list sEntry), .sc (.int .i64)], coer := [(7, (.sc (.list sEntry))), (8, (.sc (.list sEntry))), (9, (.sc (.list sEntry))), (10, (.sc (.list sEntry)))] }),
  (47, { ps := [(.sc (.list sEntry)), (.sc (.list sEntry))], vals := [.sc .bool] }),
  (48, { ps := [(.sc (.list sNode))], tup := true, vals := [.own sEntry, .sc (.int .i64)], coer := [(4, (.own sEntry))] }),
  (49, { ps := [(.sc (.list sEdge))], tup := true, vals := [.own sEntry, .sc (.int .i64)], coer := [(4, (.own sEntry))] }),
  (50, { ps := [(.sc (.list sEdge))], tup := true, vals := [.own sEntry, .sc (.int .i64)] }),
  (51, { ps := [(.sc (.list sEdge))], tup := true, vals := [.own sEntry, .sc (.int .i64)] }),
  (55, { ps := [(.sc (.list sEntry))], tup := true, vals := [.own sNode, .sc (.int .i64)], coer := [(4, (.own sNode))] }),
  (56, { ps := [(.sc (.list sEntry))], tup := true, vals := [.own sEdge, .sc (.int .i64)], coer := [(4, (.own sEdge))] }),
  (57, { ps := [(.sc (.list .str)), (.sc (.list sProp))], vals := [.sc (.int .i64)] }),
  (58, { ps := [.raw, .raw, .raw, (.sc (.list .str)), (.sc (.list sProp))], vals := [.own sFact], coer := [(11, (.own sFact))] }),
  (59, { ps := [(.own sFact), .raw], tup := true, blks := [.elems 0 sFact] }),
  (60, { ps := [(.agg sValue)], vals := [.sc .str] }),
  (61, { ps := [(.agg sFact)], vals := [.agg sChange] }),
  (62, { ps := [(.sc (.list sFact)), (.sc (.list sFact))], vals := [.own sFact], coer := [(5, (.own sFact))] }),
  (63, { ps := [(.sc (.list sFact)), (.agg sFact)], tup := true, vals := [.sc .str, .sc .bool] }),
  (64, { ps := [(.sc (.list (.int .i64)))], vals := [.sc (.int .i64)] }),
  (65, { vals := [.sc (.int .i64)] }),
  (66, { vals := [.sc (.int .i64)] }),
  (67, { tup := true, vals := [.sc .str, .sc .str, .sc .bool] }),
  (68, { ps := [(.agg sNode)], vals := [.sc (.int .i64)] }),
  (69, { ps := [(.agg sEdge)], vals := [.sc (.int .i64)] }),
  (70, { ps := [(.agg sGraph), .raw], vals := [.sc (.int .i64)] }),
  (71, { vals := [.sc .bool] }),
  (72, { ps := [(.agg sValue)], vals := [.sc .bool] }),
  (73, { vals := [.sc (.int .i64)] }),
  (85, { ps := [(.agg sNode)], vals := [.sc (.int .i64)] }),
  (86, { ps := [(.agg sEdge)], vals := [.sc (.int .i64)] }),
  (87, { ps := [(.agg sGraph), .raw], tup := true, vals := [.sc (.int .i64), .sc .bool] }),
  (88, { ps := [(.agg sNode), (.agg sNode)], vals := [.sc .bool] }),
  (89, { ps := [(.agg sEdge), (.agg sEdge)], vals := [.sc .bool] }),
  (90, { tup := true, vals := [.sc .str, .sc (.int .i64)] }),
  (91, { ps := [(.sc (.list sEntry)), .raw, .raw], vals := [.sc (.list sEntry)] }),
  (92, { ps := [(.agg sNode)], vals := [.sc .str] }),
  (93, { ps := [(.agg sEdge)], vals := [.sc .str] }),
  (94, { ps := [(.agg sNode)], tup := true, vals := [.sc .str, .sc (.int .i64)] }),
  (95, { ps := [(.own sEntry)], vals := [.own sEntry] }),
  (96, { ps := [(.agg sEdge)], tup := true, vals := [.sc .str, .sc (.int .i64)] }),
  (97, { ps := [(.sc (.list sEdge)), .raw], tup := true, vals := [.own sEntry, .sc (.int .i64)], coer := [(6, (.own sEntry))] }),
  (98, { ps := [(.agg sEdge)], tup := true, vals := [.sc .str, .sc .str] }),
  (99, { ps := [(.agg sEdge)], tup := true, vals := [.sc .str, .sc .str] }),
  (109, { tup := true, vals := [.agg sNode, .sc (.int .i64)] }),
  (110, { tup := true, vals := [.agg sEdge, .sc (.int .i64)] }),
  (111, { ps := [(.agg sValue)], tup := true, vals := [.sc .str, .sc (.int .i64)] }),
  (112, { ps := [(.own sFact), .raw, .raw], tup := true, blks := [.elems 0 sFact] }),
  (113, { vals := [.sc .str] }),
  (114, { vals := [.sc (.int .u64)] }),
  (115, { vals := [.sc .str] }),
  (116, { vals := [.sc .bool] }),
  (117, { vals := [.sc (.int .i64)] }),
  (118, { tup := true, vals := [.sc .str, .sc .str, .sc .bool] }),
  (119, { ps := [(.sc (.list .str)), (.sc (.list sProp))], vals := [.sc (.int .i64)] }),
  (120, { vals := [.sc .bool] }),
  (121, { ps := [(.agg sValue)], vals := [.sc (.int .i64)] }),
  (134, { ps := [(.sc (.list .str)), (.sc (.list sProp))], vals := [.sc (.int .i64)] }),
  (135, { ps := [(.sc (.list sNode)), .raw, .raw], tup := true, vals := [.sc (.int .i64), .sc .bool] }),
  (136, { ps := [(.agg sNode), .raw], vals := [.sc (.int .i64)] }),
  (137, { vals := [.sc (.int .i64)] }),
  (138, { ps := [(.sc (.list sEntry)), (.sc (.list sEdit))], vals := [.sc (.list sEntry)], coer := [(0, (.sc (.list sEntry)))] }),
  (139, { ps := [(.sc (.list .str)), (.sc (.list sProp))], vals := [.sc .str] }),
  (140, { ps := [(.sc (.list .str)), (.sc (.list sProp))], vals := [.sc .str] }),
  (141, { ps := [(.own sEntry), .raw], tup := true, blks := [.elems 0 sEntry] }),
  (142, { ps := [(.agg sEntry), (.agg sEntry)], vals := [.sc (.int .i64)] }),
  (143, { vals := [.sc .str] }),
  (145, { vals := [.ptr 230 sScan] }),
  (146, { tup := true, vals := [.own .str, .own sProp], blks := [.cells 0 sScan], coer := [(2, (.own .str)), (3, (.own sProp))] }),
  (147, { vals := [.sc (.int .i64)], blks := [.cells 0 sScan], excl := [(1, [0])] }),
  (148, { vals := [.sc .str], blks := [.cells 0 sScan] }),
  (149, { vals := [.sc .str] }),
  (150, { ps := [(.own sFact), .raw, .raw, .raw], tup := true, blks := [.elems 0 sFact], excl := [(6, [0])] }),
  (151, { ps := [(.own sFact), .raw, .raw, .raw, .raw], tup := true, blks := [.elems 0 sFact], excl := [(11, [0]), (23, [0])] }),
  (152, { vals := [.own (.int .i64)] }),
  (153, { op := some opCompare }),
  (154, { vals := [.sc (.int .i64)] }),
  (155, { ps := [(.sc (.list .str))], vals := [.sc (.int .i64)] }),
  (156, { ps := [(.sc (.list sProp))], vals := [.sc (.int .i64)] }),
  (172, { ps := [(.sc (.list .str))], vals := [.sc (.int .i64)] }),
  (173, { ps := [(.sc (.list sProp))], vals := [.sc (.int .i64)] }),
  (174, { vals := [.sc .bool] }),
  (175, { ps := [(.sc (.list sEntry)), (.agg sEdit)], vals := [.own sEntry], coer := [(5, (.own sEntry))] }),
  (176, { vals := [.sc .str] }),
  (177, { vals := [.sc .str] }),
  (178, { ps := [(.own sEntry), .raw, .raw, .raw, .raw], tup := true, blks := [.elems 0 sEntry] }),
  (179, { vals := [.sc (.int .i64)] }),
  (180, { vals := [.sc .str] }),
  (182, { vals := [.sc (.int .i64)], blks := [.cells 0 sScan] }),
  (183, { vals := [.agg sValue], blks := [.cells 0 sScan] }),
  (184, { vals := [.sc (.int .i64)], blks := [.cells 0 sScan] }),
  (185, { vals := [.sc .str], blks := [.cells 0 sScan] }),
  (186, { vals := [.sc .str] }),
  (187, { ps := [(.own sFact), .raw, .raw, .raw, .raw], tup := true, blks := [.elems 0 sFact] }),
  (188, { vals := [.sc (.int .i64)] }),
  (203, { ps := [(.own sEntry), .raw, .raw, .raw], tup := true, blks := [.elems 0 sEntry], excl := [(6, [0])] }),
  (204, { ps := [(.own sEntry), .raw, .raw, .raw], tup := true, blks := [.elems 0 sEntry], excl := [(10, [0])] }),
  (205, { ps := [(.own sEntry), .raw, .raw, .raw], tup := true, blks := [.elems 0 sEntry], excl := [(10, [0])] }),
  (206, { ps := [(.own sEntry), .raw, .raw, .raw], tup := true, vals := [.sc (.int .i64), .sc (.int .i64)], blks := [.elems 0 sEntry] }),
  (207, { ps := [(.own sEntry), .raw, .raw, .raw], tup := true, blks := [.elems 0 sEntry], excl := [(3, [0])] }),
  (208, { ps := [(.own sEntry), .raw, .raw, .raw], vals := [.sc .bool], blks := [.elems 0 sEntry], excl := [(11, [0]), (17, [0]), (23, [0])] }),
  (209, { ps := [(.own sEntry), .raw, .raw, .raw, .raw], vals := [.sc (.int .i64)], blks := [.elems 0 sEntry], excl := [(1, [0]), (8, [0])] }),
  (210, { ps := [(.own sEntry), .raw, .raw, .raw, .raw], tup := true, vals := [.sc (.int .i64), .sc .bool], blks := [.elems 0 sEntry], excl := [(1, [0]), (8, [0]), (10, [0]), (18, [0]), (21, [0])] }),
  (212, { vals := [.sc (.int .i64)] }),
  (213, { tup := true, vals := [.sc (.int .u64), .sc (.int .i64), .sc .bool] }),
  (214, { tup := true, blks := [.cells 0 sScan] }),
  (215, { vals := [.sc (.int .i64)], blks := [.cells 0 sScan] }),
  (216, { vals := [.sc (.int .i64)], blks := [.cells 0 sScan] }),
  (217, { tup := true, blks := [.cells 0 sScan] }),
  (218, { vals := [.sc (.int .u64)] }),
  (219, { ps := [(.own sFact), .raw, .raw, .raw, .raw], tup := true, blks := [.elems 0 sFact], excl := [(3, [0])] }),
  (220, { op := some opIndexByte }),
  (228, { ps := [(.own sEntry), .raw, .raw, .raw, .raw], tup := true, blks := [.elems 0 sEntry], excl := [(6, [0])] }),
  (229, { vals := [.sc (.int .u64)] }),
  (230, { vals := [.sc (.int .u64)], blks := [.cells 0 (.int .u64)], excl := [(1, [0]), (2, [0]), (3, [0])] }),
  (231, { ps := [(.own sEntry), .raw, .raw, .raw], vals := [.sc (.int .i64)], blks := [.elems 0 sEntry, .cells 1 (.int .i64)] }),
  (232, { ps := [(.own sEntry), .raw, .raw, .raw, .raw, .raw], vals := [.sc (.int .i64)], blks := [.elems 0 sEntry, .cells 1 (.int .i64)] }),
  (233, { tup := true, vals := [.sc (.int .i64), .sc (.int .i64), .sc .bool] }),
  (237, { ps := [(.own sEntry), .raw, .raw, .raw, .raw], tup := true, vals := [.sc (.int .i64), .sc (.int .i64)], blks := [.elems 0 sEntry, .cells 1 (.int .i64)] }),
  (238, { vals := [.sc (.int .i64)] })]
abbrev sg : FuncId → Sig := sigOf sgT
noncomputable def F.pleachref27_Few (K : Nat) (a0 : List TFact) : Option (Bool) := evFn Try.prog sg K 18 [.sc (.list sFact a0 false)] []
noncomputable def F.pleachref27_Few.at (K : Nat) (p ns : List Nat) (s : St) : Option (Bool) := atFn Try.prog sg K 18 0 p ns s
noncomputable def F.pleachref27_Few.in (K : Nat) (H : List Nat → List Nat → St → Option (Bool)) (p ns : List Nat) (s : St) : Option (Bool) := inFn Try.prog sg K 18 0 [] H p ns s
theorem F.pleachref27_Few.in_eq K p ns s : F.pleachref27_Few.at K p ns s = F.pleachref27_Few.in K (F.pleachref27_Few.at K) p ns s := atFn_eq (P := Try.prog) (sg := sg) (K := K) (f := 18) (m := 0) [] p ns s
theorem F.pleachref27_Few.in_main K a0 : F.pleachref27_Few (K + 1) a0 = F.pleachref27_Few.in K (F.pleachref27_Few.at K) [] [] ⟨slots [.sc (.list sFact a0 false)] 0, []⟩ := evFn_eq (P := Try.prog) (sg := sg) (K := K) (f := 18) (args := [.sc (.list sFact a0 false)]) (σ := []) [] (by kernel_rfl)
def F.pleachref27_Few.l11010.st (a0 : List TFact) (x0 : Int) (x1 : Int) : St := ⟨[(0, vL sFact a0), (3, vI x0), (4, vI x1)], []⟩
noncomputable def F.pleachref27_Few.l11010 (K n0 : Nat) (a0 : List TFact) (x0 : Int) (x1 : Int) := F.pleachref27_Few.at K [1, 1, 0, 1, 0] [n0] (F.pleachref27_Few.l11010.st a0 x0 x1)
noncomputable def F.pleachref27_Few.l11010.B (c0 : (List TFact) → (Int) → (Int) → Option (Bool)) (a0 : List TFact) (x0 : Int) (x1 : Int) : Option (Bool) :=
    (bif (decide (x1 < (a0.length : Int))) then (bif (decide (x1 ≤ 120)) then (guardK (decide (0 ≤ x1) && decide (x1 < (a0.length : Int))) (guardK (decide (0 ≤ x1) && decide (x1 < (a0.length : Int))) (guardK (decide (0 ≤ x1) && decide (x1 < (a0.length : Int))) (c0 a0 (w64 ((w64 ((w64 (x0 + (if 5000 < ((((rd sFact a0 x1.toNat).2).1).size : Int) then 5000 else ((((rd sFact a0 x1.toNat).2).1).size : Int)))) + (if 5000 < (((((rd sFact a0 x1.toNat).2).2).1).size : Int) then 5000 else (((((rd sFact a0 x1.toNat).2).2).1).size : Int)))) + (if 5000 < (((((rd sFact a0 x1.toNat).2).2).2).size : Int) then 5000 else (((((rd sFact a0 x1.toNat).2).2).2).size : Int)))) (w64 (x1 + 1)))))) else (bif (decide ((a0.length : Int) ≤ 120)) then (some (decide (x0 ≤ 5000))) else (some false))) else (bif (decide ((a0.length : Int) ≤ 120)) then (some (decide (x0 ≤ 5000))) else (some false)))
theorem F.pleachref27_Few.l11010.eq K n0 a0 x0 x1 : F.pleachref27_Few.l11010 K (n0 + 1) a0 x0 x1 = F.pleachref27_Few.l11010.B (F.pleachref27_Few.l11010 K n0) a0 x0 x1 := (F.pleachref27_Few.in_eq K [1, 1, 0, 1, 0] [n0 + 1] (F.pleachref27_Few.l11010.st a0 x0 x1)).trans ((show ∀ H, F.pleachref27_Few.in K H [1, 1, 0, 1, 0] [n0 + 1] (F.pleachref27_Few.l11010.st a0 x0 x1) = F.pleachref27_Few.l11010.B (fun a0 x0 x1 => H [1, 1, 0, 1, 0] [n0] (F.pleachref27_Few.l11010.st a0 x0 x1)) a0 x0 x1 from by intro H; kernel_rfl) (F.pleachref27_Few.at K))
noncomputable def F.pleachref27_Few.B (c0 : (List TFact) → (Int) → (Int) → Option (Bool)) (a0 : List TFact) : Option (Bool) :=
    (c0 a0 0 0)
theorem F.pleachref27_Few.eq K a0 : F.pleachref27_Few (K + 1) a0 = F.pleachref27_Few.B (F.pleachref27_Few.l11010 K K) a0 := (F.pleachref27_Few.in_main K a0).trans ((show ∀ H, F.pleachref27_Few.in K H [] [] ⟨slots [.sc (.list sFact a0 false)] 0, []⟩ = F.pleachref27_Few.B (fun a0 x0 x1 => H [1, 1, 0, 1, 0] [K] (F.pleachref27_Few.l11010.st a0 x0 x1)) a0 from by intro H; kernel_rfl) (F.pleachref27_Few.at K))
noncomputable def V.pleachref27_Few.l11010 (a0 : List TFact) (x0 : Int) (x1 : Int) := lim fun v => F.pleachref27_Few.l11010 (v 0) (v 1) a0 x0 x1
noncomputable def V.pleachref27_Few (a0 : List TFact) := lim fun v => F.pleachref27_Few (v 0) a0
theorem V.pleachref27_Few.l11010.of a0 x0 x1 {r} (h : F.pleachref27_Few.l11010.B V.pleachref27_Few.l11010 a0 x0 x1 = some r) : V.pleachref27_Few.l11010 a0 x0 x1 = some r :=
  App.to (App.step 1 (fun v => F.pleachref27_Few.l11010.eq (v 0) (v 1) a0 x0 x1) (by unfold F.pleachref27_Few.l11010.B; repeat' first | exact App.val | exact App.no | exact App.lim | apply App.cond | apply App.guard | apply App.meet | apply App.ite | refine App.bind ?_ fun _ => ?_)) h
theorem V.pleachref27_Few.of a0 {r} (h : F.pleachref27_Few.B V.pleachref27_Few.l11010 a0 = some r) : V.pleachref27_Few a0 = some r :=
  App.to (App.step 0 (fun v => F.pleachref27_Few.eq (v 0) a0) (by unfold F.pleachref27_Few.B; repeat' first | exact App.val | exact App.no | exact App.lim | exact (App.enter 1 App.lim) | apply App.cond | apply App.guard | apply App.meet | apply App.ite | refine App.bind ?_ fun _ => ?_)) h
noncomputable def F.name_fits (K : Nat) (a0 : Int) : Option (Bool) := evFn Try.prog sg K 120 [.sc (.val (.int .u8 a0))] []
noncomputable def F.name_fits.B (a0 : Int) : Option (Bool) :=
    (bif (decide (a0 ≥ 97)) then (bif (decide (a0 ≤ 122)) then (some true) else (bif (decide (a0 ≥ 48)) then (bif (decide (a0 ≤ 57)) then (some true) else (some (a0 == 45))) else (some (a0 == 45)))) else (bif (decide (a0 ≥ 48)) then (bif (decide (a0 ≤ 57)) then (some true) else (some (a0 == 45))) else (some (a0 == 45))))
theorem F.name_fits.eq K a0 : F.name_fits (K + 1) a0 = F.name_fits.B a0 := by kernel_rfl
noncomputable def V.name_fits (a0 : Int) := lim fun v => F.name_fits (v 0) a0
theorem V.name_fits.of a0 {r} (h : F.name_fits.B a0 = some r) : V.name_fits a0 = some r :=
  App.to (App.step 0 (fun v => F.name_fits.eq (v 0) a0) (by unfold F.name_fits.B; repeat' first | exact App.val | exact App.no | exact App.lim | apply App.cond | apply App.guard | apply App.meet | apply App.ite | refine App.bind ?_ fun _ => ?_)) h
noncomputable def F.name_Check (K : Nat) (a0 : ByteArray) : Option (Int) := evFn Try.prog sg K 73 [.sc (.val (.string a0))] []
noncomputable def F.name_Check.at (K : Nat) (p ns : List Nat) (s : St) : Option (Int) := atFn Try.prog sg K 73 0 p ns s
noncomputable def F.name_Check.in (K : Nat) (H : List Nat → List Nat → St → Option (Int)) (p ns : List Nat) (s : St) : Option (Int) := inFn Try.prog sg K 73 0 [] H p ns s
theorem F.name_Check.in_eq K p ns s : F.name_Check.at K p ns s = F.name_Check.in K (F.name_Check.at K) p ns s := atFn_eq (P := Try.prog) (sg := sg) (K := K) (f := 73) (m := 0) [] p ns s
theorem F.name_Check.in_main K a0 : F.name_Check (K + 1) a0 = F.name_Check.in K (F.name_Check.at K) [] [] ⟨slots [.sc (.val (.string a0))] 0, []⟩ := evFn_eq (P := Try.prog) (sg := sg) (K := K) (f := 73) (args := [.sc (.val (.string a0))]) (σ := []) [] (by kernel_rfl)
def F.name_Check.l11010.st (a0 : ByteArray) (x0 : Int) : St := ⟨[(0, vS a0), (12, vI (a0.size : Int)), (13, vI x0)], []⟩
noncomputable def F.name_Check.l11010 (K n0 : Nat) (a0 : ByteArray) (x0 : Int) := F.name_Check.at K [1, 1, 0, 1, 0] [n0] (F.name_Check.l11010.st a0 x0)
noncomputable def F.name_Check.l11010.B (c0 : (Int) → Option (Bool)) (c1 : (ByteArray) → (Int) → Option (Int)) (a0 : ByteArray) (x0 : Int) : Option (Int) :=
    (bif (decide (x0 < (a0.size : Int))) then (guardK (decide (0 ≤ x0) && decide (x0 < (a0.size : Int))) ((c0 (byteAt a0 x0)).bind fun t0 => (bif (!t0) then (some 2) else (c1 a0 (w64 (x0 + 1)))))) else (some 0))
theorem F.name_Check.l11010.eq K n0 a0 x0 : F.name_Check.l11010 K (n0 + 1) a0 x0 = F.name_Check.l11010.B (F.name_fits K) (F.name_Check.l11010 K n0) a0 x0 := (F.name_Check.in_eq K [1, 1, 0, 1, 0] [n0 + 1] (F.name_Check.l11010.st a0 x0)).trans ((show ∀ H, F.name_Check.in K H [1, 1, 0, 1, 0] [n0 + 1] (F.name_Check.l11010.st a0 x0) = F.name_Check.l11010.B (F.name_fits K) (fun a0 x0 => H [1, 1, 0, 1, 0] [n0] (F.name_Check.l11010.st a0 x0)) a0 x0 from by intro H; kernel_rfl) (F.name_Check.at K))
noncomputable def F.name_Check.B (c0 : (ByteArray) → (Int) → Option (Int)) (a0 : ByteArray) : Option (Int) :=
    (bif (strEq a0 (⟨#[]⟩ : ByteArray)) then (some 2) else (bif (decide ((a0.size : Int) > 12)) then (some 2) else (c0 a0 0)))
theorem F.name_Check.eq K a0 : F.name_Check (K + 1) a0 = F.name_Check.B (F.name_Check.l11010 K K) a0 := (F.name_Check.in_main K a0).trans ((show ∀ H, F.name_Check.in K H [] [] ⟨slots [.sc (.val (.string a0))] 0, []⟩ = F.name_Check.B (fun a0 x0 => H [1, 1, 0, 1, 0] [K] (F.name_Check.l11010.st a0 x0)) a0 from by intro H; kernel_rfl) (F.name_Check.at K))
noncomputable def V.name_Check.l11010 (a0 : ByteArray) (x0 : Int) := lim fun v => F.name_Check.l11010 (v 0) (v 1) a0 x0
noncomputable def V.name_Check (a0 : ByteArray) := lim fun v => F.name_Check (v 0) a0
theorem V.name_Check.l11010.of a0 x0 {r} (h : F.name_Check.l11010.B V.name_fits V.name_Check.l11010 a0 x0 = some r) : V.name_Check.l11010 a0 x0 = some r :=
  App.to (App.step 1 (fun v => F.name_Check.l11010.eq (v 0) (v 1) a0 x0) (by unfold F.name_Check.l11010.B; repeat' first | exact App.val | exact App.no | exact App.lim | apply App.cond | apply App.guard | apply App.meet | apply App.ite | refine App.bind ?_ fun _ => ?_)) h
theorem V.name_Check.of a0 {r} (h : F.name_Check.B V.name_Check.l11010 a0 = some r) : V.name_Check a0 = some r :=
  App.to (App.step 0 (fun v => F.name_Check.eq (v 0) a0) (by unfold F.name_Check.B; repeat' first | exact App.val | exact App.no | exact App.lim | exact (App.enter 1 App.lim) | apply App.cond | apply App.guard | apply App.meet | apply App.ite | refine App.bind ?_ fun _ => ?_)) h
noncomputable def F.name_Row (K : Nat) (a0 : List ByteArray) : Option (Int) := evFn Try.prog sg K 172 [.sc (.list .str a0 false)] []
noncomputable def F.name_Row.at (K : Nat) (p ns : List Nat) (s : St) : Option (Int) := atFn Try.prog sg K 172 0 p ns s
noncomputable def F.name_Row.in (K : Nat) (H : List Nat → List Nat → St → Option (Int)) (p ns : List Nat) (s : St) : Option (Int) := inFn Try.prog sg K 172 0 [] H p ns s
theorem F.name_Row.in_eq K p ns s : F.name_Row.at K p ns s = F.name_Row.in K (F.name_Row.at K) p ns s := atFn_eq (P := Try.prog) (sg := sg) (K := K) (f := 172) (m := 0) [] p ns s
theorem F.name_Row.in_main K a0 : F.name_Row (K + 1) a0 = F.name_Row.in K (F.name_Row.at K) [] [] ⟨slots [.sc (.list .str a0 false)] 0, []⟩ := evFn_eq (P := Try.prog) (sg := sg) (K := K) (f := 172) (args := [.sc (.list .str a0 false)]) (σ := []) [] (by kernel_rfl)
def F.name_Row.l1010.st (a0 : List ByteArray) (x0 : Int) : St := ⟨[(0, vL .str a0), (6, vL .str a0), (7, vI (a0.length : Int)), (8, vI x0)], []⟩
noncomputable def F.name_Row.l1010 (K n0 : Nat) (a0 : List ByteArray) (x0 : Int) := F.name_Row.at K [1, 0, 1, 0] [n0] (F.name_Row.l1010.st a0 x0)
noncomputable def F.name_Row.l1010.B (c0 : (ByteArray) → Option (Int)) (c1 : (List ByteArray) → (Int) → Option (Int)) (a0 : List ByteArray) (x0 : Int) : Option (Int) :=
    (bif (decide (x0 < (a0.length : Int))) then (guardK (decide (0 ≤ x0) && decide (x0 < (a0.length : Int))) ((c0 (rd .str a0 x0.toNat)).bind fun t0 => (bif (t0 != 0) then (some t0) else (bif (decide (x0 > 0)) then (guardK (decide (0 ≤ (w64 (x0 - 1))) && decide ((w64 (x0 - 1)) < (a0.length : Int))) (bif (!strLt (rd .str a0 ((w64 (x0 - 1)).toNat)) (rd .str a0 x0.toNat)) then (some 4) else (c1 a0 (w64 (x0 + 1))))) else (c1 a0 (w64 (x0 + 1))))))) else (some 0))
theorem F.name_Row.l1010.eq K n0 a0 x0 : F.name_Row.l1010 K (n0 + 1) a0 x0 = F.name_Row.l1010.B (F.name_Check K) (F.name_Row.l1010 K n0) a0 x0 := (F.name_Row.in_eq K [1, 0, 1, 0] [n0 + 1] (F.name_Row.l1010.st a0 x0)).trans ((show ∀ H, F.name_Row.in K H [1, 0, 1, 0] [n0 + 1] (F.name_Row.l1010.st a0 x0) = F.name_Row.l1010.B (F.name_Check K) (fun a0 x0 => H [1, 0, 1, 0] [n0] (F.name_Row.l1010.st a0 x0)) a0 x0 from by intro H; kernel_rfl) (F.name_Row.at K))
noncomputable def F.name_Row.B (c0 : (List ByteArray) → (Int) → Option (Int)) (a0 : List ByteArray) : Option (Int) :=
    (c0 a0 0)
theorem F.name_Row.eq K a0 : F.name_Row (K + 1) a0 = F.name_Row.B (F.name_Row.l1010 K K) a0 := (F.name_Row.in_main K a0).trans ((show ∀ H, F.name_Row.in K H [] [] ⟨slots [.sc (.list .str a0 false)] 0, []⟩ = F.name_Row.B (fun a0 x0 => H [1, 0, 1, 0] [K] (F.name_Row.l1010.st a0 x0)) a0 from by intro H; kernel_rfl) (F.name_Row.at K))
noncomputable def V.name_Row.l1010 (a0 : List ByteArray) (x0 : Int) := lim fun v => F.name_Row.l1010 (v 0) (v 1) a0 x0
noncomputable def V.name_Row (a0 : List ByteArray) := lim fun v => F.name_Row (v 0) a0
theorem V.name_Row.l1010.of a0 x0 {r} (h : F.name_Row.l1010.B V.name_Check V.name_Row.l1010 a0 x0 = some r) : V.name_Row.l1010 a0 x0 = some r :=
  App.to (App.step 1 (fun v => F.name_Row.l1010.eq (v 0) (v 1) a0 x0) (by unfold F.name_Row.l1010.B; repeat' first | exact App.val | exact App.no | exact App.lim | apply App.cond | apply App.guard | apply App.meet | apply App.ite | refine App.bind ?_ fun _ => ?_)) h
theorem V.name_Row.of a0 {r} (h : F.name_Row.B V.name_Row.l1010 a0 = some r) : V.name_Row a0 = some r :=
  App.to (App.step 0 (fun v => F.name_Row.eq (v 0) a0) (by unfold F.name_Row.B; repeat' first | exact App.val | exact App.no | exact App.lim | exact (App.enter 1 App.lim) | apply App.cond | apply App.guard | apply App.meet | apply App.ite | refine App.bind ?_ fun _ => ?_)) h
noncomputable def F.value_Check (K : Nat) (a0 : TValue) : Option (Int) := evFn Try.prog sg K 121 [.agg [.val (.int .i64 a0.1), .val (.int .i64 a0.2.1), .val (.string a0.2.2)]] []
noncomputable def F.value_Check.B (a0 : TValue) : Option (Int) :=
    (bif (a0.1 == 1) then (bif (a0.2.1 == 0) then (bif (!(strEq a0.2.2 (⟨#[]⟩ : ByteArray))) then (some 2) else (some 0)) else (bif (a0.2.1 == 1) then (bif (!(strEq a0.2.2 (⟨#[]⟩ : ByteArray))) then (some 2) else (some 0)) else (some 2))) else (bif (a0.1 == 2) then (bif (!(strEq a0.2.2 (⟨#[]⟩ : ByteArray))) then (some 2) else (some 0)) else (bif (a0.1 == 3) then (bif (a0.2.1 == 0) then (bif (!(decide ((a0.2.2.size : Int) ≤ 64))) then (some 2) else (some 0)) else (some 2)) else (some 2))))
theorem F.value_Check.eq K a0 : F.value_Check (K + 1) a0 = F.value_Check.B a0 := by kernel_rfl
noncomputable def V.value_Check (a0 : TValue) := lim fun v => F.value_Check (v 0) a0
theorem V.value_Check.of a0 {r} (h : F.value_Check.B a0 = some r) : V.value_Check a0 = some r :=
  App.to (App.step 0 (fun v => F.value_Check.eq (v 0) a0) (by unfold F.value_Check.B; repeat' first | exact App.val | exact App.no | exact App.lim | apply App.cond | apply App.guard | apply App.meet | apply App.ite | refine App.bind ?_ fun _ => ?_)) h
noncomputable def F.elem_CheckProps (K : Nat) (a0 : List TProp) : Option (Int) := evFn Try.prog sg K 173 [.sc (.list sProp a0 false)] []
noncomputable def F.elem_CheckProps.at (K : Nat) (p ns : List Nat) (s : St) : Option (Int) := atFn Try.prog sg K 173 0 p ns s
noncomputable def F.elem_CheckProps.in (K : Nat) (H : List Nat → List Nat → St → Option (Int)) (p ns : List Nat) (s : St) : Option (Int) := inFn Try.prog sg K 173 0 [] H p ns s
theorem F.elem_CheckProps.in_eq K p ns s : F.elem_CheckProps.at K p ns s = F.elem_CheckProps.in K (F.elem_CheckProps.at K) p ns s := atFn_eq (P := Try.prog) (sg := sg) (K := K) (f := 173) (m := 0) [] p ns s
theorem F.elem_CheckProps.in_main K a0 : F.elem_CheckProps (K + 1) a0 = F.elem_CheckProps.in K (F.elem_CheckProps.at K) [] [] ⟨slots [.sc (.list sProp a0 false)] 0, []⟩ := evFn_eq (P := Try.prog) (sg := sg) (K := K) (f := 173) (args := [.sc (.list sProp a0 false)]) (σ := []) [] (by kernel_rfl)
def F.elem_CheckProps.l11010.st (a0 : List TProp) (x0 : Int) : St := ⟨[(0, vL sProp a0), (8, vL sProp a0), (9, vI (a0.length : Int)), (10, vI x0)], []⟩
noncomputable def F.elem_CheckProps.l11010 (K n0 : Nat) (a0 : List TProp) (x0 : Int) := F.elem_CheckProps.at K [1, 1, 0, 1, 0] [n0] (F.elem_CheckProps.l11010.st a0 x0)
noncomputable def F.elem_CheckProps.l11010.B (c0 : (ByteArray) → Option (Int)) (c1 : (TValue) → Option (Int)) (c2 : (List TProp) → (Int) → Option (Int)) (a0 : List TProp) (x0 : Int) : Option (Int) :=
    (bif (decide (x0 < (a0.length : Int))) then (guardK (decide (0 ≤ x0) && decide (x0 < (a0.length : Int))) ((c0 ((rd sProp a0 x0.toNat).1)).bind fun t0 => (bif (t0 != 0) then (some 2) else ((c1 (((rd sProp a0 x0.toNat).2).1, (((rd sProp a0 x0.toNat).2).2).1, (((rd sProp a0 x0.toNat).2).2).2)).bind fun t1 => (bif (t1 != 0) then (some 2) else (bif (decide (x0 > 0)) then (guardK (decide (0 ≤ (w64 (x0 - 1))) && decide ((w64 (x0 - 1)) < (a0.length : Int))) (bif (!strLt ((rd sProp a0 ((w64 (x0 - 1)).toNat)).1) ((rd sProp a0 x0.toNat).1)) then (some 4) else (c2 a0 (w64 (x0 + 1))))) else (c2 a0 (w64 (x0 + 1))))))))) else (some 0))
theorem F.elem_CheckProps.l11010.eq K n0 a0 x0 : F.elem_CheckProps.l11010 K (n0 + 1) a0 x0 = F.elem_CheckProps.l11010.B (F.name_Check K) (F.value_Check K) (F.elem_CheckProps.l11010 K n0) a0 x0 := (F.elem_CheckProps.in_eq K [1, 1, 0, 1, 0] [n0 + 1] (F.elem_CheckProps.l11010.st a0 x0)).trans ((show ∀ H, F.elem_CheckProps.in K H [1, 1, 0, 1, 0] [n0 + 1] (F.elem_CheckProps.l11010.st a0 x0) = F.elem_CheckProps.l11010.B (F.name_Check K) (F.value_Check K) (fun a0 x0 => H [1, 1, 0, 1, 0] [n0] (F.elem_CheckProps.l11010.st a0 x0)) a0 x0 from by intro H; kernel_rfl) (F.elem_CheckProps.at K))
noncomputable def F.elem_CheckProps.B (c0 : (List TProp) → (Int) → Option (Int)) (a0 : List TProp) : Option (Int) :=
    (bif (decide ((a0.length : Int) > 8)) then (some 5) else (c0 a0 0))
theorem F.elem_CheckProps.eq K a0 : F.elem_CheckProps (K + 1) a0 = F.elem_CheckProps.B (F.elem_CheckProps.l11010 K K) a0 := (F.elem_CheckProps.in_main K a0).trans ((show ∀ H, F.elem_CheckProps.in K H [] [] ⟨slots [.sc (.list sProp a0 false)] 0, []⟩ = F.elem_CheckProps.B (fun a0 x0 => H [1, 1, 0, 1, 0] [K] (F.elem_CheckProps.l11010.st a0 x0)) a0 from by intro H; kernel_rfl) (F.elem_CheckProps.at K))
noncomputable def V.elem_CheckProps.l11010 (a0 : List TProp) (x0 : Int) := lim fun v => F.elem_CheckProps.l11010 (v 0) (v 1) a0 x0
noncomputable def V.elem_CheckProps (a0 : List TProp) := lim fun v => F.elem_CheckProps (v 0) a0
theorem V.elem_CheckProps.l11010.of a0 x0 {r} (h : F.elem_CheckProps.l11010.B V.name_Check V.value_Check V.elem_CheckProps.l11010 a0 x0 = some r) : V.elem_CheckProps.l11010 a0 x0 = some r :=
  App.to (App.step 1 (fun v => F.elem_CheckProps.l11010.eq (v 0) (v 1) a0 x0) (by unfold F.elem_CheckProps.l11010.B; repeat' first | exact App.val | exact App.no | exact App.lim | apply App.cond | apply App.guard | apply App.meet | apply App.ite | refine App.bind ?_ fun _ => ?_)) h
theorem V.elem_CheckProps.of a0 {r} (h : F.elem_CheckProps.B V.elem_CheckProps.l11010 a0 = some r) : V.elem_CheckProps a0 = some r :=
  App.to (App.step 0 (fun v => F.elem_CheckProps.eq (v 0) a0) (by unfold F.elem_CheckProps.B; repeat' first | exact App.val | exact App.no | exact App.lim | exact (App.enter 1 App.lim) | apply App.cond | apply App.guard | apply App.meet | apply App.ite | refine App.bind ?_ fun _ => ?_)) h
noncomputable def F.elem_rest (K : Nat) (a0 : List ByteArray) (a1 : List TProp) : Option (Int) := evFn Try.prog sg K 134 [.sc (.list .str a0 false), .sc (.list sProp a1 false)] []
noncomputable def F.elem_rest.B (c0 : (List ByteArray) → Option (Int)) (c1 : (List TProp) → Option (Int)) (a0 : List ByteArray) (a1 : List TProp) : Option (Int) :=
    (bif (decide ((a0.length : Int) > 8)) then (some 5) else ((c0 a0).bind fun t0 => (bif (t0 != 0) then (some t0) else ((c1 a1).bind fun t1 => (some t1)))))
theorem F.elem_rest.eq K a0 a1 : F.elem_rest (K + 1) a0 a1 = F.elem_rest.B (F.name_Row K) (F.elem_CheckProps K) a0 a1 := by kernel_rfl
noncomputable def V.elem_rest (a0 : List ByteArray) (a1 : List TProp) := lim fun v => F.elem_rest (v 0) a0 a1
theorem V.elem_rest.of a0 a1 {r} (h : F.elem_rest.B V.name_Row V.elem_CheckProps a0 a1 = some r) : V.elem_rest a0 a1 = some r :=
  App.to (App.step 0 (fun v => F.elem_rest.eq (v 0) a0 a1) (by unfold F.elem_rest.B; repeat' first | exact App.val | exact App.no | exact App.lim | apply App.cond | apply App.guard | apply App.meet | apply App.ite | refine App.bind ?_ fun _ => ?_)) h
noncomputable def F.elem_CheckNode (K : Nat) (a0 : TNode) : Option (Int) := evFn Try.prog sg K 85 [.agg [.val (.string a0.1), .list .str a0.2.1 false, .list sProp a0.2.2 false]] []
noncomputable def F.elem_CheckNode.B (c0 : (ByteArray) → Option (Int)) (c1 : (List ByteArray) → (List TProp) → Option (Int)) (a0 : TNode) : Option (Int) :=
    ((c0 a0.1).bind fun t0 => (bif (t0 != 0) then (some t0) else ((c1 a0.2.1 a0.2.2).bind fun t1 => (some t1))))
theorem F.elem_CheckNode.eq K a0 : F.elem_CheckNode (K + 1) a0 = F.elem_CheckNode.B (F.name_Check K) (F.elem_rest K) a0 := by kernel_rfl
noncomputable def V.elem_CheckNode (a0 : TNode) := lim fun v => F.elem_CheckNode (v 0) a0
theorem V.elem_CheckNode.of a0 {r} (h : F.elem_CheckNode.B V.name_Check V.elem_rest a0 = some r) : V.elem_CheckNode a0 = some r :=
  App.to (App.step 0 (fun v => F.elem_CheckNode.eq (v 0) a0) (by unfold F.elem_CheckNode.B; repeat' first | exact App.val | exact App.no | exact App.lim | apply App.cond | apply App.guard | apply App.meet | apply App.ite | refine App.bind ?_ fun _ => ?_)) h
noncomputable def F.elem_CheckEdge (K : Nat) (a0 : TEdge) : Option (Int) := evFn Try.prog sg K 86 [.agg [.val (.string a0.1), .val (.string a0.2.1), .val (.string a0.2.2.1), .list .str a0.2.2.2.1 false, .list sProp a0.2.2.2.2 false]] []
noncomputable def V.elem_CheckEdge (a0 : TEdge) := lim fun v => F.elem_CheckEdge (v 0) a0
noncomputable def F.graph_node (K : Nat) (a0 : TGraph) (a1 : ByteArray) : Option (Int × Bool) := evFn Try.prog sg K 87 [.agg [.list sNode a0.1 false, .list sEdge a0.2 false], .sc (.val (.string a1))] []
noncomputable def V.graph_node (a0 : TGraph) (a1 : ByteArray) := lim fun v => F.graph_node (v 0) a0 a1
noncomputable def F.graph_Check (K : Nat) (a0 : TGraph) : Option (Int) := evFn Try.prog sg K 41 [.agg [.list sNode a0.1 false, .list sEdge a0.2 false]] []
noncomputable def F.graph_Check.at (K : Nat) (p ns : List Nat) (s : St) : Option (Int) := atFn Try.prog sg K 41 0 p ns s
noncomputable def F.graph_Check.in (K : Nat) (H : List Nat → List Nat → St → Option (Int)) (p ns : List Nat) (s : St) : Option (Int) := inFn Try.prog sg K 41 0 [] H p ns s
theorem F.graph_Check.in_eq K p ns s : F.graph_Check.at K p ns s = F.graph_Check.in K (F.graph_Check.at K) p ns s := atFn_eq (P := Try.prog) (sg := sg) (K := K) (f := 41) (m := 0) [] p ns s
theorem F.graph_Check.in_main K a0 : F.graph_Check (K + 1) a0 = F.graph_Check.in K (F.graph_Check.at K) [] [] ⟨slots [.agg [.list sNode a0.1 false, .list sEdge a0.2 false]] 0, []⟩ := evFn_eq (P := Try.prog) (sg := sg) (K := K) (f := 41) (args := [.agg [.list sNode a0.1 false, .list sEdge a0.2 false]]) (σ := []) [] (by kernel_rfl)
def F.graph_Check.l11010.st (a0 : TGraph) (x0 : Int) : St := ⟨[(1, .one (.sc (.ref 0 0))), (24, vL sNode a0.1), (25, vI (a0.1.length : Int)), (26, vI x0)], [.cells 25 [.list sNode a0.1 false, .list sEdge a0.2 false]]⟩
noncomputable def F.graph_Check.l11010 (K n0 : Nat) (a0 : TGraph) (x0 : Int) := F.graph_Check.at K [1, 1, 0, 1, 0] [n0] (F.graph_Check.l11010.st a0 x0)
def F.graph_Check.l111010.st (a0 : TGraph) (x0 : Int) : St := ⟨[(1, .one (.sc (.ref 0 0))), (52, vL sEdge a0.2), (53, vI (a0.2.length : Int)), (54, vI x0)], [.cells 25 [.list sNode a0.1 false, .list sEdge a0.2 false]]⟩
noncomputable def F.graph_Check.l111010 (K n0 : Nat) (a0 : TGraph) (x0 : Int) := F.graph_Check.at K [1, 1, 1, 0, 1, 0] [n0] (F.graph_Check.l111010.st a0 x0)
noncomputable def F.graph_Check.l11010.B (c0 : (TNode) → Option (Int)) (c1 : (TGraph) → (Int) → Option (Int)) (c2 : (TGraph) → (Int) → Option (Int)) (a0 : TGraph) (x0 : Int) : Option (Int) :=
    (bif (decide (x0 < (a0.1.length : Int))) then (guardK (decide (0 ≤ x0) && decide (x0 < (a0.1.length : Int))) ((c0 ((rd sNode a0.1 x0.toNat).1, ((rd sNode a0.1 x0.toNat).2).1, ((rd sNode a0.1 x0.toNat).2).2)).bind fun t0 => (bif (t0 != 0) then (some t0) else (bif (decide (x0 > 0)) then (guardK (decide (0 ≤ (w64 (x0 - 1))) && decide ((w64 (x0 - 1)) < (a0.1.length : Int))) (bif (!strLt ((rd sNode a0.1 ((w64 (x0 - 1)).toNat)).1) ((rd sNode a0.1 x0.toNat).1)) then (some 4) else (c1 a0 (w64 (x0 + 1))))) else (c1 a0 (w64 (x0 + 1))))))) else (c2 a0 0))
theorem F.graph_Check.l11010.eq K n0 a0 x0 : F.graph_Check.l11010 K (n0 + 1) a0 x0 = F.graph_Check.l11010.B (F.elem_CheckNode K) (F.graph_Check.l11010 K n0) (F.graph_Check.l111010 K K) a0 x0 := (F.graph_Check.in_eq K [1, 1, 0, 1, 0] [n0 + 1] (F.graph_Check.l11010.st a0 x0)).trans ((show ∀ H, F.graph_Check.in K H [1, 1, 0, 1, 0] [n0 + 1] (F.graph_Check.l11010.st a0 x0) = F.graph_Check.l11010.B (F.elem_CheckNode K) (fun a0 x0 => H [1, 1, 0, 1, 0] [n0] (F.graph_Check.l11010.st a0 x0)) (fun a0 x0 => H [1, 1, 1, 0, 1, 0] [K] (F.graph_Check.l111010.st a0 x0)) a0 x0 from by intro H; kernel_rfl) (F.graph_Check.at K))
noncomputable def F.graph_Check.l111010.B (c0 : (TEdge) → Option (Int)) (c1 : (TGraph) → (ByteArray) → Option (Int × Bool)) (c2 : (TGraph) → (Int) → Option (Int)) (a0 : TGraph) (x0 : Int) : Option (Int) :=
    (bif (decide (x0 < (a0.2.length : Int))) then (guardK (decide (0 ≤ x0) && decide (x0 < (a0.2.length : Int))) ((c0 ((rd sEdge a0.2 x0.toNat).1, ((rd sEdge a0.2 x0.toNat).2).1, (((rd sEdge a0.2 x0.toNat).2).2).1, ((((rd sEdge a0.2 x0.toNat).2).2).2).1, ((((rd sEdge a0.2 x0.toNat).2).2).2).2)).bind fun t1 => (bif (t1 != 0) then (some t1) else (bif (decide (x0 > 0)) then (guardK (decide (0 ≤ (w64 (x0 - 1))) && decide ((w64 (x0 - 1)) < (a0.2.length : Int))) (bif (!strLt ((rd sEdge a0.2 ((w64 (x0 - 1)).toNat)).1) ((rd sEdge a0.2 x0.toNat).1)) then (some 4) else ((c1 (a0.1, a0.2) (((rd sEdge a0.2 x0.toNat).2).1)).bind fun t2 => ((c1 (a0.1, a0.2) ((((rd sEdge a0.2 x0.toNat).2).2).1)).bind fun t3 => (bif (!t2.2) then (some 9) else (bif (!t3.2) then (some 9) else (c2 a0 (w64 (x0 + 1))))))))) else ((c1 (a0.1, a0.2) (((rd sEdge a0.2 x0.toNat).2).1)).bind fun t4 => ((c1 (a0.1, a0.2) ((((rd sEdge a0.2 x0.toNat).2).2).1)).bind fun t5 => (bif (!t4.2) then (some 9) else (bif (!t5.2) then (some 9) else (c2 a0 (w64 (x0 + 1))))))))))) else (some 0))
theorem F.graph_Check.l111010.eq K n0 a0 x0 : F.graph_Check.l111010 K (n0 + 1) a0 x0 = F.graph_Check.l111010.B (F.elem_CheckEdge K) (F.graph_node K) (F.graph_Check.l111010 K n0) a0 x0 := (F.graph_Check.in_eq K [1, 1, 1, 0, 1, 0] [n0 + 1] (F.graph_Check.l111010.st a0 x0)).trans ((show ∀ H, F.graph_Check.in K H [1, 1, 1, 0, 1, 0] [n0 + 1] (F.graph_Check.l111010.st a0 x0) = F.graph_Check.l111010.B (F.elem_CheckEdge K) (F.graph_node K) (fun a0 x0 => H [1, 1, 1, 0, 1, 0] [n0] (F.graph_Check.l111010.st a0 x0)) a0 x0 from by intro H; kernel_rfl) (F.graph_Check.at K))
noncomputable def F.graph_Check.B (c0 : (TGraph) → (Int) → Option (Int)) (a0 : TGraph) : Option (Int) :=
    (bif (decide ((a0.1.length : Int) > 500)) then (some 5) else (bif (decide ((a0.2.length : Int) > 1000)) then (some 5) else (c0 a0 0)))
theorem F.graph_Check.eq K a0 : F.graph_Check (K + 1) a0 = F.graph_Check.B (F.graph_Check.l11010 K K) a0 := (F.graph_Check.in_main K a0).trans ((show ∀ H, F.graph_Check.in K H [] [] ⟨slots [.agg [.list sNode a0.1 false, .list sEdge a0.2 false]] 0, []⟩ = F.graph_Check.B (fun a0 x0 => H [1, 1, 0, 1, 0] [K] (F.graph_Check.l11010.st a0 x0)) a0 from by intro H; kernel_rfl) (F.graph_Check.at K))
noncomputable def V.graph_Check.l11010 (a0 : TGraph) (x0 : Int) := lim fun v => F.graph_Check.l11010 (v 0) (v 1) a0 x0
noncomputable def V.graph_Check.l111010 (a0 : TGraph) (x0 : Int) := lim fun v => F.graph_Check.l111010 (v 0) (v 1) a0 x0
noncomputable def V.graph_Check (a0 : TGraph) := lim fun v => F.graph_Check (v 0) a0
theorem V.graph_Check.l11010.of a0 x0 {r} (h : F.graph_Check.l11010.B V.elem_CheckNode V.graph_Check.l11010 V.graph_Check.l111010 a0 x0 = some r) : V.graph_Check.l11010 a0 x0 = some r :=
  App.to (App.step 1 (fun v => F.graph_Check.l11010.eq (v 0) (v 1) a0 x0) (by unfold F.graph_Check.l11010.B; repeat' first | exact App.val | exact App.no | exact App.lim | exact (App.enter 1 App.lim) | apply App.cond | apply App.guard | apply App.meet | apply App.ite | refine App.bind ?_ fun _ => ?_)) h
theorem V.graph_Check.l111010.of a0 x0 {r} (h : F.graph_Check.l111010.B V.elem_CheckEdge V.graph_node V.graph_Check.l111010 a0 x0 = some r) : V.graph_Check.l111010 a0 x0 = some r :=
  App.to (App.step 1 (fun v => F.graph_Check.l111010.eq (v 0) (v 1) a0 x0) (by unfold F.graph_Check.l111010.B; repeat' first | exact App.val | exact App.no | exact App.lim | apply App.cond | apply App.guard | apply App.meet | apply App.ite | refine App.bind ?_ fun _ => ?_)) h
theorem V.graph_Check.of a0 {r} (h : F.graph_Check.B V.graph_Check.l11010 a0 = some r) : V.graph_Check a0 = some r :=
  App.to (App.step 0 (fun v => F.graph_Check.eq (v 0) a0) (by unfold F.graph_Check.B; repeat' first | exact App.val | exact App.no | exact App.lim | exact (App.enter 1 App.lim) | apply App.cond | apply App.guard | apply App.meet | apply App.ite | refine App.bind ?_ fun _ => ?_)) h
noncomputable def F.value_Put (K : Nat) (a0 : TValue) : Option (ByteArray × Int) := evFn Try.prog sg K 111 [.agg [.val (.int .i64 a0.1), .val (.int .i64 a0.2.1), .val (.string a0.2.2)]] []
noncomputable def V.value_Put (a0 : TValue) := lim fun v => F.value_Put (v 0) a0
noncomputable def F.facts_of (K : Nat) (a0 : ByteArray) (a1 : Int) (a2 : Int) (a3 : List ByteArray) (a4 : List TProp) : Option ((List TFact)) := evFn Try.prog sg K 58 [.sc (.val (.string a0)), .sc (.val (.int .i64 a1)), .sc (.val (.int .i64 a2)), .sc (.list .str a3 false), .sc (.list sProp a4 false)] []
noncomputable def F.facts_of.at (K : Nat) (p ns : List Nat) (s : St) : Option ((List TFact)) := atFn Try.prog sg K 58 0 p ns s
noncomputable def F.facts_of.in (K : Nat) (H : List Nat → List Nat → St → Option ((List TFact))) (p ns : List Nat) (s : St) : Option ((List TFact)) := inFn Try.prog sg K 58 0 [] H p ns s
theorem F.facts_of.in_eq K p ns s : F.facts_of.at K p ns s = F.facts_of.in K (F.facts_of.at K) p ns s := atFn_eq (P := Try.prog) (sg := sg) (K := K) (f := 58) (m := 0) [] p ns s
theorem F.facts_of.in_main K a0 a1 a2 a3 a4 : F.facts_of (K + 1) a0 a1 a2 a3 a4 = F.facts_of.in K (F.facts_of.at K) [] [] ⟨slots [.sc (.val (.string a0)), .sc (.val (.int .i64 a1)), .sc (.val (.int .i64 a2)), .sc (.list .str a3 false), .sc (.list sProp a4 false)] 0, []⟩ := evFn_eq (P := Try.prog) (sg := sg) (K := K) (f := 58) (args := [.sc (.val (.string a0)), .sc (.val (.int .i64 a1)), .sc (.val (.int .i64 a2)), .sc (.list .str a3 false), .sc (.list sProp a4 false)]) (σ := []) [] (by kernel_rfl)
def F.facts_of.l11010.st (a0 : ByteArray) (a1 : Int) (a2 : Int) (a3 : List ByteArray) (a4 : List TProp) (x0 : Int) (x1 : List TFact) : St := ⟨[(0, vS a0), (1, vI a1), (2, vI a2), (4, vL sProp a4), (11, .one (.sc (.own 0 none))), (18, vL .str a3), (19, vI (a3.length : Int)), (20, vI x0)], [.elems sFact x1]⟩
noncomputable def F.facts_of.l11010 (K n0 : Nat) (a0 : ByteArray) (a1 : Int) (a2 : Int) (a3 : List ByteArray) (a4 : List TProp) (x0 : Int) (x1 : List TFact) := F.facts_of.at K [1, 1, 0, 1, 0] [n0] (F.facts_of.l11010.st a0 a1 a2 a3 a4 x0 x1)
def F.facts_of.l111010.st (a0 : ByteArray) (a1 : Int) (a2 : Int) (a3 : List ByteArray) (a4 : List TProp) (x0 : Int) (x1 : List TFact) : St := ⟨[(0, vS a0), (2, vI a2), (11, .one (.sc (.own 0 none))), (32, vL sProp a4), (33, vI (a4.length : Int)), (34, vI x0)], [.elems sFact x1]⟩
noncomputable def F.facts_of.l111010 (K n0 : Nat) (a0 : ByteArray) (a1 : Int) (a2 : Int) (a3 : List ByteArray) (a4 : List TProp) (x0 : Int) (x1 : List TFact) := F.facts_of.at K [1, 1, 1, 0, 1, 0] [n0] (F.facts_of.l111010.st a0 a1 a2 a3 a4 x0 x1)
noncomputable def F.facts_of.l11010.B (c0 : (ByteArray) → (Int) → (Int) → (List ByteArray) → (List TProp) → (Int) → (List TFact) → Option ((List TFact))) (c1 : (ByteArray) → (Int) → (Int) → (List ByteArray) → (List TProp) → (Int) → (List TFact) → Option ((List TFact))) (a0 : ByteArray) (a1 : Int) (a2 : Int) (a3 : List ByteArray) (a4 : List TProp) (x0 : Int) (x1 : List TFact) : Option ((List TFact)) :=
    (bif (decide (x0 < (a3.length : Int))) then (guardK (decide (0 ≤ x0) && decide (x0 < (a3.length : Int))) (guardK (decide (x1.length + ([(a1, a0, (rd .str a3 x0.toNat), (⟨#[]⟩ : ByteArray))]).length ≤ nmax)) (c0 a0 a1 a2 a3 a4 (w64 (x0 + 1)) (x1 ++ [(a1, a0, (rd .str a3 x0.toNat), (⟨#[]⟩ : ByteArray))])))) else (c1 a0 a1 a2 a3 a4 0 x1))
theorem F.facts_of.l11010.eq K n0 a0 a1 a2 a3 a4 x0 x1 : F.facts_of.l11010 K (n0 + 1) a0 a1 a2 a3 a4 x0 x1 = F.facts_of.l11010.B (F.facts_of.l11010 K n0) (F.facts_of.l111010 K K) a0 a1 a2 a3 a4 x0 x1 := (F.facts_of.in_eq K [1, 1, 0, 1, 0] [n0 + 1] (F.facts_of.l11010.st a0 a1 a2 a3 a4 x0 x1)).trans ((show ∀ H, F.facts_of.in K H [1, 1, 0, 1, 0] [n0 + 1] (F.facts_of.l11010.st a0 a1 a2 a3 a4 x0 x1) = F.facts_of.l11010.B (fun a0 a1 a2 a3 a4 x0 x1 => H [1, 1, 0, 1, 0] [n0] (F.facts_of.l11010.st a0 a1 a2 a3 a4 x0 x1)) (fun a0 a1 a2 a3 a4 x0 x1 => H [1, 1, 1, 0, 1, 0] [K] (F.facts_of.l111010.st a0 a1 a2 a3 a4 x0 x1)) a0 a1 a2 a3 a4 x0 x1 from by intro H; kernel_rfl) (F.facts_of.at K))
noncomputable def F.facts_of.l111010.B (c0 : (TValue) → Option (ByteArray × Int)) (c1 : (ByteArray) → (Int) → (Int) → (List ByteArray) → (List TProp) → (Int) → (List TFact) → Option ((List TFact))) (a0 : ByteArray) (a1 : Int) (a2 : Int) (a3 : List ByteArray) (a4 : List TProp) (x0 : Int) (x1 : List TFact) : Option ((List TFact)) :=
    (bif (decide (x0 < (a4.length : Int))) then (guardK (decide (0 ≤ x0) && decide (x0 < (a4.length : Int))) ((c0 (((rd sProp a4 x0.toNat).2).1, (((rd sProp a4 x0.toNat).2).2).1, (((rd sProp a4 x0.toNat).2).2).2)).bind fun t0 => (guardK (decide (x1.length + ([(a2, a0, (rd sProp a4 x0.toNat).1, t0.1)]).length ≤ nmax)) (c1 a0 a1 a2 a3 a4 (w64 (x0 + 1)) (x1 ++ [(a2, a0, (rd sProp a4 x0.toNat).1, t0.1)]))))) else (some x1))
theorem F.facts_of.l111010.eq K n0 a0 a1 a2 a3 a4 x0 x1 : F.facts_of.l111010 K (n0 + 1) a0 a1 a2 a3 a4 x0 x1 = F.facts_of.l111010.B (F.value_Put K) (F.facts_of.l111010 K n0) a0 a1 a2 a3 a4 x0 x1 := (F.facts_of.in_eq K [1, 1, 1, 0, 1, 0] [n0 + 1] (F.facts_of.l111010.st a0 a1 a2 a3 a4 x0 x1)).trans ((show ∀ H, F.facts_of.in K H [1, 1, 1, 0, 1, 0] [n0 + 1] (F.facts_of.l111010.st a0 a1 a2 a3 a4 x0 x1) = F.facts_of.l111010.B (F.value_Put K) (fun a0 a1 a2 a3 a4 x0 x1 => H [1, 1, 1, 0, 1, 0] [n0] (F.facts_of.l111010.st a0 a1 a2 a3 a4 x0 x1)) a0 a1 a2 a3 a4 x0 x1 from by intro H; kernel_rfl) (F.facts_of.at K))
noncomputable def F.facts_of.B (c0 : (ByteArray) → (Int) → (Int) → (List ByteArray) → (List TProp) → (Int) → (List TFact) → Option ((List TFact))) (a0 : ByteArray) (a1 : Int) (a2 : Int) (a3 : List ByteArray) (a4 : List TProp) : Option ((List TFact)) :=
    (c0 a0 a1 a2 a3 a4 0 ([]))
theorem F.facts_of.eq K a0 a1 a2 a3 a4 : F.facts_of (K + 1) a0 a1 a2 a3 a4 = F.facts_of.B (F.facts_of.l11010 K K) a0 a1 a2 a3 a4 := (F.facts_of.in_main K a0 a1 a2 a3 a4).trans ((show ∀ H, F.facts_of.in K H [] [] ⟨slots [.sc (.val (.string a0)), .sc (.val (.int .i64 a1)), .sc (.val (.int .i64 a2)), .sc (.list .str a3 false), .sc (.list sProp a4 false)] 0, []⟩ = F.facts_of.B (fun a0 a1 a2 a3 a4 x0 x1 => H [1, 1, 0, 1, 0] [K] (F.facts_of.l11010.st a0 a1 a2 a3 a4 x0 x1)) a0 a1 a2 a3 a4 from by intro H; kernel_rfl) (F.facts_of.at K))
noncomputable def V.facts_of.l11010 (a0 : ByteArray) (a1 : Int) (a2 : Int) (a3 : List ByteArray) (a4 : List TProp) (x0 : Int) (x1 : List TFact) := lim fun v => F.facts_of.l11010 (v 0) (v 1) a0 a1 a2 a3 a4 x0 x1
noncomputable def V.facts_of.l111010 (a0 : ByteArray) (a1 : Int) (a2 : Int) (a3 : List ByteArray) (a4 : List TProp) (x0 : Int) (x1 : List TFact) := lim fun v => F.facts_of.l111010 (v 0) (v 1) a0 a1 a2 a3 a4 x0 x1
noncomputable def V.facts_of (a0 : ByteArray) (a1 : Int) (a2 : Int) (a3 : List ByteArray) (a4 : List TProp) := lim fun v => F.facts_of (v 0) a0 a1 a2 a3 a4
theorem V.facts_of.l11010.of a0 a1 a2 a3 a4 x0 x1 {r} (h : F.facts_of.l11010.B V.facts_of.l11010 V.facts_of.l111010 a0 a1 a2 a3 a4 x0 x1 = some r) : V.facts_of.l11010 a0 a1 a2 a3 a4 x0 x1 = some r :=
  App.to (App.step 1 (fun v => F.facts_of.l11010.eq (v 0) (v 1) a0 a1 a2 a3 a4 x0 x1) (by unfold F.facts_of.l11010.B; repeat' first | exact App.val | exact App.no | exact App.lim | exact (App.enter 1 App.lim) | apply App.cond | apply App.guard | apply App.meet | apply App.ite | refine App.bind ?_ fun _ => ?_)) h
theorem V.facts_of.l111010.of a0 a1 a2 a3 a4 x0 x1 {r} (h : F.facts_of.l111010.B V.value_Put V.facts_of.l111010 a0 a1 a2 a3 a4 x0 x1 = some r) : V.facts_of.l111010 a0 a1 a2 a3 a4 x0 x1 = some r :=
  App.to (App.step 1 (fun v => F.facts_of.l111010.eq (v 0) (v 1) a0 a1 a2 a3 a4 x0 x1) (by unfold F.facts_of.l111010.B; repeat' first | exact App.val | exact App.no | exact App.lim | apply App.cond | apply App.guard | apply App.meet | apply App.ite | refine App.bind ?_ fun _ => ?_)) h
theorem V.facts_of.of a0 a1 a2 a3 a4 {r} (h : F.facts_of.B V.facts_of.l11010 a0 a1 a2 a3 a4 = some r) : V.facts_of a0 a1 a2 a3 a4 = some r :=
  App.to (App.step 0 (fun v => F.facts_of.eq (v 0) a0 a1 a2 a3 a4) (by unfold F.facts_of.B; repeat' first | exact App.val | exact App.no | exact App.lim | exact (App.enter 1 App.lim) | apply App.cond | apply App.guard | apply App.meet | apply App.ite | refine App.bind ?_ fun _ => ?_)) h
noncomputable def F.facts_Ends (K : Nat) (a0 : ByteArray) (a1 : ByteArray) : Option (ByteArray) := evFn Try.prog sg K 27 [.sc (.val (.string a0)), .sc (.val (.string a1))] []
noncomputable def F.facts_Ends.B (a0 : ByteArray) (a1 : ByteArray) : Option (ByteArray) :=
    (guardK (decide (a0.size + (⟨#[0]⟩ : ByteArray).size ≤ i64max)) (guardK (decide ((a0 ++ (⟨#[0]⟩ : ByteArray)).size + a1.size ≤ i64max)) (some ((a0 ++ (⟨#[0]⟩ : ByteArray)) ++ a1))))
theorem F.facts_Ends.eq K a0 a1 : F.facts_Ends (K + 1) a0 a1 = F.facts_Ends.B a0 a1 := by kernel_rfl
noncomputable def V.facts_Ends (a0 : ByteArray) (a1 : ByteArray) := lim fun v => F.facts_Ends (v 0) a0 a1
theorem V.facts_Ends.of a0 a1 {r} (h : F.facts_Ends.B a0 a1 = some r) : V.facts_Ends a0 a1 = some r :=
  App.to (App.step 0 (fun v => F.facts_Ends.eq (v 0) a0 a1) (by unfold F.facts_Ends.B; repeat' first | exact App.val | exact App.no | exact App.lim | apply App.cond | apply App.guard | apply App.meet | apply App.ite | refine App.bind ?_ fun _ => ?_)) h
noncomputable def F.cmp_isNaN_int (K : Nat) (a0 : Int) : Option (Bool) := evFn Try.prog sg K 116 [.sc (.val (.int .i64 a0))] []
noncomputable def F.cmp_isNaN_int.B (a0 : Int) : Option (Bool) :=
    (some (a0 != a0))
theorem F.cmp_isNaN_int.eq K a0 : F.cmp_isNaN_int (K + 1) a0 = F.cmp_isNaN_int.B a0 := by kernel_rfl
noncomputable def V.cmp_isNaN_int (a0 : Int) := lim fun v => F.cmp_isNaN_int (v 0) a0
theorem V.cmp_isNaN_int.of a0 {r} (h : F.cmp_isNaN_int.B a0 = some r) : V.cmp_isNaN_int a0 = some r :=
  App.to (App.step 0 (fun v => F.cmp_isNaN_int.eq (v 0) a0) (by unfold F.cmp_isNaN_int.B; repeat' first | exact App.val | exact App.no | exact App.lim | apply App.cond | apply App.guard | apply App.meet | apply App.ite | refine App.bind ?_ fun _ => ?_)) h
noncomputable def F.cmp_Compare_int (K : Nat) (a0 : Int) (a1 : Int) : Option (Int) := evFn Try.prog sg K 65 [.sc (.val (.int .i64 a0)), .sc (.val (.int .i64 a1))] []
noncomputable def F.cmp_Compare_int.B (c0 : (Int) → Option (Bool)) (a0 : Int) (a1 : Int) : Option (Int) :=
    ((c0 a0).bind fun t0 => ((c0 a1).bind fun t1 => (bif t0 then (bif t1 then (some 0) else (some (-1))) else (bif t1 then (some 1) else (bif (decide (a0 < a1)) then (some (-1)) else (bif (decide (a0 > a1)) then (some 1) else (some 0)))))))
theorem F.cmp_Compare_int.eq K a0 a1 : F.cmp_Compare_int (K + 1) a0 a1 = F.cmp_Compare_int.B (F.cmp_isNaN_int K) a0 a1 := by kernel_rfl
noncomputable def V.cmp_Compare_int (a0 : Int) (a1 : Int) := lim fun v => F.cmp_Compare_int (v 0) a0 a1
theorem V.cmp_Compare_int.of a0 a1 {r} (h : F.cmp_Compare_int.B V.cmp_isNaN_int a0 a1 = some r) : V.cmp_Compare_int a0 a1 = some r :=
  App.to (App.step 0 (fun v => F.cmp_Compare_int.eq (v 0) a0 a1) (by unfold F.cmp_Compare_int.B; repeat' first | exact App.val | exact App.no | exact App.lim | apply App.cond | apply App.guard | apply App.meet | apply App.ite | refine App.bind ?_ fun _ => ?_)) h
noncomputable def F.bytealg_CompareString (K : Nat) (a0 : ByteArray) (a1 : ByteArray) : Option (Int) := evFn Try.prog sg K 117 [.sc (.val (.string a0)), .sc (.val (.string a1))] []
noncomputable def F.bytealg_CompareString.B (a0 : ByteArray) (a1 : ByteArray) : Option (Int) :=
    (some (cmpS a0 a1))
theorem F.bytealg_CompareString.eq K a0 a1 : F.bytealg_CompareString (K + 1) a0 a1 = F.bytealg_CompareString.B a0 a1 := by kernel_rfl
noncomputable def V.bytealg_CompareString (a0 : ByteArray) (a1 : ByteArray) := lim fun v => F.bytealg_CompareString (v 0) a0 a1
theorem V.bytealg_CompareString.of a0 a1 {r} (h : F.bytealg_CompareString.B a0 a1 = some r) : V.bytealg_CompareString a0 a1 = some r :=
  App.to (App.step 0 (fun v => F.bytealg_CompareString.eq (v 0) a0 a1) (by unfold F.bytealg_CompareString.B; repeat' first | exact App.val | exact App.no | exact App.lim | apply App.cond | apply App.guard | apply App.meet | apply App.ite | refine App.bind ?_ fun _ => ?_)) h
noncomputable def F.strings_Compare (K : Nat) (a0 : ByteArray) (a1 : ByteArray) : Option (Int) := evFn Try.prog sg K 66 [.sc (.val (.string a0)), .sc (.val (.string a1))] []
noncomputable def F.strings_Compare.B (c0 : (ByteArray) → (ByteArray) → Option (Int)) (a0 : ByteArray) (a1 : ByteArray) : Option (Int) :=
    ((c0 a0 a1).bind fun t0 => (some t0))
theorem F.strings_Compare.eq K a0 a1 : F.strings_Compare (K + 1) a0 a1 = F.strings_Compare.B (F.bytealg_CompareString K) a0 a1 := by kernel_rfl
noncomputable def V.strings_Compare (a0 : ByteArray) (a1 : ByteArray) := lim fun v => F.strings_Compare (v 0) a0 a1
theorem V.strings_Compare.of a0 a1 {r} (h : F.strings_Compare.B V.bytealg_CompareString a0 a1 = some r) : V.strings_Compare a0 a1 = some r :=
  App.to (App.step 0 (fun v => F.strings_Compare.eq (v 0) a0 a1) (by unfold F.strings_Compare.B; repeat' first | exact App.val | exact App.no | exact App.lim | apply App.cond | apply App.guard | apply App.meet | apply App.ite | refine App.bind ?_ fun _ => ?_)) h
noncomputable def F.cmp_Or_int (K : Nat) (a0 : List Int) : Option (Int) := evFn Try.prog sg K 64 [.sc (.list (.int .i64) a0 false)] []
noncomputable def F.cmp_Or_int.at (K : Nat) (p ns : List Nat) (s : St) : Option (Int) := atFn Try.prog sg K 64 0 p ns s
noncomputable def F.cmp_Or_int.in (K : Nat) (H : List Nat → List Nat → St → Option (Int)) (p ns : List Nat) (s : St) : Option (Int) := inFn Try.prog sg K 64 0 [] H p ns s
theorem F.cmp_Or_int.in_eq K p ns s : F.cmp_Or_int.at K p ns s = F.cmp_Or_int.in K (F.cmp_Or_int.at K) p ns s := atFn_eq (P := Try.prog) (sg := sg) (K := K) (f := 64) (m := 0) [] p ns s
theorem F.cmp_Or_int.in_main K a0 : F.cmp_Or_int (K + 1) a0 = F.cmp_Or_int.in K (F.cmp_Or_int.at K) [] [] ⟨slots [.sc (.list (.int .i64) a0 false)] 0, []⟩ := evFn_eq (P := Try.prog) (sg := sg) (K := K) (f := 64) (args := [.sc (.list (.int .i64) a0 false)]) (σ := []) [] (by kernel_rfl)
def F.cmp_Or_int.l11010.st (a0 : List Int) (x0 : Int) : St := ⟨[(3, vI 0), (6, vL (.int .i64) a0), (7, vI (a0.length : Int)), (8, vI x0)], []⟩
noncomputable def F.cmp_Or_int.l11010 (K n0 : Nat) (a0 : List Int) (x0 : Int) := F.cmp_Or_int.at K [1, 1, 0, 1, 0] [n0] (F.cmp_Or_int.l11010.st a0 x0)
noncomputable def F.cmp_Or_int.l11010.B (c0 : (List Int) → (Int) → Option (Int)) (a0 : List Int) (x0 : Int) : Option (Int) :=
    (bif (decide (x0 < (a0.length : Int))) then (guardK (decide (0 ≤ x0) && decide (x0 < (a0.length : Int))) (bif ((rd (.int .i64) a0 x0.toNat) != 0) then (some (rd (.int .i64) a0 x0.toNat)) else (c0 a0 (w64 (x0 + 1))))) else (some 0))
theorem F.cmp_Or_int.l11010.eq K n0 a0 x0 : F.cmp_Or_int.l11010 K (n0 + 1) a0 x0 = F.cmp_Or_int.l11010.B (F.cmp_Or_int.l11010 K n0) a0 x0 := (F.cmp_Or_int.in_eq K [1, 1, 0, 1, 0] [n0 + 1] (F.cmp_Or_int.l11010.st a0 x0)).trans ((show ∀ H, F.cmp_Or_int.in K H [1, 1, 0, 1, 0] [n0 + 1] (F.cmp_Or_int.l11010.st a0 x0) = F.cmp_Or_int.l11010.B (fun a0 x0 => H [1, 1, 0, 1, 0] [n0] (F.cmp_Or_int.l11010.st a0 x0)) a0 x0 from by intro H; kernel_rfl) (F.cmp_Or_int.at K))
noncomputable def F.cmp_Or_int.B (c0 : (List Int) → (Int) → Option (Int)) (a0 : List Int) : Option (Int) :=
    (c0 a0 0)
theorem F.cmp_Or_int.eq K a0 : F.cmp_Or_int (K + 1) a0 = F.cmp_Or_int.B (F.cmp_Or_int.l11010 K K) a0 := (F.cmp_Or_int.in_main K a0).trans ((show ∀ H, F.cmp_Or_int.in K H [] [] ⟨slots [.sc (.list (.int .i64) a0 false)] 0, []⟩ = F.cmp_Or_int.B (fun a0 x0 => H [1, 1, 0, 1, 0] [K] (F.cmp_Or_int.l11010.st a0 x0)) a0 from by intro H; kernel_rfl) (F.cmp_Or_int.at K))
noncomputable def V.cmp_Or_int.l11010 (a0 : List Int) (x0 : Int) := lim fun v => F.cmp_Or_int.l11010 (v 0) (v 1) a0 x0
noncomputable def V.cmp_Or_int (a0 : List Int) := lim fun v => F.cmp_Or_int (v 0) a0
theorem V.cmp_Or_int.l11010.of a0 x0 {r} (h : F.cmp_Or_int.l11010.B V.cmp_Or_int.l11010 a0 x0 = some r) : V.cmp_Or_int.l11010 a0 x0 = some r :=
  App.to (App.step 1 (fun v => F.cmp_Or_int.l11010.eq (v 0) (v 1) a0 x0) (by unfold F.cmp_Or_int.l11010.B; repeat' first | exact App.val | exact App.no | exact App.lim | apply App.cond | apply App.guard | apply App.meet | apply App.ite | refine App.bind ?_ fun _ => ?_)) h
theorem V.cmp_Or_int.of a0 {r} (h : F.cmp_Or_int.B V.cmp_Or_int.l11010 a0 = some r) : V.cmp_Or_int a0 = some r :=
  App.to (App.step 0 (fun v => F.cmp_Or_int.eq (v 0) a0) (by unfold F.cmp_Or_int.B; repeat' first | exact App.val | exact App.no | exact App.lim | exact (App.enter 1 App.lim) | apply App.cond | apply App.guard | apply App.meet | apply App.ite | refine App.bind ?_ fun _ => ?_)) h
noncomputable def F.facts_Compare (K : Nat) (a0 : TFact) (a1 : TFact) : Option (Int) := evFn Try.prog sg K 26 [.agg [.val (.int .i64 a0.1), .val (.string a0.2.1), .val (.string a0.2.2.1), .val (.string a0.2.2.2)], .agg [.val (.int .i64 a1.1), .val (.string a1.2.1), .val (.string a1.2.2.1), .val (.string a1.2.2.2)]] []
noncomputable def F.facts_Compare.B (c0 : (Int) → (Int) → Option (Int)) (c1 : (ByteArray) → (ByteArray) → Option (Int)) (c2 : (List Int) → Option (Int)) (a0 : TFact) (a1 : TFact) : Option (Int) :=
    ((c0 a0.1 a1.1).bind fun t0 => ((c1 a0.2.1 a1.2.1).bind fun t1 => ((c1 a0.2.2.1 a1.2.2.1).bind fun t2 => ((c2 ([t0, t1, t2])).bind fun t3 => (some t3)))))
theorem F.facts_Compare.eq K a0 a1 : F.facts_Compare (K + 1) a0 a1 = F.facts_Compare.B (F.cmp_Compare_int K) (F.strings_Compare K) (F.cmp_Or_int K) a0 a1 := by kernel_rfl
noncomputable def V.facts_Compare (a0 : TFact) (a1 : TFact) := lim fun v => F.facts_Compare (v 0) a0 a1
theorem V.facts_Compare.of a0 a1 {r} (h : F.facts_Compare.B V.cmp_Compare_int V.strings_Compare V.cmp_Or_int a0 a1 = some r) : V.facts_Compare a0 a1 = some r :=
  App.to (App.step 0 (fun v => F.facts_Compare.eq (v 0) a0 a1) (by unfold F.facts_Compare.B; repeat' first | exact App.val | exact App.no | exact App.lim | apply App.cond | apply App.guard | apply App.meet | apply App.ite | refine App.bind ?_ fun _ => ?_)) h
noncomputable def F.slices_insertionSortCmpFunc_apiFact_f26 (K : Nat) (a0 : List TFact) (a1 : Int) (a2 : Int) : Option ((List TFact)) := evFn Try.prog sg K 150 [.sc (.own 0 none), .sc (.val (.int .i64 a1)), .sc (.val (.int .i64 a2)), .sc (.fn 26 [])] [.elems sFact a0]
noncomputable def F.slices_insertionSortCmpFunc_apiFact_f26.at (K : Nat) (p ns : List Nat) (s : St) : Option ((List TFact)) := atFn Try.prog sg K 150 1 p ns s
noncomputable def F.slices_insertionSortCmpFunc_apiFact_f26.in (K : Nat) (H : List Nat → List Nat → St → Option ((List TFact))) (p ns : List Nat) (s : St) : Option ((List TFact)) := inFn Try.prog sg K 150 1 [] H p ns s
theorem F.slices_insertionSortCmpFunc_apiFact_f26.in_eq K p ns s : F.slices_insertionSortCmpFunc_apiFact_f26.at K p ns s = F.slices_insertionSortCmpFunc_apiFact_f26.in K (F.slices_insertionSortCmpFunc_apiFact_f26.at K) p ns s := atFn_eq (P := Try.prog) (sg := sg) (K := K) (f := 150) (m := 1) [] p ns s
theorem F.slices_insertionSortCmpFunc_apiFact_f26.in_main K a0 a1 a2 : F.slices_insertionSortCmpFunc_apiFact_f26 (K + 1) a0 a1 a2 = F.slices_insertionSortCmpFunc_apiFact_f26.in K (F.slices_insertionSortCmpFunc_apiFact_f26.at K) [] [] ⟨slots [.sc (.own 0 none), .sc (.val (.int .i64 a1)), .sc (.val (.int .i64 a2)), .sc (.fn 26 [])] 0, [.elems sFact a0]⟩ := evFn_eq (P := Try.prog) (sg := sg) (K := K) (f := 150) (args := [.sc (.own 0 none), .sc (.val (.int .i64 a1)), .sc (.val (.int .i64 a2)), .sc (.fn 26 [])]) (σ := [.elems sFact a0]) [] (by kernel_rfl)
def F.slices_insertionSortCmpFunc_apiFact_f26.l10.st (a0 : List TFact) (a1 : Int) (a2 : Int) (x0 : Int) (x1 : List TFact) : St := ⟨[(0, .one (.sc (.own 0 none))), (1, vI a1), (2, vI a2), (3, .one (.sc (.fn 26 []))), (8, vI x0)], [.elems sFact x1]⟩
noncomputable def F.slices_insertionSortCmpFunc_apiFact_f26.l10 (K n0 : Nat) (a0 : List TFact) (a1 : Int) (a2 : Int) (x0 : Int) (x1 : List TFact) := F.slices_insertionSortCmpFunc_apiFact_f26.at K [1, 0] [n0] (F.slices_insertionSortCmpFunc_apiFact_f26.l10.st a0 a1 a2 x0 x1)
def F.slices_insertionSortCmpFunc_apiFact_f26.l10010010.st (a0 : List TFact) (a1 : Int) (a2 : Int) (x0 : Int) (x1 : Int) (x2 : List TFact) : St := ⟨[(0, .one (.sc (.own 0 none))), (1, vI a1), (2, vI a2), (3, .one (.sc (.fn 26 []))), (8, vI x0), (9, vI x1)], [.elems sFact x2]⟩
noncomputable def F.slices_insertionSortCmpFunc_apiFact_f26.l10010010 (K n0 n1 : Nat) (a0 : List TFact) (a1 : Int) (a2 : Int) (x0 : Int) (x1 : Int) (x2 : List TFact) := F.slices_insertionSortCmpFunc_apiFact_f26.at K [1, 0, 0, 1, 0, 0, 1, 0] [n0, n1] (F.slices_insertionSortCmpFunc_apiFact_f26.l10010010.st a0 a1 a2 x0 x1 x2)
noncomputable def F.slices_insertionSortCmpFunc_apiFact_f26.l10.B (c0 : (List TFact) → (Int) → (Int) → (Int) → (Int) → (List TFact) → Option ((List TFact))) (a0 : List TFact) (a1 : Int) (a2 : Int) (x0 : Int) (x1 : List TFact) : Option ((List TFact)) :=
    (bif (decide (x0 < a2)) then (c0 a0 a1 a2 x0 x0 x1) else (some x1))
theorem F.slices_insertionSortCmpFunc_apiFact_f26.l10.eq K n0 a0 a1 a2 x0 x1 : F.slices_insertionSortCmpFunc_apiFact_f26.l10 K (n0 + 1) a0 a1 a2 x0 x1 = F.slices_insertionSortCmpFunc_apiFact_f26.l10.B (F.slices_insertionSortCmpFunc_apiFact_f26.l10010010 K n0 K) a0 a1 a2 x0 x1 := (F.slices_insertionSortCmpFunc_apiFact_f26.in_eq K [1, 0] [n0 + 1] (F.slices_insertionSortCmpFunc_apiFact_f26.l10.st a0 a1 a2 x0 x1)).trans ((show ∀ H, F.slices_insertionSortCmpFunc_apiFact_f26.in K H [1, 0] [n0 + 1] (F.slices_insertionSortCmpFunc_apiFact_f26.l10.st a0 a1 a2 x0 x1) = F.slices_insertionSortCmpFunc_apiFact_f26.l10.B (fun a0 a1 a2 x0 x1 x2 => H [1, 0, 0, 1, 0, 0, 1, 0] [n0, K] (F.slices_insertionSortCmpFunc_apiFact_f26.l10010010.st a0 a1 a2 x0 x1 x2)) a0 a1 a2 x0 x1 from by intro H; kernel_rfl) (F.slices_insertionSortCmpFunc_apiFact_f26.at K))
noncomputable def F.slices_insertionSortCmpFunc_apiFact_f26.B (c0 : (List TFact) → (Int) → (Int) → (Int) → (List TFact) → Option ((List TFact))) (a0 : List TFact) (a1 : Int) (a2 : Int) : Option ((List TFact)) :=
    (c0 a0 a1 a2 (w64 (a1 + 1)) a0)
theorem F.slices_insertionSortCmpFunc_apiFact_f26.eq K a0 a1 a2 : F.slices_insertionSortCmpFunc_apiFact_f26 (K + 1) a0 a1 a2 = F.slices_insertionSortCmpFunc_apiFact_f26.B (F.slices_insertionSortCmpFunc_apiFact_f26.l10 K K) a0 a1 a2 := (F.slices_insertionSortCmpFunc_apiFact_f26.in_main K a0 a1 a2).trans ((show ∀ H, F.slices_insertionSortCmpFunc_apiFact_f26.in K H [] [] ⟨slots [.sc (.own 0 none), .sc (.val (.int .i64 a1)), .sc (.val (.int .i64 a2)), .sc (.fn 26 [])] 0, [.elems sFact a0]⟩ = F.slices_insertionSortCmpFunc_apiFact_f26.B (fun a0 a1 a2 x0 x1 => H [1, 0] [K] (F.slices_insertionSortCmpFunc_apiFact_f26.l10.st a0 a1 a2 x0 x1)) a0 a1 a2 from by intro H; kernel_rfl) (F.slices_insertionSortCmpFunc_apiFact_f26.at K))
noncomputable def V.slices_insertionSortCmpFunc_apiFact_f26.l10 (a0 : List TFact) (a1 : Int) (a2 : Int) (x0 : Int) (x1 : List TFact) := lim fun v => F.slices_insertionSortCmpFunc_apiFact_f26.l10 (v 0) (v 1) a0 a1 a2 x0 x1
noncomputable def V.slices_insertionSortCmpFunc_apiFact_f26.l10010010 (a0 : List TFact) (a1 : Int) (a2 : Int) (x0 : Int) (x1 : Int) (x2 : List TFact) := lim fun v => F.slices_insertionSortCmpFunc_apiFact_f26.l10010010 (v 0) (v 1) (v 2) a0 a1 a2 x0 x1 x2
noncomputable def V.slices_insertionSortCmpFunc_apiFact_f26 (a0 : List TFact) (a1 : Int) (a2 : Int) := lim fun v => F.slices_insertionSortCmpFunc_apiFact_f26 (v 0) a0 a1 a2
theorem V.slices_insertionSortCmpFunc_apiFact_f26.l10.of a0 a1 a2 x0 x1 {r} (h : F.slices_insertionSortCmpFunc_apiFact_f26.l10.B V.slices_insertionSortCmpFunc_apiFact_f26.l10010010 a0 a1 a2 x0 x1 = some r) : V.slices_insertionSortCmpFunc_apiFact_f26.l10 a0 a1 a2 x0 x1 = some r :=
  App.to (App.step 1 (fun v => F.slices_insertionSortCmpFunc_apiFact_f26.l10.eq (v 0) (v 1) a0 a1 a2 x0 x1) (by unfold F.slices_insertionSortCmpFunc_apiFact_f26.l10.B; repeat' first | exact App.val | exact App.no | exact App.lim | exact (App.enter 2 App.lim) | apply App.cond | apply App.guard | apply App.meet | apply App.ite | refine App.bind ?_ fun _ => ?_)) h
theorem V.slices_insertionSortCmpFunc_apiFact_f26.of a0 a1 a2 {r} (h : F.slices_insertionSortCmpFunc_apiFact_f26.B V.slices_insertionSortCmpFunc_apiFact_f26.l10 a0 a1 a2 = some r) : V.slices_insertionSortCmpFunc_apiFact_f26 a0 a1 a2 = some r :=
  App.to (App.step 0 (fun v => F.slices_insertionSortCmpFunc_apiFact_f26.eq (v 0) a0 a1 a2) (by unfold F.slices_insertionSortCmpFunc_apiFact_f26.B; repeat' first | exact App.val | exact App.no | exact App.lim | exact (App.enter 1 App.lim) | apply App.cond | apply App.guard | apply App.meet | apply App.ite | refine App.bind ?_ fun _ => ?_)) h
noncomputable def F.slices_stableCmpFunc_apiFact_f26 (K : Nat) (a0 : List TFact) (a1 : Int) : Option ((List TFact)) := evFn Try.prog sg K 112 [.sc (.own 0 none), .sc (.val (.int .i64 a1)), .sc (.fn 26 [])] [.elems sFact a0]
noncomputable def F.slices_stableCmpFunc_apiFact_f26.at (K : Nat) (p ns : List Nat) (s : St) : Option ((List TFact)) := atFn Try.prog sg K 112 1 p ns s
noncomputable def F.slices_stableCmpFunc_apiFact_f26.in (K : Nat) (H : List Nat → List Nat → St → Option ((List TFact))) (p ns : List Nat) (s : St) : Option ((List TFact)) := inFn Try.prog sg K 112 1 [] H p ns s
theorem F.slices_stableCmpFunc_apiFact_f26.in_eq K p ns s : F.slices_stableCmpFunc_apiFact_f26.at K p ns s = F.slices_stableCmpFunc_apiFact_f26.in K (F.slices_stableCmpFunc_apiFact_f26.at K) p ns s := atFn_eq (P := Try.prog) (sg := sg) (K := K) (f := 112) (m := 1) [] p ns s
theorem F.slices_stableCmpFunc_apiFact_f26.in_main K a0 a1 : F.slices_stableCmpFunc_apiFact_f26 (K + 1) a0 a1 = F.slices_stableCmpFunc_apiFact_f26.in K (F.slices_stableCmpFunc_apiFact_f26.at K) [] [] ⟨slots [.sc (.own 0 none), .sc (.val (.int .i64 a1)), .sc (.fn 26 [])] 0, [.elems sFact a0]⟩ := evFn_eq (P := Try.prog) (sg := sg) (K := K) (f := 112) (args := [.sc (.own 0 none), .sc (.val (.int .i64 a1)), .sc (.fn 26 [])]) (σ := [.elems sFact a0]) [] (by kernel_rfl)
def F.slices_stableCmpFunc_apiFact_f26.l1100.st (a0 : List TFact) (a1 : Int) (x0 : Int) (x1 : Int) (x2 : List TFact) : St := ⟨[(0, .one (.sc (.own 0 none))), (1, vI a1), (2, .one (.sc (.fn 26 []))), (6, vI 20), (7, vI x0), (8, vI x1)], [.elems sFact x2]⟩
noncomputable def F.slices_stableCmpFunc_apiFact_f26.l1100 (K n0 : Nat) (a0 : List TFact) (a1 : Int) (x0 : Int) (x1 : Int) (x2 : List TFact) := F.slices_stableCmpFunc_apiFact_f26.at K [1, 1, 0, 0] [n0] (F.slices_stableCmpFunc_apiFact_f26.l1100.st a0 a1 x0 x1 x2)
def F.slices_stableCmpFunc_apiFact_f26.l11110.st (a0 : List TFact) (a1 : Int) (x0 : Int) (x1 : List TFact) : St := ⟨[(0, .one (.sc (.own 0 none))), (1, vI a1), (2, .one (.sc (.fn 26 []))), (6, vI x0)], [.elems sFact x1]⟩
noncomputable def F.slices_stableCmpFunc_apiFact_f26.l11110 (K n0 : Nat) (a0 : List TFact) (a1 : Int) (x0 : Int) (x1 : List TFact) := F.slices_stableCmpFunc_apiFact_f26.at K [1, 1, 1, 1, 0] [n0] (F.slices_stableCmpFunc_apiFact_f26.l11110.st a0 a1 x0 x1)
def F.slices_stableCmpFunc_apiFact_f26.l11110010100.st (a0 : List TFact) (a1 : Int) (x0 : Int) (x1 : Int) (x2 : Int) (x3 : List TFact) : St := ⟨[(0, .one (.sc (.own 0 none))), (1, vI a1), (2, .one (.sc (.fn 26 []))), (6, vI x0), (7, vI x1), (8, vI x2)], [.elems sFact x3]⟩
noncomputable def F.slices_stableCmpFunc_apiFact_f26.l11110010100 (K n0 n1 : Nat) (a0 : List TFact) (a1 : Int) (x0 : Int) (x1 : Int) (x2 : Int) (x3 : List TFact) := F.slices_stableCmpFunc_apiFact_f26.at K [1, 1, 1, 1, 0, 0, 1, 0, 1, 0, 0] [n0, n1] (F.slices_stableCmpFunc_apiFact_f26.l11110010100.st a0 a1 x0 x1 x2 x3)
noncomputable def F.slices_stableCmpFunc_apiFact_f26.l1100.B (c0 : (List TFact) → (Int) → (Int) → Option ((List TFact))) (c1 : (List TFact) → (Int) → (Int) → (Int) → (List TFact) → Option ((List TFact))) (c2 : (List TFact) → (Int) → (Int) → (List TFact) → Option ((List TFact))) (a0 : List TFact) (a1 : Int) (x0 : Int) (x1 : Int) (x2 : List TFact) : Option ((List TFact)) :=
    (bif (decide (x1 ≤ a1)) then ((c0 x2 x0 x1).bind fun t0 => (c1 a0 a1 x1 (w64 (x1 + 20)) t0)) else ((c0 x2 x0 a1).bind fun t1 => (c2 a0 a1 20 t1)))
theorem F.slices_stableCmpFunc_apiFact_f26.l1100.eq K n0 a0 a1 x0 x1 x2 : F.slices_stableCmpFunc_apiFact_f26.l1100 K (n0 + 1) a0 a1 x0 x1 x2 = F.slices_stableCmpFunc_apiFact_f26.l1100.B (F.slices_insertionSortCmpFunc_apiFact_f26 K) (F.slices_stableCmpFunc_apiFact_f26.l1100 K n0) (F.slices_stableCmpFunc_apiFact_f26.l11110 K K) a0 a1 x0 x1 x2 := (F.slices_stableCmpFunc_apiFact_f26.in_eq K [1, 1, 0, 0] [n0 + 1] (F.slices_stableCmpFunc_apiFact_f26.l1100.st a0 a1 x0 x1 x2)).trans ((show ∀ H, F.slices_stableCmpFunc_apiFact_f26.in K H [1, 1, 0, 0] [n0 + 1] (F.slices_stableCmpFunc_apiFact_f26.l1100.st a0 a1 x0 x1 x2) = F.slices_stableCmpFunc_apiFact_f26.l1100.B (F.slices_insertionSortCmpFunc_apiFact_f26 K) (fun a0 a1 x0 x1 x2 => H [1, 1, 0, 0] [n0] (F.slices_stableCmpFunc_apiFact_f26.l1100.st a0 a1 x0 x1 x2)) (fun a0 a1 x0 x1 => H [1, 1, 1, 1, 0] [K] (F.slices_stableCmpFunc_apiFact_f26.l11110.st a0 a1 x0 x1)) a0 a1 x0 x1 x2 from by intro H; kernel_rfl) (F.slices_stableCmpFunc_apiFact_f26.at K))
noncomputable def F.slices_stableCmpFunc_apiFact_f26.l11110.B (c0 : (List TFact) → (Int) → (Int) → (Int) → (Int) → (List TFact) → Option ((List TFact))) (a0 : List TFact) (a1 : Int) (x0 : Int) (x1 : List TFact) : Option ((List TFact)) :=
    (bif (decide (x0 < a1)) then (c0 a0 a1 x0 0 (w64 (2 * x0)) x1) else (some x1))
theorem F.slices_stableCmpFunc_apiFact_f26.l11110.eq K n0 a0 a1 x0 x1 : F.slices_stableCmpFunc_apiFact_f26.l11110 K (n0 + 1) a0 a1 x0 x1 = F.slices_stableCmpFunc_apiFact_f26.l11110.B (F.slices_stableCmpFunc_apiFact_f26.l11110010100 K n0 K) a0 a1 x0 x1 := (F.slices_stableCmpFunc_apiFact_f26.in_eq K [1, 1, 1, 1, 0] [n0 + 1] (F.slices_stableCmpFunc_apiFact_f26.l11110.st a0 a1 x0 x1)).trans ((show ∀ H, F.slices_stableCmpFunc_apiFact_f26.in K H [1, 1, 1, 1, 0] [n0 + 1] (F.slices_stableCmpFunc_apiFact_f26.l11110.st a0 a1 x0 x1) = F.slices_stableCmpFunc_apiFact_f26.l11110.B (fun a0 a1 x0 x1 x2 x3 => H [1, 1, 1, 1, 0, 0, 1, 0, 1, 0, 0] [n0, K] (F.slices_stableCmpFunc_apiFact_f26.l11110010100.st a0 a1 x0 x1 x2 x3)) a0 a1 x0 x1 from by intro H; kernel_rfl) (F.slices_stableCmpFunc_apiFact_f26.at K))
noncomputable def F.slices_stableCmpFunc_apiFact_f26.B (c0 : (List TFact) → (Int) → (Int) → (Int) → (List TFact) → Option ((List TFact))) (a0 : List TFact) (a1 : Int) : Option ((List TFact)) :=
    (c0 a0 a1 0 20 a0)
theorem F.slices_stableCmpFunc_apiFact_f26.eq K a0 a1 : F.slices_stableCmpFunc_apiFact_f26 (K + 1) a0 a1 = F.slices_stableCmpFunc_apiFact_f26.B (F.slices_stableCmpFunc_apiFact_f26.l1100 K K) a0 a1 := (F.slices_stableCmpFunc_apiFact_f26.in_main K a0 a1).trans ((show ∀ H, F.slices_stableCmpFunc_apiFact_f26.in K H [] [] ⟨slots [.sc (.own 0 none), .sc (.val (.int .i64 a1)), .sc (.fn 26 [])] 0, [.elems sFact a0]⟩ = F.slices_stableCmpFunc_apiFact_f26.B (fun a0 a1 x0 x1 x2 => H [1, 1, 0, 0] [K] (F.slices_stableCmpFunc_apiFact_f26.l1100.st a0 a1 x0 x1 x2)) a0 a1 from by intro H; kernel_rfl) (F.slices_stableCmpFunc_apiFact_f26.at K))
noncomputable def V.slices_stableCmpFunc_apiFact_f26.l1100 (a0 : List TFact) (a1 : Int) (x0 : Int) (x1 : Int) (x2 : List TFact) := lim fun v => F.slices_stableCmpFunc_apiFact_f26.l1100 (v 0) (v 1) a0 a1 x0 x1 x2
noncomputable def V.slices_stableCmpFunc_apiFact_f26.l11110 (a0 : List TFact) (a1 : Int) (x0 : Int) (x1 : List TFact) := lim fun v => F.slices_stableCmpFunc_apiFact_f26.l11110 (v 0) (v 1) a0 a1 x0 x1
noncomputable def V.slices_stableCmpFunc_apiFact_f26.l11110010100 (a0 : List TFact) (a1 : Int) (x0 : Int) (x1 : Int) (x2 : Int) (x3 : List TFact) := lim fun v => F.slices_stableCmpFunc_apiFact_f26.l11110010100 (v 0) (v 1) (v 2) a0 a1 x0 x1 x2 x3
noncomputable def V.slices_stableCmpFunc_apiFact_f26 (a0 : List TFact) (a1 : Int) := lim fun v => F.slices_stableCmpFunc_apiFact_f26 (v 0) a0 a1
theorem V.slices_stableCmpFunc_apiFact_f26.l1100.of a0 a1 x0 x1 x2 {r} (h : F.slices_stableCmpFunc_apiFact_f26.l1100.B V.slices_insertionSortCmpFunc_apiFact_f26 V.slices_stableCmpFunc_apiFact_f26.l1100 V.slices_stableCmpFunc_apiFact_f26.l11110 a0 a1 x0 x1 x2 = some r) : V.slices_stableCmpFunc_apiFact_f26.l1100 a0 a1 x0 x1 x2 = some r :=
  App.to (App.step 1 (fun v => F.slices_stableCmpFunc_apiFact_f26.l1100.eq (v 0) (v 1) a0 a1 x0 x1 x2) (by unfold F.slices_stableCmpFunc_apiFact_f26.l1100.B; repeat' first | exact App.val | exact App.no | exact App.lim | exact (App.enter 1 App.lim) | apply App.cond | apply App.guard | apply App.meet | apply App.ite | refine App.bind ?_ fun _ => ?_)) h
theorem V.slices_stableCmpFunc_apiFact_f26.l11110.of a0 a1 x0 x1 {r} (h : F.slices_stableCmpFunc_apiFact_f26.l11110.B V.slices_stableCmpFunc_apiFact_f26.l11110010100 a0 a1 x0 x1 = some r) : V.slices_stableCmpFunc_apiFact_f26.l11110 a0 a1 x0 x1 = some r :=
  App.to (App.step 1 (fun v => F.slices_stableCmpFunc_apiFact_f26.l11110.eq (v 0) (v 1) a0 a1 x0 x1) (by unfold F.slices_stableCmpFunc_apiFact_f26.l11110.B; repeat' first | exact App.val | exact App.no | exact App.lim | exact (App.enter 2 App.lim) | apply App.cond | apply App.guard | apply App.meet | apply App.ite | refine App.bind ?_ fun _ => ?_)) h
theorem V.slices_stableCmpFunc_apiFact_f26.of a0 a1 {r} (h : F.slices_stableCmpFunc_apiFact_f26.B V.slices_stableCmpFunc_apiFact_f26.l1100 a0 a1 = some r) : V.slices_stableCmpFunc_apiFact_f26 a0 a1 = some r :=
  App.to (App.step 0 (fun v => F.slices_stableCmpFunc_apiFact_f26.eq (v 0) a0 a1) (by unfold F.slices_stableCmpFunc_apiFact_f26.B; repeat' first | exact App.val | exact App.no | exact App.lim | exact (App.enter 1 App.lim) | apply App.cond | apply App.guard | apply App.meet | apply App.ite | refine App.bind ?_ fun _ => ?_)) h
noncomputable def F.slices_SortStableFunc_apiFactapiFact_f26 (K : Nat) (a0 : List TFact) : Option ((List TFact)) := evFn Try.prog sg K 59 [.sc (.own 0 none), .sc (.fn 26 [])] [.elems sFact a0]
noncomputable def F.slices_SortStableFunc_apiFactapiFact_f26.B (c0 : (List TFact) → (Int) → Option ((List TFact))) (a0 : List TFact) : Option ((List TFact)) :=
    ((c0 a0 (a0.length : Int)).bind fun t0 => (some t0))
theorem F.slices_SortStableFunc_apiFactapiFact_f26.eq K a0 : F.slices_SortStableFunc_apiFactapiFact_f26 (K + 1) a0 = F.slices_SortStableFunc_apiFactapiFact_f26.B (F.slices_stableCmpFunc_apiFact_f26 K) a0 := by kernel_rfl
noncomputable def V.slices_SortStableFunc_apiFactapiFact_f26 (a0 : List TFact) := lim fun v => F.slices_SortStableFunc_apiFactapiFact_f26 (v 0) a0
theorem V.slices_SortStableFunc_apiFactapiFact_f26.of a0 {r} (h : F.slices_SortStableFunc_apiFactapiFact_f26.B V.slices_stableCmpFunc_apiFact_f26 a0 = some r) : V.slices_SortStableFunc_apiFactapiFact_f26 a0 = some r :=
  App.to (App.step 0 (fun v => F.slices_SortStableFunc_apiFactapiFact_f26.eq (v 0) a0) (by unfold F.slices_SortStableFunc_apiFactapiFact_f26.B; repeat' first | exact App.val | exact App.no | exact App.lim | apply App.cond | apply App.guard | apply App.meet | apply App.ite | refine App.bind ?_ fun _ => ?_)) h
noncomputable def F.facts_Of (K : Nat) (a0 : TGraph) : Option ((List TFact)) := evFn Try.prog sg K 14 [.agg [.list sNode a0.1 false, .list sEdge a0.2 false]] []
noncomputable def F.facts_Of.at (K : Nat) (p ns : List Nat) (s : St) : Option ((List TFact)) := atFn Try.prog sg K 14 0 p ns s
noncomputable def F.facts_Of.in (K : Nat) (H : List Nat → List Nat → St → Option ((List TFact))) (p ns : List Nat) (s : St) : Option ((List TFact)) := inFn Try.prog sg K 14 0 [] H p ns s
theorem F.facts_Of.in_eq K p ns s : F.facts_Of.at K p ns s = F.facts_Of.in K (F.facts_Of.at K) p ns s := atFn_eq (P := Try.prog) (sg := sg) (K := K) (f := 14) (m := 0) [] p ns s
theorem F.facts_Of.in_main K a0 : F.facts_Of (K + 1) a0 = F.facts_Of.in K (F.facts_Of.at K) [] [] ⟨slots [.agg [.list sNode a0.1 false, .list sEdge a0.2 false]] 0, []⟩ := evFn_eq (P := Try.prog) (sg := sg) (K := K) (f := 14) (args := [.agg [.list sNode a0.1 false, .list sEdge a0.2 false]]) (σ := []) [] (by kernel_rfl)
def F.facts_Of.l111010.st (a0 : TGraph) (x0 : Int) (x1 : List TFact) : St := ⟨[(1, .one (.sc (.ref 0 0))), (3, .one (.sc (.own 1 none))), (12, vL sNode a0.1), (13, vI (a0.1.length : Int)), (14, vI x0)], [.cells 25 [.list sNode a0.1 false, .list sEdge a0.2 false], .elems sFact x1]⟩
noncomputable def F.facts_Of.l111010 (K n0 : Nat) (a0 : TGraph) (x0 : Int) (x1 : List TFact) := F.facts_Of.at K [1, 1, 1, 0, 1, 0] [n0] (F.facts_Of.l111010.st a0 x0 x1)
def F.facts_Of.l1111010.st (a0 : TGraph) (x0 : Int) (x1 : List TFact) : St := ⟨[(3, .one (.sc (.own 0 none))), (35, vL sEdge a0.2), (36, vI (a0.2.length : Int)), (37, vI x0)], [.elems sFact x1]⟩
noncomputable def F.facts_Of.l1111010 (K n0 : Nat) (a0 : TGraph) (x0 : Int) (x1 : List TFact) := F.facts_Of.at K [1, 1, 1, 1, 0, 1, 0] [n0] (F.facts_Of.l1111010.st a0 x0 x1)
noncomputable def F.facts_Of.l111010.B (c0 : (ByteArray) → (Int) → (Int) → (List ByteArray) → (List TProp) → Option ((List TFact))) (c1 : (TGraph) → (Int) → (List TFact) → Option ((List TFact))) (c2 : (TGraph) → (Int) → (List TFact) → Option ((List TFact))) (a0 : TGraph) (x0 : Int) (x1 : List TFact) : Option ((List TFact)) :=
    (bif (decide (x0 < (a0.1.length : Int))) then (guardK (decide (0 ≤ x0) && decide (x0 < (a0.1.length : Int))) (guardK (decide (x1.length + ([(1, (rd sNode a0.1 x0.toNat).1, (⟨#[]⟩ : ByteArray), (⟨#[]⟩ : ByteArray))]).length ≤ nmax)) ((c0 ((rd sNode a0.1 x0.toNat).1) 2 3 (((rd sNode a0.1 x0.toNat).2).1) (((rd sNode a0.1 x0.toNat).2).2)).bind fun t1 => (guardK (decide ((x1 ++ [(1, (rd sNode a0.1 x0.toNat).1, (⟨#[]⟩ : ByteArray), (⟨#[]⟩ : ByteArray))]).length + t1.length ≤ nmax)) (c1 a0 (w64 (x0 + 1)) ((x1 ++ [(1, (rd sNode a0.1 x0.toNat).1, (⟨#[]⟩ : ByteArray), (⟨#[]⟩ : ByteArray))]) ++ t1)))))) else (c2 a0 0 x1))
theorem F.facts_Of.l111010.eq K n0 a0 x0 x1 : F.facts_Of.l111010 K (n0 + 1) a0 x0 x1 = F.facts_Of.l111010.B (F.facts_of K) (F.facts_Of.l111010 K n0) (F.facts_Of.l1111010 K K) a0 x0 x1 := (F.facts_Of.in_eq K [1, 1, 1, 0, 1, 0] [n0 + 1] (F.facts_Of.l111010.st a0 x0 x1)).trans ((show ∀ H, F.facts_Of.in K H [1, 1, 1, 0, 1, 0] [n0 + 1] (F.facts_Of.l111010.st a0 x0 x1) = F.facts_Of.l111010.B (F.facts_of K) (fun a0 x0 x1 => H [1, 1, 1, 0, 1, 0] [n0] (F.facts_Of.l111010.st a0 x0 x1)) (fun a0 x0 x1 => H [1, 1, 1, 1, 0, 1, 0] [K] (F.facts_Of.l1111010.st a0 x0 x1)) a0 x0 x1 from by intro H; kernel_rfl) (F.facts_Of.at K))
noncomputable def F.facts_Of.l1111010.B (c0 : (ByteArray) → (ByteArray) → Option (ByteArray)) (c1 : (ByteArray) → (Int) → (Int) → (List ByteArray) → (List TProp) → Option ((List TFact))) (c2 : (TGraph) → (Int) → (List TFact) → Option ((List TFact))) (c3 : (List TFact) → Option ((List TFact))) (a0 : TGraph) (x0 : Int) (x1 : List TFact) : Option ((List TFact)) :=
    (bif (decide (x0 < (a0.2.length : Int))) then (guardK (decide (0 ≤ x0) && decide (x0 < (a0.2.length : Int))) ((c0 (((rd sEdge a0.2 x0.toNat).2).1) ((((rd sEdge a0.2 x0.toNat).2).2).1)).bind fun t2 => (guardK (decide (x1.length + ([(4, (rd sEdge a0.2 x0.toNat).1, (⟨#[]⟩ : ByteArray), t2)]).length ≤ nmax)) ((c1 ((rd sEdge a0.2 x0.toNat).1) 5 6 (((((rd sEdge a0.2 x0.toNat).2).2).2).1) (((((rd sEdge a0.2 x0.toNat).2).2).2).2)).bind fun t3 => (guardK (decide ((x1 ++ [(4, (rd sEdge a0.2 x0.toNat).1, (⟨#[]⟩ : ByteArray), t2)]).length + t3.length ≤ nmax)) (c2 a0 (w64 (x0 + 1)) ((x1 ++ [(4, (rd sEdge a0.2 x0.toNat).1, (⟨#[]⟩ : ByteArray), t2)]) ++ t3))))))) else ((c3 x1).bind fun t4 => (some t4)))
theorem F.facts_Of.l1111010.eq K n0 a0 x0 x1 : F.facts_Of.l1111010 K (n0 + 1) a0 x0 x1 = F.facts_Of.l1111010.B (F.facts_Ends K) (F.facts_of K) (F.facts_Of.l1111010 K n0) (F.slices_SortStableFunc_apiFactapiFact_f26 K) a0 x0 x1 := (F.facts_Of.in_eq K [1, 1, 1, 1, 0, 1, 0] [n0 + 1] (F.facts_Of.l1111010.st a0 x0 x1)).trans ((show ∀ H, F.facts_Of.in K H [1, 1, 1, 1, 0, 1, 0] [n0 + 1] (F.facts_Of.l1111010.st a0 x0 x1) = F.facts_Of.l1111010.B (F.facts_Ends K) (F.facts_of K) (fun a0 x0 x1 => H [1, 1, 1, 1, 0, 1, 0] [n0] (F.facts_Of.l1111010.st a0 x0 x1)) (F.slices_SortStableFunc_apiFactapiFact_f26 K) a0 x0 x1 from by intro H; kernel_rfl) (F.facts_Of.at K))
noncomputable def F.facts_Of.B (c0 : (TGraph) → Option (Int)) (c1 : (TGraph) → (Int) → (List TFact) → Option ((List TFact))) (a0 : TGraph) : Option ((List TFact)) :=
    ((c0 (a0.1, a0.2)).bind fun t0 => (bif (t0 != 0) then (some ([])) else (c1 a0 0 ([]))))
theorem F.facts_Of.eq K a0 : F.facts_Of (K + 1) a0 = F.facts_Of.B (F.graph_Check K) (F.facts_Of.l111010 K K) a0 := (F.facts_Of.in_main K a0).trans ((show ∀ H, F.facts_Of.in K H [] [] ⟨slots [.agg [.list sNode a0.1 false, .list sEdge a0.2 false]] 0, []⟩ = F.facts_Of.B (F.graph_Check K) (fun a0 x0 x1 => H [1, 1, 1, 0, 1, 0] [K] (F.facts_Of.l111010.st a0 x0 x1)) a0 from by intro H; kernel_rfl) (F.facts_Of.at K))
noncomputable def V.facts_Of.l111010 (a0 : TGraph) (x0 : Int) (x1 : List TFact) := lim fun v => F.facts_Of.l111010 (v 0) (v 1) a0 x0 x1
noncomputable def V.facts_Of.l1111010 (a0 : TGraph) (x0 : Int) (x1 : List TFact) := lim fun v => F.facts_Of.l1111010 (v 0) (v 1) a0 x0 x1
noncomputable def V.facts_Of (a0 : TGraph) := lim fun v => F.facts_Of (v 0) a0
theorem V.facts_Of.l111010.of a0 x0 x1 {r} (h : F.facts_Of.l111010.B V.facts_of V.facts_Of.l111010 V.facts_Of.l1111010 a0 x0 x1 = some r) : V.facts_Of.l111010 a0 x0 x1 = some r :=
  App.to (App.step 1 (fun v => F.facts_Of.l111010.eq (v 0) (v 1) a0 x0 x1) (by unfold F.facts_Of.l111010.B; repeat' first | exact App.val | exact App.no | exact App.lim | exact (App.enter 1 App.lim) | apply App.cond | apply App.guard | apply App.meet | apply App.ite | refine App.bind ?_ fun _ => ?_)) h
theorem V.facts_Of.l1111010.of a0 x0 x1 {r} (h : F.facts_Of.l1111010.B V.facts_Ends V.facts_of V.facts_Of.l1111010 V.slices_SortStableFunc_apiFactapiFact_f26 a0 x0 x1 = some r) : V.facts_Of.l1111010 a0 x0 x1 = some r :=
  App.to (App.step 1 (fun v => F.facts_Of.l1111010.eq (v 0) (v 1) a0 x0 x1) (by unfold F.facts_Of.l1111010.B; repeat' first | exact App.val | exact App.no | exact App.lim | apply App.cond | apply App.guard | apply App.meet | apply App.ite | refine App.bind ?_ fun _ => ?_)) h
theorem V.facts_Of.of a0 {r} (h : F.facts_Of.B V.graph_Check V.facts_Of.l111010 a0 = some r) : V.facts_Of a0 = some r :=
  App.to (App.step 0 (fun v => F.facts_Of.eq (v 0) a0) (by unfold F.facts_Of.B; repeat' first | exact App.val | exact App.no | exact App.lim | exact (App.enter 1 App.lim) | apply App.cond | apply App.guard | apply App.meet | apply App.ite | refine App.bind ?_ fun _ => ?_)) h
noncomputable def F.pleachlaw27_awake (K : Nat) : Option (Bool) := evFn Try.prog sg K 13 [] []
noncomputable def F.pleachlaw27_awake.B (c0 : (TGraph) → Option ((List TFact))) : Option (Bool) :=
    ((c0 ([((⟨#[97]⟩ : ByteArray), [], [])], [])).bind fun t0 => (bif ((t0.length : Int) == 1) then (guardK (decide (0 < (t0.length : Int))) (some (((rd sFact t0 0).1 == 1) && ((strEq (((rd sFact t0 0).2).1) (⟨#[97]⟩ : ByteArray)) && ((strEq ((((rd sFact t0 0).2).2).1) (⟨#[]⟩ : ByteArray)) && ((strEq ((((rd sFact t0 0).2).2).2) (⟨#[]⟩ : ByteArray)) && true)))))) else (some false)))
theorem F.pleachlaw27_awake.eq K : F.pleachlaw27_awake (K + 1) = F.pleachlaw27_awake.B (F.facts_Of K) := by kernel_rfl
noncomputable def V.pleachlaw27_awake := lim fun v => F.pleachlaw27_awake (v 0)
theorem V.pleachlaw27_awake.of {r} (h : F.pleachlaw27_awake.B V.facts_Of = some r) : V.pleachlaw27_awake = some r :=
  App.to (App.step 0 (fun v => F.pleachlaw27_awake.eq (v 0)) (by unfold F.pleachlaw27_awake.B; repeat' first | exact App.val | exact App.no | exact App.lim | apply App.cond | apply App.guard | apply App.meet | apply App.ite | refine App.bind ?_ fun _ => ?_)) h
noncomputable def F.pleachref27_Less (K : Nat) (a0 : TFact) (a1 : TFact) : Option (Bool) := evFn Try.prog sg K 23 [.agg [.val (.int .i64 a0.1), .val (.string a0.2.1), .val (.string a0.2.2.1), .val (.string a0.2.2.2)], .agg [.val (.int .i64 a1.1), .val (.string a1.2.1), .val (.string a1.2.2.1), .val (.string a1.2.2.2)]] []
noncomputable def F.pleachref27_Less.B (a0 : TFact) (a1 : TFact) : Option (Bool) :=
    (bif (a0.1 != a1.1) then (some (decide (a0.1 < a1.1))) else (bif (!strEq a0.2.1 a1.2.1) then (some (strLt a0.2.1 a1.2.1)) else (some (strLt a0.2.2.1 a1.2.2.1))))
theorem F.pleachref27_Less.eq K a0 a1 : F.pleachref27_Less (K + 1) a0 a1 = F.pleachref27_Less.B a0 a1 := by kernel_rfl
noncomputable def V.pleachref27_Less (a0 : TFact) (a1 : TFact) := lim fun v => F.pleachref27_Less (v 0) a0 a1
theorem V.pleachref27_Less.of a0 a1 {r} (h : F.pleachref27_Less.B a0 a1 = some r) : V.pleachref27_Less a0 a1 = some r :=
  App.to (App.step 0 (fun v => F.pleachref27_Less.eq (v 0) a0 a1) (by unfold F.pleachref27_Less.B; repeat' first | exact App.val | exact App.no | exact App.lim | apply App.cond | apply App.guard | apply App.meet | apply App.ite | refine App.bind ?_ fun _ => ?_)) h
noncomputable def F.pleachref27_Rises (K : Nat) (a0 : List TFact) : Option (Bool) := evFn Try.prog sg K 19 [.sc (.list sFact a0 false)] []
noncomputable def F.pleachref27_Rises.at (K : Nat) (p ns : List Nat) (s : St) : Option (Bool) := atFn Try.prog sg K 19 0 p ns s
noncomputable def F.pleachref27_Rises.in (K : Nat) (H : List Nat → List Nat → St → Option (Bool)) (p ns : List Nat) (s : St) : Option (Bool) := inFn Try.prog sg K 19 0 [] H p ns s
theorem F.pleachref27_Rises.in_eq K p ns s : F.pleachref27_Rises.at K p ns s = F.pleachref27_Rises.in K (F.pleachref27_Rises.at K) p ns s := atFn_eq (P := Try.prog) (sg := sg) (K := K) (f := 19) (m := 0) [] p ns s
theorem F.pleachref27_Rises.in_main K a0 : F.pleachref27_Rises (K + 1) a0 = F.pleachref27_Rises.in K (F.pleachref27_Rises.at K) [] [] ⟨slots [.sc (.list sFact a0 false)] 0, []⟩ := evFn_eq (P := Try.prog) (sg := sg) (K := K) (f := 19) (args := [.sc (.list sFact a0 false)]) (σ := []) [] (by kernel_rfl)
def F.pleachref27_Rises.l1010.st (a0 : List TFact) (x0 : Int) : St := ⟨[(0, vL sFact a0), (3, vI x0)], []⟩
noncomputable def F.pleachref27_Rises.l1010 (K n0 : Nat) (a0 : List TFact) (x0 : Int) := F.pleachref27_Rises.at K [1, 0, 1, 0] [n0] (F.pleachref27_Rises.l1010.st a0 x0)
noncomputable def F.pleachref27_Rises.l1010.B (c0 : (TFact) → (TFact) → Option (Bool)) (c1 : (List TFact) → (Int) → Option (Bool)) (a0 : List TFact) (x0 : Int) : Option (Bool) :=
    (bif (decide (x0 < (a0.length : Int))) then (guardK (decide (0 ≤ (w64 (x0 - 1))) && decide ((w64 (x0 - 1)) < (a0.length : Int))) (guardK (decide (0 ≤ x0) && decide (x0 < (a0.length : Int))) ((c0 ((rd sFact a0 ((w64 (x0 - 1)).toNat)).1, ((rd sFact a0 ((w64 (x0 - 1)).toNat)).2).1, (((rd sFact a0 ((w64 (x0 - 1)).toNat)).2).2).1, (((rd sFact a0 ((w64 (x0 - 1)).toNat)).2).2).2) ((rd sFact a0 x0.toNat).1, ((rd sFact a0 x0.toNat).2).1, (((rd sFact a0 x0.toNat).2).2).1, (((rd sFact a0 x0.toNat).2).2).2)).bind fun t0 => (bif (!t0) then (some false) else (c1 a0 (w64 (x0 + 1))))))) else (some true))
theorem F.pleachref27_Rises.l1010.eq K n0 a0 x0 : F.pleachref27_Rises.l1010 K (n0 + 1) a0 x0 = F.pleachref27_Rises.l1010.B (F.pleachref27_Less K) (F.pleachref27_Rises.l1010 K n0) a0 x0 := (F.pleachref27_Rises.in_eq K [1, 0, 1, 0] [n0 + 1] (F.pleachref27_Rises.l1010.st a0 x0)).trans ((show ∀ H, F.pleachref27_Rises.in K H [1, 0, 1, 0] [n0 + 1] (F.pleachref27_Rises.l1010.st a0 x0) = F.pleachref27_Rises.l1010.B (F.pleachref27_Less K) (fun a0 x0 => H [1, 0, 1, 0] [n0] (F.pleachref27_Rises.l1010.st a0 x0)) a0 x0 from by intro H; kernel_rfl) (F.pleachref27_Rises.at K))
noncomputable def F.pleachref27_Rises.B (c0 : (List TFact) → (Int) → Option (Bool)) (a0 : List TFact) : Option (Bool) :=
    (c0 a0 1)
theorem F.pleachref27_Rises.eq K a0 : F.pleachref27_Rises (K + 1) a0 = F.pleachref27_Rises.B (F.pleachref27_Rises.l1010 K K) a0 := (F.pleachref27_Rises.in_main K a0).trans ((show ∀ H, F.pleachref27_Rises.in K H [] [] ⟨slots [.sc (.list sFact a0 false)] 0, []⟩ = F.pleachref27_Rises.B (fun a0 x0 => H [1, 0, 1, 0] [K] (F.pleachref27_Rises.l1010.st a0 x0)) a0 from by intro H; kernel_rfl) (F.pleachref27_Rises.at K))
noncomputable def V.pleachref27_Rises.l1010 (a0 : List TFact) (x0 : Int) := lim fun v => F.pleachref27_Rises.l1010 (v 0) (v 1) a0 x0
noncomputable def V.pleachref27_Rises (a0 : List TFact) := lim fun v => F.pleachref27_Rises (v 0) a0
theorem V.pleachref27_Rises.l1010.of a0 x0 {r} (h : F.pleachref27_Rises.l1010.B V.pleachref27_Less V.pleachref27_Rises.l1010 a0 x0 = some r) : V.pleachref27_Rises.l1010 a0 x0 = some r :=
  App.to (App.step 1 (fun v => F.pleachref27_Rises.l1010.eq (v 0) (v 1) a0 x0) (by unfold F.pleachref27_Rises.l1010.B; repeat' first | exact App.val | exact App.no | exact App.lim | apply App.cond | apply App.guard | apply App.meet | apply App.ite | refine App.bind ?_ fun _ => ?_)) h
theorem V.pleachref27_Rises.of a0 {r} (h : F.pleachref27_Rises.B V.pleachref27_Rises.l1010 a0 = some r) : V.pleachref27_Rises a0 = some r :=
  App.to (App.step 0 (fun v => F.pleachref27_Rises.eq (v 0) a0) (by unfold F.pleachref27_Rises.B; repeat' first | exact App.val | exact App.no | exact App.lim | exact (App.enter 1 App.lim) | apply App.cond | apply App.guard | apply App.meet | apply App.ite | refine App.bind ?_ fun _ => ?_)) h
noncomputable def F.stringslite_IndexByte (K : Nat) (a0 : ByteArray) (a1 : Int) : Option (Int) := evFn Try.prog sg K 188 [.sc (.val (.string a0)), .sc (.val (.int .u8 a1))] []
noncomputable def F.stringslite_IndexByte.B (a0 : ByteArray) (a1 : Int) : Option (Int) :=
    (some (idxB a0 a1))
theorem F.stringslite_IndexByte.eq K a0 a1 : F.stringslite_IndexByte (K + 1) a0 a1 = F.stringslite_IndexByte.B a0 a1 := by kernel_rfl
noncomputable def V.stringslite_IndexByte (a0 : ByteArray) (a1 : Int) := lim fun v => F.stringslite_IndexByte (v 0) a0 a1
theorem V.stringslite_IndexByte.of a0 a1 {r} (h : F.stringslite_IndexByte.B a0 a1 = some r) : V.stringslite_IndexByte a0 a1 = some r :=
  App.to (App.step 0 (fun v => F.stringslite_IndexByte.eq (v 0) a0 a1) (by unfold F.stringslite_IndexByte.B; repeat' first | exact App.val | exact App.no | exact App.lim | apply App.cond | apply App.guard | apply App.meet | apply App.ite | refine App.bind ?_ fun _ => ?_)) h
noncomputable def F.stringslite_Index (K : Nat) (a0 : ByteArray) (a1 : ByteArray) : Option (Int) := evFn Try.prog sg K 154 [.sc (.val (.string a0)), .sc (.val (.string a1))] []
noncomputable def F.stringslite_Index.B (c0 : (ByteArray) → (Int) → Option (Int)) (a0 : ByteArray) (a1 : ByteArray) : Option (Int) :=
    (bif ((a1.size : Int) == 0) then (some 0) else (bif (strEq a1 a0) then (some 0) else (bif ((a1.size : Int) == 1) then (guardK (decide (0 < (a1.size : Int))) ((c0 a0 (byteAt a1 0)).bind fun t0 => (some t0))) else (bif (decide ((a1.size : Int) ≥ (a0.size : Int))) then (some (-1)) else none))))
theorem F.stringslite_Index.eq K a0 a1 : F.stringslite_Index (K + 1) a0 a1 = F.stringslite_Index.B (F.stringslite_IndexByte K) a0 a1 := by kernel_rfl
noncomputable def V.stringslite_Index (a0 : ByteArray) (a1 : ByteArray) := lim fun v => F.stringslite_Index (v 0) a0 a1
theorem V.stringslite_Index.of a0 a1 {r} (h : F.stringslite_Index.B V.stringslite_IndexByte a0 a1 = some r) : V.stringslite_Index a0 a1 = some r :=
  App.to (App.step 0 (fun v => F.stringslite_Index.eq (v 0) a0 a1) (by unfold F.stringslite_Index.B; repeat' first | exact App.val | exact App.no | exact App.lim | apply App.cond | apply App.guard | apply App.meet | apply App.ite | refine App.bind ?_ fun _ => ?_)) h
noncomputable def F.stringslite_Cut (K : Nat) (a0 : ByteArray) (a1 : ByteArray) : Option (ByteArray × ByteArray × Bool) := evFn Try.prog sg K 118 [.sc (.val (.string a0)), .sc (.val (.string a1))] []
noncomputable def F.stringslite_Cut.B (c0 : (ByteArray) → (ByteArray) → Option (Int)) (a0 : ByteArray) (a1 : ByteArray) : Option (ByteArray × ByteArray × Bool) :=
    ((c0 a0 a1).bind fun t0 => (bif (decide (t0 ≥ 0)) then (guardK (decide (0 ≤ t0) && decide (t0 ≤ (a0.size : Int))) (guardK (decide (0 ≤ (w64 (t0 + (a1.size : Int)))) && decide ((w64 (t0 + (a1.size : Int))) ≤ (a0.size : Int)) && decide ((a0.size : Int) ≤ (a0.size : Int))) (some ((a0.extract 0 t0.toNat), (a0.extract (w64 (t0 + (a1.size : Int))).toNat (a0.size : Int).toNat), true)))) else (some (a0, (⟨#[]⟩ : ByteArray), false))))
theorem F.stringslite_Cut.eq K a0 a1 : F.stringslite_Cut (K + 1) a0 a1 = F.stringslite_Cut.B (F.stringslite_Index K) a0 a1 := by kernel_rfl
noncomputable def V.stringslite_Cut (a0 : ByteArray) (a1 : ByteArray) := lim fun v => F.stringslite_Cut (v 0) a0 a1
theorem V.stringslite_Cut.of a0 a1 {r} (h : F.stringslite_Cut.B V.stringslite_Index a0 a1 = some r) : V.stringslite_Cut a0 a1 = some r :=
  App.to (App.step 0 (fun v => F.stringslite_Cut.eq (v 0) a0 a1) (by unfold F.stringslite_Cut.B; repeat' first | exact App.val | exact App.no | exact App.lim | apply App.cond | apply App.guard | apply App.meet | apply App.ite | refine App.bind ?_ fun _ => ?_)) h
noncomputable def F.strings_Cut (K : Nat) (a0 : ByteArray) (a1 : ByteArray) : Option (ByteArray × ByteArray × Bool) := evFn Try.prog sg K 67 [.sc (.val (.string a0)), .sc (.val (.string a1))] []
noncomputable def F.strings_Cut.B (c0 : (ByteArray) → (ByteArray) → Option (ByteArray × ByteArray × Bool)) (a0 : ByteArray) (a1 : ByteArray) : Option (ByteArray × ByteArray × Bool) :=
    ((c0 a0 a1).bind fun t0 => (some (t0.1, t0.2.1, t0.2.2)))
theorem F.strings_Cut.eq K a0 a1 : F.strings_Cut (K + 1) a0 a1 = F.strings_Cut.B (F.stringslite_Cut K) a0 a1 := by kernel_rfl
noncomputable def V.strings_Cut (a0 : ByteArray) (a1 : ByteArray) := lim fun v => F.strings_Cut (v 0) a0 a1
theorem V.strings_Cut.of a0 a1 {r} (h : F.strings_Cut.B V.stringslite_Cut a0 a1 = some r) : V.strings_Cut a0 a1 = some r :=
  App.to (App.step 0 (fun v => F.strings_Cut.eq (v 0) a0 a1) (by unfold F.strings_Cut.B; repeat' first | exact App.val | exact App.no | exact App.lim | apply App.cond | apply App.guard | apply App.meet | apply App.ite | refine App.bind ?_ fun _ => ?_)) h
noncomputable def F.facts_Parted (K : Nat) (a0 : ByteArray) : Option (ByteArray × ByteArray) := evFn Try.prog sg K 28 [.sc (.val (.string a0))] []
noncomputable def F.facts_Parted.B (c0 : (ByteArray) → (ByteArray) → Option (ByteArray × ByteArray × Bool)) (a0 : ByteArray) : Option (ByteArray × ByteArray) :=
    ((c0 a0 (⟨#[0]⟩ : ByteArray)).bind fun t0 => (some (t0.1, t0.2.1)))
theorem F.facts_Parted.eq K a0 : F.facts_Parted (K + 1) a0 = F.facts_Parted.B (F.strings_Cut K) a0 := by kernel_rfl
noncomputable def V.facts_Parted (a0 : ByteArray) := lim fun v => F.facts_Parted (v 0) a0
theorem V.facts_Parted.of a0 {r} (h : F.facts_Parted.B V.strings_Cut a0 = some r) : V.facts_Parted a0 = some r :=
  App.to (App.step 0 (fun v => F.facts_Parted.eq (v 0) a0) (by unfold F.facts_Parted.B; repeat' first | exact App.val | exact App.no | exact App.lim | apply App.cond | apply App.guard | apply App.meet | apply App.ite | refine App.bind ?_ fun _ => ?_)) h
noncomputable def F.pleachref27_Parted (K : Nat) (a0 : ByteArray) : Option (ByteArray × ByteArray) := evFn Try.prog sg K 29 [.sc (.val (.string a0))] []
noncomputable def F.pleachref27_Parted.at (K : Nat) (p ns : List Nat) (s : St) : Option (ByteArray × ByteArray) := atFn Try.prog sg K 29 0 p ns s
noncomputable def F.pleachref27_Parted.in (K : Nat) (H : List Nat → List Nat → St → Option (ByteArray × ByteArray)) (p ns : List Nat) (s : St) : Option (ByteArray × ByteArray) := inFn Try.prog sg K 29 0 [] H p ns s
theorem F.pleachref27_Parted.in_eq K p ns s : F.pleachref27_Parted.at K p ns s = F.pleachref27_Parted.in K (F.pleachref27_Parted.at K) p ns s := atFn_eq (P := Try.prog) (sg := sg) (K := K) (f := 29) (m := 0) [] p ns s
theorem F.pleachref27_Parted.in_main K a0 : F.pleachref27_Parted (K + 1) a0 = F.pleachref27_Parted.in K (F.pleachref27_Parted.at K) [] [] ⟨slots [.sc (.val (.string a0))] 0, []⟩ := evFn_eq (P := Try.prog) (sg := sg) (K := K) (f := 29) (args := [.sc (.val (.string a0))]) (σ := []) [] (by kernel_rfl)
def F.pleachref27_Parted.l1010.st (a0 : ByteArray) (x0 : Int) : St := ⟨[(0, vS a0), (4, vI x0)], []⟩
noncomputable def F.pleachref27_Parted.l1010 (K n0 : Nat) (a0 : ByteArray) (x0 : Int) := F.pleachref27_Parted.at K [1, 0, 1, 0] [n0] (F.pleachref27_Parted.l1010.st a0 x0)
noncomputable def F.pleachref27_Parted.l1010.B (c0 : (ByteArray) → (Int) → Option (ByteArray × ByteArray)) (a0 : ByteArray) (x0 : Int) : Option (ByteArray × ByteArray) :=
    (bif (decide (x0 < (a0.size : Int))) then (guardK (decide (0 ≤ x0) && decide (x0 < (a0.size : Int))) (bif ((byteAt a0 x0) == 0) then (guardK (decide (0 ≤ x0) && decide (x0 ≤ (a0.size : Int))) (guardK (decide (0 ≤ (w64 (x0 + 1))) && decide ((w64 (x0 + 1)) ≤ (a0.size : Int)) && decide ((a0.size : Int) ≤ (a0.size : Int))) (some ((a0.extract 0 x0.toNat), (a0.extract (w64 (x0 + 1)).toNat (a0.size : Int).toNat))))) else (c0 a0 (w64 (x0 + 1))))) else (some (a0, (⟨#[]⟩ : ByteArray))))
theorem F.pleachref27_Parted.l1010.eq K n0 a0 x0 : F.pleachref27_Parted.l1010 K (n0 + 1) a0 x0 = F.pleachref27_Parted.l1010.B (F.pleachref27_Parted.l1010 K n0) a0 x0 := (F.pleachref27_Parted.in_eq K [1, 0, 1, 0] [n0 + 1] (F.pleachref27_Parted.l1010.st a0 x0)).trans ((show ∀ H, F.pleachref27_Parted.in K H [1, 0, 1, 0] [n0 + 1] (F.pleachref27_Parted.l1010.st a0 x0) = F.pleachref27_Parted.l1010.B (fun a0 x0 => H [1, 0, 1, 0] [n0] (F.pleachref27_Parted.l1010.st a0 x0)) a0 x0 from by intro H; kernel_rfl) (F.pleachref27_Parted.at K))
noncomputable def F.pleachref27_Parted.B (c0 : (ByteArray) → (Int) → Option (ByteArray × ByteArray)) (a0 : ByteArray) : Option (ByteArray × ByteArray) :=
    (c0 a0 0)
theorem F.pleachref27_Parted.eq K a0 : F.pleachref27_Parted (K + 1) a0 = F.pleachref27_Parted.B (F.pleachref27_Parted.l1010 K K) a0 := (F.pleachref27_Parted.in_main K a0).trans ((show ∀ H, F.pleachref27_Parted.in K H [] [] ⟨slots [.sc (.val (.string a0))] 0, []⟩ = F.pleachref27_Parted.B (fun a0 x0 => H [1, 0, 1, 0] [K] (F.pleachref27_Parted.l1010.st a0 x0)) a0 from by intro H; kernel_rfl) (F.pleachref27_Parted.at K))
noncomputable def V.pleachref27_Parted.l1010 (a0 : ByteArray) (x0 : Int) := lim fun v => F.pleachref27_Parted.l1010 (v 0) (v 1) a0 x0
noncomputable def V.pleachref27_Parted (a0 : ByteArray) := lim fun v => F.pleachref27_Parted (v 0) a0
theorem V.pleachref27_Parted.l1010.of a0 x0 {r} (h : F.pleachref27_Parted.l1010.B V.pleachref27_Parted.l1010 a0 x0 = some r) : V.pleachref27_Parted.l1010 a0 x0 = some r :=
  App.to (App.step 1 (fun v => F.pleachref27_Parted.l1010.eq (v 0) (v 1) a0 x0) (by unfold F.pleachref27_Parted.l1010.B; repeat' first | exact App.val | exact App.no | exact App.lim | apply App.cond | apply App.guard | apply App.meet | apply App.ite | refine App.bind ?_ fun _ => ?_)) h
theorem V.pleachref27_Parted.of a0 {r} (h : F.pleachref27_Parted.B V.pleachref27_Parted.l1010 a0 = some r) : V.pleachref27_Parted a0 = some r :=
  App.to (App.step 0 (fun v => F.pleachref27_Parted.eq (v 0) a0) (by unfold F.pleachref27_Parted.B; repeat' first | exact App.val | exact App.no | exact App.lim | exact (App.enter 1 App.lim) | apply App.cond | apply App.guard | apply App.meet | apply App.ite | refine App.bind ?_ fun _ => ?_)) h
noncomputable def F.facts_Rise (K : Nat) (a0 : List TFact) : Option (Int) := evFn Try.prog sg K 17 [.sc (.list sFact a0 false)] []
noncomputable def F.facts_Rise.at (K : Nat) (p ns : List Nat) (s : St) : Option (Int) := atFn Try.prog sg K 17 0 p ns s
noncomputable def F.facts_Rise.in (K : Nat) (H : List Nat → List Nat → St → Option (Int)) (p ns : List Nat) (s : St) : Option (Int) := inFn Try.prog sg K 17 0 [] H p ns s
theorem F.facts_Rise.in_eq K p ns s : F.facts_Rise.at K p ns s = F.facts_Rise.in K (F.facts_Rise.at K) p ns s := atFn_eq (P := Try.prog) (sg := sg) (K := K) (f := 17) (m := 0) [] p ns s
theorem F.facts_Rise.in_main K a0 : F.facts_Rise (K + 1) a0 = F.facts_Rise.in K (F.facts_Rise.at K) [] [] ⟨slots [.sc (.list sFact a0 false)] 0, []⟩ := evFn_eq (P := Try.prog) (sg := sg) (K := K) (f := 17) (args := [.sc (.list sFact a0 false)]) (σ := []) [] (by kernel_rfl)
def F.facts_Rise.l1010.st (a0 : List TFact) (x0 : Int) : St := ⟨[(0, vL sFact a0), (3, vI x0)], []⟩
noncomputable def F.facts_Rise.l1010 (K n0 : Nat) (a0 : List TFact) (x0 : Int) := F.facts_Rise.at K [1, 0, 1, 0] [n0] (F.facts_Rise.l1010.st a0 x0)
noncomputable def F.facts_Rise.l1010.B (c0 : (TFact) → (TFact) → Option (Int)) (c1 : (List TFact) → (Int) → Option (Int)) (a0 : List TFact) (x0 : Int) : Option (Int) :=
    (bif (decide (x0 < (a0.length : Int))) then (guardK (decide (0 ≤ (w64 (x0 - 1))) && decide ((w64 (x0 - 1)) < (a0.length : Int))) (guardK (decide (0 ≤ x0) && decide (x0 < (a0.length : Int))) ((c0 ((rd sFact a0 ((w64 (x0 - 1)).toNat)).1, ((rd sFact a0 ((w64 (x0 - 1)).toNat)).2).1, (((rd sFact a0 ((w64 (x0 - 1)).toNat)).2).2).1, (((rd sFact a0 ((w64 (x0 - 1)).toNat)).2).2).2) ((rd sFact a0 x0.toNat).1, ((rd sFact a0 x0.toNat).2).1, (((rd sFact a0 x0.toNat).2).2).1, (((rd sFact a0 x0.toNat).2).2).2)).bind fun t0 => (bif (decide (t0 ≥ 0)) then (some 4) else (c1 a0 (w64 (x0 + 1))))))) else (some 0))
theorem F.facts_Rise.l1010.eq K n0 a0 x0 : F.facts_Rise.l1010 K (n0 + 1) a0 x0 = F.facts_Rise.l1010.B (F.facts_Compare K) (F.facts_Rise.l1010 K n0) a0 x0 := (F.facts_Rise.in_eq K [1, 0, 1, 0] [n0 + 1] (F.facts_Rise.l1010.st a0 x0)).trans ((show ∀ H, F.facts_Rise.in K H [1, 0, 1, 0] [n0 + 1] (F.facts_Rise.l1010.st a0 x0) = F.facts_Rise.l1010.B (F.facts_Compare K) (fun a0 x0 => H [1, 0, 1, 0] [n0] (F.facts_Rise.l1010.st a0 x0)) a0 x0 from by intro H; kernel_rfl) (F.facts_Rise.at K))
noncomputable def F.facts_Rise.B (c0 : (List TFact) → (Int) → Option (Int)) (a0 : List TFact) : Option (Int) :=
    (c0 a0 1)
theorem F.facts_Rise.eq K a0 : F.facts_Rise (K + 1) a0 = F.facts_Rise.B (F.facts_Rise.l1010 K K) a0 := (F.facts_Rise.in_main K a0).trans ((show ∀ H, F.facts_Rise.in K H [] [] ⟨slots [.sc (.list sFact a0 false)] 0, []⟩ = F.facts_Rise.B (fun a0 x0 => H [1, 0, 1, 0] [K] (F.facts_Rise.l1010.st a0 x0)) a0 from by intro H; kernel_rfl) (F.facts_Rise.at K))
noncomputable def V.facts_Rise.l1010 (a0 : List TFact) (x0 : Int) := lim fun v => F.facts_Rise.l1010 (v 0) (v 1) a0 x0
noncomputable def V.facts_Rise (a0 : List TFact) := lim fun v => F.facts_Rise (v 0) a0
theorem V.facts_Rise.l1010.of a0 x0 {r} (h : F.facts_Rise.l1010.B V.facts_Compare V.facts_Rise.l1010 a0 x0 = some r) : V.facts_Rise.l1010 a0 x0 = some r :=
  App.to (App.step 1 (fun v => F.facts_Rise.l1010.eq (v 0) (v 1) a0 x0) (by unfold F.facts_Rise.l1010.B; repeat' first | exact App.val | exact App.no | exact App.lim | apply App.cond | apply App.guard | apply App.meet | apply App.ite | refine App.bind ?_ fun _ => ?_)) h
theorem V.facts_Rise.of a0 {r} (h : F.facts_Rise.B V.facts_Rise.l1010 a0 = some r) : V.facts_Rise a0 = some r :=
  App.to (App.step 0 (fun v => F.facts_Rise.eq (v 0) a0) (by unfold F.facts_Rise.B; repeat' first | exact App.val | exact App.no | exact App.lim | exact (App.enter 1 App.lim) | apply App.cond | apply App.guard | apply App.meet | apply App.ite | refine App.bind ?_ fun _ => ?_)) h
noncomputable def F.pleachlaw27_FactsOrder (K : Nat) (a0 : List TFact) (a1 : ByteArray) (a2 : ByteArray) : Option (Bool) := evFn Try.prog sg K 5 [.sc (.list sFact a0 false), .sc (.val (.string a1)), .sc (.val (.string a2))] []
noncomputable def F.pleachlaw27_FactsOrder.at (K : Nat) (p ns : List Nat) (s : St) : Option (Bool) := atFn Try.prog sg K 5 0 p ns s
noncomputable def F.pleachlaw27_FactsOrder.in (K : Nat) (H : List Nat → List Nat → St → Option (Bool)) (p ns : List Nat) (s : St) : Option (Bool) := inFn Try.prog sg K 5 0 [[1, 0, 1], [1, 1, 0, 1, 0, 0, 1, 0, 0, 1, 1], [1, 1, 0, 1, 0, 0, 1, 0, 0, 1, 1, 0, 1], [1, 1, 0, 1, 0, 0, 1, 0, 0, 1, 1, 1], [1, 1, 0, 1, 0, 0, 1, 0, 0, 1, 1, 1, 1], [1, 1, 0, 1, 0, 0, 1, 1]] H p ns s
theorem F.pleachlaw27_FactsOrder.in_eq K p ns s : F.pleachlaw27_FactsOrder.at K p ns s = F.pleachlaw27_FactsOrder.in K (F.pleachlaw27_FactsOrder.at K) p ns s := atFn_eq (P := Try.prog) (sg := sg) (K := K) (f := 5) (m := 0) [[1, 0, 1], [1, 1, 0, 1, 0, 0, 1, 0, 0, 1, 1], [1, 1, 0, 1, 0, 0, 1, 0, 0, 1, 1, 0, 1], [1, 1, 0, 1, 0, 0, 1, 0, 0, 1, 1, 1], [1, 1, 0, 1, 0, 0, 1, 0, 0, 1, 1, 1, 1], [1, 1, 0, 1, 0, 0, 1, 1]] p ns s
theorem F.pleachlaw27_FactsOrder.in_main K a0 a1 a2 : F.pleachlaw27_FactsOrder (K + 1) a0 a1 a2 = F.pleachlaw27_FactsOrder.in K (F.pleachlaw27_FactsOrder.at K) [] [] ⟨slots [.sc (.list sFact a0 false), .sc (.val (.string a1)), .sc (.val (.string a2))] 0, []⟩ := evFn_eq (P := Try.prog) (sg := sg) (K := K) (f := 5) (args := [.sc (.list sFact a0 false), .sc (.val (.string a1)), .sc (.val (.string a2))]) (σ := []) [[1, 0, 1], [1, 1, 0, 1, 0, 0, 1, 0, 0, 1, 1], [1, 1, 0, 1, 0, 0, 1, 0, 0, 1, 1, 0, 1], [1, 1, 0, 1, 0, 0, 1, 0, 0, 1, 1, 1], [1, 1, 0, 1, 0, 0, 1, 0, 0, 1, 1, 1, 1], [1, 1, 0, 1, 0, 0, 1, 1]] (by kernel_rfl)
def F.pleachlaw27_FactsOrder.j101.st (a0 : List TFact) (a1 : ByteArray) (a2 : ByteArray) (x0 : Bool) : St := ⟨[(0, vL sFact a0), (1, vS a1), (2, vS a2), (30, vB x0)], []⟩
noncomputable def F.pleachlaw27_FactsOrder.j101 (K : Nat) (a0 : List TFact) (a1 : ByteArray) (a2 : ByteArray) (x0 : Bool) := F.pleachlaw27_FactsOrder.at K [1, 0, 1] [] (F.pleachlaw27_FactsOrder.j101.st a0 a1 a2 x0)
def F.pleachlaw27_FactsOrder.l11010.st (a0 : List TFact) (a1 : ByteArray) (a2 : ByteArray) (x0 : Int) : St := ⟨[(0, vL sFact a0), (1, vS a1), (2, vS a2), (7, vI x0)], []⟩
noncomputable def F.pleachlaw27_FactsOrder.l11010 (K n0 : Nat) (a0 : List TFact) (a1 : ByteArray) (a2 : ByteArray) (x0 : Int) := F.pleachlaw27_FactsOrder.at K [1, 1, 0, 1, 0] [n0] (F.pleachlaw27_FactsOrder.l11010.st a0 a1 a2 x0)
def F.pleachlaw27_FactsOrder.j11010010011.st (a0 : List TFact) (a1 : ByteArray) (a2 : ByteArray) (x0 : Int) (x1 : Int) : St := ⟨[(0, vL sFact a0), (1, vS a1), (2, vS a2), (7, vI x0), (8, vI x1)], []⟩
noncomputable def F.pleachlaw27_FactsOrder.j11010010011 (K n0 : Nat) (a0 : List TFact) (a1 : ByteArray) (a2 : ByteArray) (x0 : Int) (x1 : Int) := F.pleachlaw27_FactsOrder.at K [1, 1, 0, 1, 0, 0, 1, 0, 0, 1, 1] [n0] (F.pleachlaw27_FactsOrder.j11010010011.st a0 a1 a2 x0 x1)
def F.pleachlaw27_FactsOrder.j1101001001101.st (a0 : List TFact) (a1 : ByteArray) (a2 : ByteArray) (x0 : Int) (x1 : Int) (x2 : Bool) : St := ⟨[(0, vL sFact a0), (1, vS a1), (2, vS a2), (7, vI x0), (8, vI x1), (57, vB x2)], []⟩
noncomputable def F.pleachlaw27_FactsOrder.j1101001001101 (K n0 : Nat) (a0 : List TFact) (a1 : ByteArray) (a2 : ByteArray) (x0 : Int) (x1 : Int) (x2 : Bool) := F.pleachlaw27_FactsOrder.at K [1, 1, 0, 1, 0, 0, 1, 0, 0, 1, 1, 0, 1] [n0] (F.pleachlaw27_FactsOrder.j1101001001101.st a0 a1 a2 x0 x1 x2)
def F.pleachlaw27_FactsOrder.j110100100111.st (a0 : List TFact) (a1 : ByteArray) (a2 : ByteArray) (x0 : Int) (x1 : Int) : St := ⟨[(0, vL sFact a0), (1, vS a1), (2, vS a2), (7, vI x0), (8, vI x1)], []⟩
noncomputable def F.pleachlaw27_FactsOrder.j110100100111 (K n0 : Nat) (a0 : List TFact) (a1 : ByteArray) (a2 : ByteArray) (x0 : Int) (x1 : Int) := F.pleachlaw27_FactsOrder.at K [1, 1, 0, 1, 0, 0, 1, 0, 0, 1, 1, 1] [n0] (F.pleachlaw27_FactsOrder.j110100100111.st a0 a1 a2 x0 x1)
def F.pleachlaw27_FactsOrder.j1101001001111.st (a0 : List TFact) (a1 : ByteArray) (a2 : ByteArray) (x0 : Int) (x1 : Bool) : St := ⟨[(0, vL sFact a0), (1, vS a1), (2, vS a2), (7, vI x0), (69, vB x1)], []⟩
noncomputable def F.pleachlaw27_FactsOrder.j1101001001111 (K n0 : Nat) (a0 : List TFact) (a1 : ByteArray) (a2 : ByteArray) (x0 : Int) (x1 : Bool) := F.pleachlaw27_FactsOrder.at K [1, 1, 0, 1, 0, 0, 1, 0, 0, 1, 1, 1, 1] [n0] (F.pleachlaw27_FactsOrder.j1101001001111.st a0 a1 a2 x0 x1)
def F.pleachlaw27_FactsOrder.j11010011.st (a0 : List TFact) (a1 : ByteArray) (a2 : ByteArray) (x0 : Int) : St := ⟨[(0, vL sFact a0), (1, vS a1), (2, vS a2), (7, vI x0)], []⟩
noncomputable def F.pleachlaw27_FactsOrder.j11010011 (K n0 : Nat) (a0 : List TFact) (a1 : ByteArray) (a2 : ByteArray) (x0 : Int) := F.pleachlaw27_FactsOrder.at K [1, 1, 0, 1, 0, 0, 1, 1] [n0] (F.pleachlaw27_FactsOrder.j11010011.st a0 a1 a2 x0)
noncomputable def F.pleachlaw27_FactsOrder.j101.B (c0 : Option (Bool)) (c1 : (List TFact) → (ByteArray) → (ByteArray) → (Int) → Option (Bool)) (a0 : List TFact) (a1 : ByteArray) (a2 : ByteArray) (x0 : Bool) : Option (Bool) :=
    (bif x0 then ((c0).bind fun t1 => (some t1)) else (c1 a0 a1 a2 1))
theorem F.pleachlaw27_FactsOrder.j101.eq K a0 a1 a2 x0 : F.pleachlaw27_FactsOrder.j101 K a0 a1 a2 x0 = F.pleachlaw27_FactsOrder.j101.B (F.pleachlaw27_awake K) (F.pleachlaw27_FactsOrder.l11010 K K) a0 a1 a2 x0 := (F.pleachlaw27_FactsOrder.in_eq K [1, 0, 1] [] (F.pleachlaw27_FactsOrder.j101.st a0 a1 a2 x0)).trans ((show ∀ H, F.pleachlaw27_FactsOrder.in K H [1, 0, 1] [] (F.pleachlaw27_FactsOrder.j101.st a0 a1 a2 x0) = F.pleachlaw27_FactsOrder.j101.B (F.pleachlaw27_awake K) (fun a0 a1 a2 x0 => H [1, 1, 0, 1, 0] [K] (F.pleachlaw27_FactsOrder.l11010.st a0 a1 a2 x0)) a0 a1 a2 x0 from by intro H; kernel_rfl) (F.pleachlaw27_FactsOrder.at K))
noncomputable def F.pleachlaw27_FactsOrder.l11010.B (c0 : (TFact) → (TFact) → Option (Bool)) (c1 : (List TFact) → (ByteArray) → (ByteArray) → (Int) → (Int) → Option (Bool)) (c2 : (ByteArray) → (ByteArray) → Option (ByteArray)) (c3 : (ByteArray) → Option (ByteArray × ByteArray)) (c4 : (ByteArray) → Option (ByteArray × ByteArray)) (c5 : (List TFact) → Option (Int)) (c6 : (List TFact) → Option (Bool)) (c7 : Option (Bool)) (a0 : List TFact) (a1 : ByteArray) (a2 : ByteArray) (x0 : Int) : Option (Bool) :=
    (bif (decide (x0 < (a0.length : Int))) then (guardK (decide (0 ≤ (w64 (x0 - 1))) && decide ((w64 (x0 - 1)) < (a0.length : Int))) (guardK (decide (0 ≤ x0) && decide (x0 < (a0.length : Int))) ((c0 ((rd sFact a0 ((w64 (x0 - 1)).toNat)).1, ((rd sFact a0 ((w64 (x0 - 1)).toNat)).2).1, (((rd sFact a0 ((w64 (x0 - 1)).toNat)).2).2).1, (((rd sFact a0 ((w64 (x0 - 1)).toNat)).2).2).2) ((rd sFact a0 x0.toNat).1, ((rd sFact a0 x0.toNat).2).1, (((rd sFact a0 x0.toNat).2).2).1, (((rd sFact a0 x0.toNat).2).2).2)).bind fun t2 => (bif t2 then (c1 a0 a1 a2 x0 (-1)) else (c1 a0 a1 a2 x0 0))))) else ((c2 a1 a2).bind fun t3 => ((c3 t3).bind fun t4 => ((c4 t3).bind fun t5 => ((c3 a1).bind fun t6 => ((c4 a1).bind fun t7 => ((c5 a0).bind fun t8 => ((c6 a0).bind fun t9 => (bif ((t8 == 0) == t9) then (guardK (decide (a1.size + (⟨#[0]⟩ : ByteArray).size ≤ i64max)) (guardK (decide ((a1 ++ (⟨#[0]⟩ : ByteArray)).size + a2.size ≤ i64max)) (bif (strEq t3 ((a1 ++ (⟨#[0]⟩ : ByteArray)) ++ a2)) then (bif (strEq t4.1 t5.1) then (bif (strEq t4.2 t5.2) then (bif (strEq t6.1 t7.1) then (bif (strEq t6.2 t7.2) then ((c7).bind fun t10 => (some t10)) else (some false)) else (some false)) else (some false)) else (some false)) else (some false)))) else (some false))))))))))
theorem F.pleachlaw27_FactsOrder.l11010.eq K n0 a0 a1 a2 x0 : F.pleachlaw27_FactsOrder.l11010 K (n0 + 1) a0 a1 a2 x0 = F.pleachlaw27_FactsOrder.l11010.B (F.pleachref27_Less K) (F.pleachlaw27_FactsOrder.j11010010011 K n0) (F.facts_Ends K) (F.facts_Parted K) (F.pleachref27_Parted K) (F.facts_Rise K) (F.pleachref27_Rises K) (F.pleachlaw27_awake K) a0 a1 a2 x0 := (F.pleachlaw27_FactsOrder.in_eq K [1, 1, 0, 1, 0] [n0 + 1] (F.pleachlaw27_FactsOrder.l11010.st a0 a1 a2 x0)).trans ((show ∀ H, F.pleachlaw27_FactsOrder.in K H [1, 1, 0, 1, 0] [n0 + 1] (F.pleachlaw27_FactsOrder.l11010.st a0 a1 a2 x0) = F.pleachlaw27_FactsOrder.l11010.B (F.pleachref27_Less K) (fun a0 a1 a2 x0 x1 => H [1, 1, 0, 1, 0, 0, 1, 0, 0, 1, 1] [n0] (F.pleachlaw27_FactsOrder.j11010010011.st a0 a1 a2 x0 x1)) (F.facts_Ends K) (F.facts_Parted K) (F.pleachref27_Parted K) (F.facts_Rise K) (F.pleachref27_Rises K) (F.pleachlaw27_awake K) a0 a1 a2 x0 from by intro H; kernel_rfl) (F.pleachlaw27_FactsOrder.at K))
noncomputable def F.pleachlaw27_FactsOrder.j11010010011.B (c0 : (TFact) → (TFact) → Option (Bool)) (c1 : (List TFact) → (ByteArray) → (ByteArray) → (Int) → (Int) → (Bool) → Option (Bool)) (a0 : List TFact) (a1 : ByteArray) (a2 : ByteArray) (x0 : Int) (x1 : Int) : Option (Bool) :=
    (guardK (decide (0 ≤ x0) && decide (x0 < (a0.length : Int))) (guardK (decide (0 ≤ (w64 (x0 - 1))) && decide ((w64 (x0 - 1)) < (a0.length : Int))) ((c0 ((rd sFact a0 x0.toNat).1, ((rd sFact a0 x0.toNat).2).1, (((rd sFact a0 x0.toNat).2).2).1, (((rd sFact a0 x0.toNat).2).2).2) ((rd sFact a0 ((w64 (x0 - 1)).toNat)).1, ((rd sFact a0 ((w64 (x0 - 1)).toNat)).2).1, (((rd sFact a0 ((w64 (x0 - 1)).toNat)).2).2).1, (((rd sFact a0 ((w64 (x0 - 1)).toNat)).2).2).2)).bind fun t11 => (c1 a0 a1 a2 x0 x1 t11))))
theorem F.pleachlaw27_FactsOrder.j11010010011.eq K n0 a0 a1 a2 x0 x1 : F.pleachlaw27_FactsOrder.j11010010011 K n0 a0 a1 a2 x0 x1 = F.pleachlaw27_FactsOrder.j11010010011.B (F.pleachref27_Less K) (F.pleachlaw27_FactsOrder.j1101001001101 K n0) a0 a1 a2 x0 x1 := (F.pleachlaw27_FactsOrder.in_eq K [1, 1, 0, 1, 0, 0, 1, 0, 0, 1, 1] [n0] (F.pleachlaw27_FactsOrder.j11010010011.st a0 a1 a2 x0 x1)).trans ((show ∀ H, F.pleachlaw27_FactsOrder.in K H [1, 1, 0, 1, 0, 0, 1, 0, 0, 1, 1] [n0] (F.pleachlaw27_FactsOrder.j11010010011.st a0 a1 a2 x0 x1) = F.pleachlaw27_FactsOrder.j11010010011.B (F.pleachref27_Less K) (fun a0 a1 a2 x0 x1 x2 => H [1, 1, 0, 1, 0, 0, 1, 0, 0, 1, 1, 0, 1] [n0] (F.pleachlaw27_FactsOrder.j1101001001101.st a0 a1 a2 x0 x1 x2)) a0 a1 a2 x0 x1 from by intro H; kernel_rfl) (F.pleachlaw27_FactsOrder.at K))
noncomputable def F.pleachlaw27_FactsOrder.j1101001001101.B (c0 : (List TFact) → (ByteArray) → (ByteArray) → (Int) → (Int) → Option (Bool)) (a0 : List TFact) (a1 : ByteArray) (a2 : ByteArray) (x0 : Int) (x1 : Int) (x2 : Bool) : Option (Bool) :=
    (bif x2 then (c0 a0 a1 a2 x0 1) else (c0 a0 a1 a2 x0 x1))
theorem F.pleachlaw27_FactsOrder.j1101001001101.eq K n0 a0 a1 a2 x0 x1 x2 : F.pleachlaw27_FactsOrder.j1101001001101 K n0 a0 a1 a2 x0 x1 x2 = F.pleachlaw27_FactsOrder.j1101001001101.B (F.pleachlaw27_FactsOrder.j110100100111 K n0) a0 a1 a2 x0 x1 x2 := (F.pleachlaw27_FactsOrder.in_eq K [1, 1, 0, 1, 0, 0, 1, 0, 0, 1, 1, 0, 1] [n0] (F.pleachlaw27_FactsOrder.j1101001001101.st a0 a1 a2 x0 x1 x2)).trans ((show ∀ H, F.pleachlaw27_FactsOrder.in K H [1, 1, 0, 1, 0, 0, 1, 0, 0, 1, 1, 0, 1] [n0] (F.pleachlaw27_FactsOrder.j1101001001101.st a0 a1 a2 x0 x1 x2) = F.pleachlaw27_FactsOrder.j1101001001101.B (fun a0 a1 a2 x0 x1 => H [1, 1, 0, 1, 0, 0, 1, 0, 0, 1, 1, 1] [n0] (F.pleachlaw27_FactsOrder.j110100100111.st a0 a1 a2 x0 x1)) a0 a1 a2 x0 x1 x2 from by intro H; kernel_rfl) (F.pleachlaw27_FactsOrder.at K))
noncomputable def F.pleachlaw27_FactsOrder.j110100100111.B (c0 : (TFact) → (TFact) → Option (Int)) (c1 : (List TFact) → (ByteArray) → (ByteArray) → (Int) → (Bool) → Option (Bool)) (a0 : List TFact) (a1 : ByteArray) (a2 : ByteArray) (x0 : Int) (x1 : Int) : Option (Bool) :=
    (guardK (decide (0 ≤ (w64 (x0 - 1))) && decide ((w64 (x0 - 1)) < (a0.length : Int))) (guardK (decide (0 ≤ x0) && decide (x0 < (a0.length : Int))) ((c0 ((rd sFact a0 ((w64 (x0 - 1)).toNat)).1, ((rd sFact a0 ((w64 (x0 - 1)).toNat)).2).1, (((rd sFact a0 ((w64 (x0 - 1)).toNat)).2).2).1, (((rd sFact a0 ((w64 (x0 - 1)).toNat)).2).2).2) ((rd sFact a0 x0.toNat).1, ((rd sFact a0 x0.toNat).2).1, (((rd sFact a0 x0.toNat).2).2).1, (((rd sFact a0 x0.toNat).2).2).2)).bind fun t12 => (c1 a0 a1 a2 x0 (t12 != x1)))))
theorem F.pleachlaw27_FactsOrder.j110100100111.eq K n0 a0 a1 a2 x0 x1 : F.pleachlaw27_FactsOrder.j110100100111 K n0 a0 a1 a2 x0 x1 = F.pleachlaw27_FactsOrder.j110100100111.B (F.facts_Compare K) (F.pleachlaw27_FactsOrder.j1101001001111 K n0) a0 a1 a2 x0 x1 := (F.pleachlaw27_FactsOrder.in_eq K [1, 1, 0, 1, 0, 0, 1, 0, 0, 1, 1, 1] [n0] (F.pleachlaw27_FactsOrder.j110100100111.st a0 a1 a2 x0 x1)).trans ((show ∀ H, F.pleachlaw27_FactsOrder.in K H [1, 1, 0, 1, 0, 0, 1, 0, 0, 1, 1, 1] [n0] (F.pleachlaw27_FactsOrder.j110100100111.st a0 a1 a2 x0 x1) = F.pleachlaw27_FactsOrder.j110100100111.B (F.facts_Compare K) (fun a0 a1 a2 x0 x1 => H [1, 1, 0, 1, 0, 0, 1, 0, 0, 1, 1, 1, 1] [n0] (F.pleachlaw27_FactsOrder.j1101001001111.st a0 a1 a2 x0 x1)) a0 a1 a2 x0 x1 from by intro H; kernel_rfl) (F.pleachlaw27_FactsOrder.at K))
noncomputable def F.pleachlaw27_FactsOrder.j1101001001111.B (c0 : (List TFact) → (ByteArray) → (ByteArray) → (Int) → Option (Bool)) (a0 : List TFact) (a1 : ByteArray) (a2 : ByteArray) (x0 : Int) (x1 : Bool) : Option (Bool) :=
    (bif x1 then (some false) else (c0 a0 a1 a2 x0))
theorem F.pleachlaw27_FactsOrder.j1101001001111.eq K n0 a0 a1 a2 x0 x1 : F.pleachlaw27_FactsOrder.j1101001001111 K n0 a0 a1 a2 x0 x1 = F.pleachlaw27_FactsOrder.j1101001001111.B (F.pleachlaw27_FactsOrder.j11010011 K n0) a0 a1 a2 x0 x1 := (F.pleachlaw27_FactsOrder.in_eq K [1, 1, 0, 1, 0, 0, 1, 0, 0, 1, 1, 1, 1] [n0] (F.pleachlaw27_FactsOrder.j1101001001111.st a0 a1 a2 x0 x1)).trans ((show ∀ H, F.pleachlaw27_FactsOrder.in K H [1, 1, 0, 1, 0, 0, 1, 0, 0, 1, 1, 1, 1] [n0] (F.pleachlaw27_FactsOrder.j1101001001111.st a0 a1 a2 x0 x1) = F.pleachlaw27_FactsOrder.j1101001001111.B (fun a0 a1 a2 x0 => H [1, 1, 0, 1, 0, 0, 1, 1] [n0] (F.pleachlaw27_FactsOrder.j11010011.st a0 a1 a2 x0)) a0 a1 a2 x0 x1 from by intro H; kernel_rfl) (F.pleachlaw27_FactsOrder.at K))
noncomputable def F.pleachlaw27_FactsOrder.j11010011.B (c0 : (List TFact) → (ByteArray) → (ByteArray) → (Int) → Option (Bool)) (a0 : List TFact) (a1 : ByteArray) (a2 : ByteArray) (x0 : Int) : Option (Bool) :=
    (c0 a0 a1 a2 (w64 (x0 + 1)))
theorem F.pleachlaw27_FactsOrder.j11010011.eq K n0 a0 a1 a2 x0 : F.pleachlaw27_FactsOrder.j11010011 K n0 a0 a1 a2 x0 = F.pleachlaw27_FactsOrder.j11010011.B (F.pleachlaw27_FactsOrder.l11010 K n0) a0 a1 a2 x0 := (F.pleachlaw27_FactsOrder.in_eq K [1, 1, 0, 1, 0, 0, 1, 1] [n0] (F.pleachlaw27_FactsOrder.j11010011.st a0 a1 a2 x0)).trans ((show ∀ H, F.pleachlaw27_FactsOrder.in K H [1, 1, 0, 1, 0, 0, 1, 1] [n0] (F.pleachlaw27_FactsOrder.j11010011.st a0 a1 a2 x0) = F.pleachlaw27_FactsOrder.j11010011.B (fun a0 a1 a2 x0 => H [1, 1, 0, 1, 0] [n0] (F.pleachlaw27_FactsOrder.l11010.st a0 a1 a2 x0)) a0 a1 a2 x0 from by intro H; kernel_rfl) (F.pleachlaw27_FactsOrder.at K))
noncomputable def F.pleachlaw27_FactsOrder.B (c0 : (List TFact) → Option (Bool)) (c1 : (List TFact) → (ByteArray) → (ByteArray) → (Bool) → Option (Bool)) (a0 : List TFact) (a1 : ByteArray) (a2 : ByteArray) : Option (Bool) :=
    ((c0 a0).bind fun t0 => (bif (!t0) then (c1 a0 a1 a2 true) else (bif (decide ((a1.size : Int) > 100)) then (c1 a0 a1 a2 true) else (c1 a0 a1 a2 (decide ((a2.size : Int) > 100))))))
theorem F.pleachlaw27_FactsOrder.eq K a0 a1 a2 : F.pleachlaw27_FactsOrder (K + 1) a0 a1 a2 = F.pleachlaw27_FactsOrder.B (F.pleachref27_Few K) (F.pleachlaw27_FactsOrder.j101 K) a0 a1 a2 := (F.pleachlaw27_FactsOrder.in_main K a0 a1 a2).trans ((show ∀ H, F.pleachlaw27_FactsOrder.in K H [] [] ⟨slots [.sc (.list sFact a0 false), .sc (.val (.string a1)), .sc (.val (.string a2))] 0, []⟩ = F.pleachlaw27_FactsOrder.B (F.pleachref27_Few K) (fun a0 a1 a2 x0 => H [1, 0, 1] [] (F.pleachlaw27_FactsOrder.j101.st a0 a1 a2 x0)) a0 a1 a2 from by intro H; kernel_rfl) (F.pleachlaw27_FactsOrder.at K))
noncomputable def V.pleachlaw27_FactsOrder.j101 (a0 : List TFact) (a1 : ByteArray) (a2 : ByteArray) (x0 : Bool) := lim fun v => F.pleachlaw27_FactsOrder.j101 (v 0) a0 a1 a2 x0
noncomputable def V.pleachlaw27_FactsOrder.l11010 (a0 : List TFact) (a1 : ByteArray) (a2 : ByteArray) (x0 : Int) := lim fun v => F.pleachlaw27_FactsOrder.l11010 (v 0) (v 1) a0 a1 a2 x0
noncomputable def V.pleachlaw27_FactsOrder.j11010010011 (a0 : List TFact) (a1 : ByteArray) (a2 : ByteArray) (x0 : Int) (x1 : Int) := lim fun v => F.pleachlaw27_FactsOrder.j11010010011 (v 0) (v 1) a0 a1 a2 x0 x1
noncomputable def V.pleachlaw27_FactsOrder.j1101001001101 (a0 : List TFact) (a1 : ByteArray) (a2 : ByteArray) (x0 : Int) (x1 : Int) (x2 : Bool) := lim fun v => F.pleachlaw27_FactsOrder.j1101001001101 (v 0) (v 1) a0 a1 a2 x0 x1 x2
noncomputable def V.pleachlaw27_FactsOrder.j110100100111 (a0 : List TFact) (a1 : ByteArray) (a2 : ByteArray) (x0 : Int) (x1 : Int) := lim fun v => F.pleachlaw27_FactsOrder.j110100100111 (v 0) (v 1) a0 a1 a2 x0 x1
noncomputable def V.pleachlaw27_FactsOrder.j1101001001111 (a0 : List TFact) (a1 : ByteArray) (a2 : ByteArray) (x0 : Int) (x1 : Bool) := lim fun v => F.pleachlaw27_FactsOrder.j1101001001111 (v 0) (v 1) a0 a1 a2 x0 x1
noncomputable def V.pleachlaw27_FactsOrder.j11010011 (a0 : List TFact) (a1 : ByteArray) (a2 : ByteArray) (x0 : Int) := lim fun v => F.pleachlaw27_FactsOrder.j11010011 (v 0) (v 1) a0 a1 a2 x0
noncomputable def V.pleachlaw27_FactsOrder (a0 : List TFact) (a1 : ByteArray) (a2 : ByteArray) := lim fun v => F.pleachlaw27_FactsOrder (v 0) a0 a1 a2
theorem V.pleachlaw27_FactsOrder.j101.of a0 a1 a2 x0 {r} (h : F.pleachlaw27_FactsOrder.j101.B V.pleachlaw27_awake V.pleachlaw27_FactsOrder.l11010 a0 a1 a2 x0 = some r) : V.pleachlaw27_FactsOrder.j101 a0 a1 a2 x0 = some r :=
  App.to (App.same (fun v => F.pleachlaw27_FactsOrder.j101.eq (v 0) a0 a1 a2 x0) (by unfold F.pleachlaw27_FactsOrder.j101.B; repeat' first | exact App.val | exact App.no | exact App.lim | exact (App.enter 1 App.lim) | apply App.cond | apply App.guard | apply App.meet | apply App.ite | refine App.bind ?_ fun _ => ?_)) h
theorem V.pleachlaw27_FactsOrder.l11010.of a0 a1 a2 x0 {r} (h : F.pleachlaw27_FactsOrder.l11010.B V.pleachref27_Less V.pleachlaw27_FactsOrder.j11010010011 V.facts_Ends V.facts_Parted V.pleachref27_Parted V.facts_Rise V.pleachref27_Rises V.pleachlaw27_awake a0 a1 a2 x0 = some r) : V.pleachlaw27_FactsOrder.l11010 a0 a1 a2 x0 = some r :=
  App.to (App.step 1 (fun v => F.pleachlaw27_FactsOrder.l11010.eq (v 0) (v 1) a0 a1 a2 x0) (by unfold F.pleachlaw27_FactsOrder.l11010.B; repeat' first | exact App.val | exact App.no | exact App.lim | apply App.cond | apply App.guard | apply App.meet | apply App.ite | refine App.bind ?_ fun _ => ?_)) h
theorem V.pleachlaw27_FactsOrder.j11010010011.of a0 a1 a2 x0 x1 {r} (h : F.pleachlaw27_FactsOrder.j11010010011.B V.pleachref27_Less V.pleachlaw27_FactsOrder.j1101001001101 a0 a1 a2 x0 x1 = some r) : V.pleachlaw27_FactsOrder.j11010010011 a0 a1 a2 x0 x1 = some r :=
  App.to (App.same (fun v => F.pleachlaw27_FactsOrder.j11010010011.eq (v 0) (v 1) a0 a1 a2 x0 x1) (by unfold F.pleachlaw27_FactsOrder.j11010010011.B; repeat' first | exact App.val | exact App.no | exact App.lim | apply App.cond | apply App.guard | apply App.meet | apply App.ite | refine App.bind ?_ fun _ => ?_)) h
theorem V.pleachlaw27_FactsOrder.j1101001001101.of a0 a1 a2 x0 x1 x2 {r} (h : F.pleachlaw27_FactsOrder.j1101001001101.B V.pleachlaw27_FactsOrder.j110100100111 a0 a1 a2 x0 x1 x2 = some r) : V.pleachlaw27_FactsOrder.j1101001001101 a0 a1 a2 x0 x1 x2 = some r :=
  App.to (App.same (fun v => F.pleachlaw27_FactsOrder.j1101001001101.eq (v 0) (v 1) a0 a1 a2 x0 x1 x2) (by unfold F.pleachlaw27_FactsOrder.j1101001001101.B; repeat' first | exact App.val | exact App.no | exact App.lim | apply App.cond | apply App.guard | apply App.meet | apply App.ite | refine App.bind ?_ fun _ => ?_)) h
theorem V.pleachlaw27_FactsOrder.j110100100111.of a0 a1 a2 x0 x1 {r} (h : F.pleachlaw27_FactsOrder.j110100100111.B V.facts_Compare V.pleachlaw27_FactsOrder.j1101001001111 a0 a1 a2 x0 x1 = some r) : V.pleachlaw27_FactsOrder.j110100100111 a0 a1 a2 x0 x1 = some r :=
  App.to (App.same (fun v => F.pleachlaw27_FactsOrder.j110100100111.eq (v 0) (v 1) a0 a1 a2 x0 x1) (by unfold F.pleachlaw27_FactsOrder.j110100100111.B; repeat' first | exact App.val | exact App.no | exact App.lim | apply App.cond | apply App.guard | apply App.meet | apply App.ite | refine App.bind ?_ fun _ => ?_)) h
theorem V.pleachlaw27_FactsOrder.j1101001001111.of a0 a1 a2 x0 x1 {r} (h : F.pleachlaw27_FactsOrder.j1101001001111.B V.pleachlaw27_FactsOrder.j11010011 a0 a1 a2 x0 x1 = some r) : V.pleachlaw27_FactsOrder.j1101001001111 a0 a1 a2 x0 x1 = some r :=
  App.to (App.same (fun v => F.pleachlaw27_FactsOrder.j1101001001111.eq (v 0) (v 1) a0 a1 a2 x0 x1) (by unfold F.pleachlaw27_FactsOrder.j1101001001111.B; repeat' first | exact App.val | exact App.no | exact App.lim | apply App.cond | apply App.guard | apply App.meet | apply App.ite | refine App.bind ?_ fun _ => ?_)) h
theorem V.pleachlaw27_FactsOrder.j11010011.of a0 a1 a2 x0 {r} (h : F.pleachlaw27_FactsOrder.j11010011.B V.pleachlaw27_FactsOrder.l11010 a0 a1 a2 x0 = some r) : V.pleachlaw27_FactsOrder.j11010011 a0 a1 a2 x0 = some r :=
  App.to (App.same (fun v => F.pleachlaw27_FactsOrder.j11010011.eq (v 0) (v 1) a0 a1 a2 x0) (by unfold F.pleachlaw27_FactsOrder.j11010011.B; repeat' first | exact App.val | exact App.no | exact App.lim | apply App.cond | apply App.guard | apply App.meet | apply App.ite | refine App.bind ?_ fun _ => ?_)) h
theorem V.pleachlaw27_FactsOrder.of a0 a1 a2 {r} (h : F.pleachlaw27_FactsOrder.B V.pleachref27_Few V.pleachlaw27_FactsOrder.j101 a0 a1 a2 = some r) : V.pleachlaw27_FactsOrder a0 a1 a2 = some r :=
  App.to (App.step 0 (fun v => F.pleachlaw27_FactsOrder.eq (v 0) a0 a1 a2) (by unfold F.pleachlaw27_FactsOrder.B; repeat' first | exact App.val | exact App.no | exact App.lim | apply App.cond | apply App.guard | apply App.meet | apply App.ite | refine App.bind ?_ fun _ => ?_)) h
end Go.Proofs.Ytdblhdpnllckhaa.AE
end
section
set_option linter.unusedVariables false
set_option linter.unusedSimpArgs false
namespace Go.Proofs.Ytdblhdpnllckhaa.AE
open Go

theorem w64_id {x : Int} (h0 : -9223372036854775808 ≤ x) (h1 : x ≤ 9223372036854775807) : w64 x = x := by
  show IntKind.i64.wrap x = x
  simp [IntKind.wrap, IntKind.bits, IntKind.signed]
  omega
theorem w64_up {i n : Nat} (h : i < n) (hn : n ≤ 140737488351232) : w64 ((i : Int) + 1) = ((i + 1 : Nat) : Int) := by rw [w64_id (by omega) (by omega)]; omega
theorem w64_dn {i n : Nat} (h : i < n) (hn : n ≤ 140737488351232) (h0 : 0 < i) : w64 ((i : Int) - 1) = ((i - 1 : Nat) : Int) := by rw [w64_id (by omega) (by omega)]; omega

theorem guard_tt {α : Type} (a : Option α) : guardK true a = a := rfl
theorem guard_of {α : Type} {g : Bool} {a : Option α} (h : g = true) : guardK g a = a := by rw [h]; rfl
theorem guard_dec {α : Type} {p : Prop} [Decidable p] {a : Option α} (h : p) : guardK (decide p) a = a := guard_of (decide_eq_true h)
/-- Inside a row. -/
theorem guard_in {α : Type} {i n : Nat} {a : Option α} (h : i < n) : guardK (decide (0 ≤ (i : Int)) && decide ((i : Int) < (n : Int))) a = a := guard_of (by simp [h])
theorem if_in {α : Type} {i n : Nat} {a b : α} (h : i < n) : (bif decide ((i : Int) < (n : Int)) then a else b) = a := by simp [h]
theorem if_out {α : Type} {i n : Nat} {a b : α} (h : n ≤ i) : (bif decide ((i : Int) < (n : Int)) then a else b) = b := by simp [Nat.not_lt.2 h]
theorem if_yes {α : Type} {p : Prop} [Decidable p] {a b : α} (h : p) : (bif decide p then a else b) = a := by simp [h]
theorem if_no {α : Type} {p : Prop} [Decidable p] {a b : α} (h : ¬ p) : (bif decide p then a else b) = b := by simp [h]
theorem nat_cast (i : Nat) : ((i : Nat) : Int).toNat = i := rfl
theorem data_len (s : ByteArray) : s.data.toList.length = s.size := by rw [Array.length_toList]; rfl
theorem toList_size (s : ByteArray) : s.toList.length = s.size := by rw [ByteArray.toList_eq]; exact data_len s
theorem toList_nil {s : ByteArray} : s.toList = [] ↔ s.size = 0 := by
  rw [← toList_size, List.length_eq_zero_iff]
theorem bytes_ext {s t : ByteArray} (h : s.toList = t.toList) : s = t := by
  rw [ByteArray.toList_eq, ByteArray.toList_eq] at h
  have : s.data = t.data := by rwa [← Array.toList_inj]
  cases s; cases t; simp_all
theorem strEq_iff {s t : ByteArray} : strEq s t = true ↔ s = t := by
  unfold strEq
  rw [beq_iff_eq]
  exact ⟨bytes_ext, fun h => by rw [h]⟩
theorem strEq_self (s : ByteArray) : strEq s s = true := strEq_iff.2 rfl
theorem strEq_no {s t : ByteArray} (h : s ≠ t) : strEq s t = false := by
  cases hb : strEq s t with
  | false => rfl
  | true => exact absurd (strEq_iff.1 hb) h
/-! ### The order of texts -/

theorem less_leq : ∀ x y : List UInt8, (Op.bytesLess x y || x == y) = !(Op.bytesLess y x)
  | [], [] => by simp [Op.bytesLess]
  | [], b :: y => by simp [Op.bytesLess]
  | a :: x, [] => by simp [Op.bytesLess]
  | a :: x, b :: y => by
    have ih := less_leq x y
    by_cases h1 : a < b
    · have h2 : ¬ b < a := by simp only [UInt8.lt_iff_toNat_lt] at *; omega
      have h3 : ¬ b = a := by rintro rfl; simp at h1
      simp [Op.bytesLess, h1, h2, h3]
    · by_cases h2 : b < a
      · have h3 : ¬ b = a := by rintro rfl; simp at h2
        have h4 : ¬ a = b := fun h => h3 h.symm
        simp [Op.bytesLess, h1, h2, h4]
      · have h3 : a = b := by
          apply UInt8.toNat_inj.1
          simp only [UInt8.lt_iff_toNat_lt] at *
          omega
        subst h3
        simp [Op.bytesLess, h1] at ih ⊢
        exact ih
theorem less_irr : ∀ x : List UInt8, Op.bytesLess x x = false
  | [] => rfl
  | a :: x => by
    have : ¬ a < a := by simp
    simp [Op.bytesLess, less_irr x, this]
theorem less_trans : ∀ x y z : List UInt8, Op.bytesLess x y = true → Op.bytesLess y z = true → Op.bytesLess x z = true
  | _, [], _, h, _ => by simp [Op.bytesLess] at h
  | _, _ :: _, [], _, h => by simp [Op.bytesLess] at h
  | [], b :: y, c :: z, _, _ => rfl
  | a :: x, b :: y, c :: z, h1, h2 => by
    simp only [Op.bytesLess, Bool.or_eq_true, Bool.and_eq_true, decide_eq_true_eq, beq_iff_eq] at h1 h2 ⊢
    rcases h1 with h1 | ⟨rfl, h1⟩
    · rcases h2 with h2 | ⟨rfl, h2⟩
      · left; simp only [UInt8.lt_iff_toNat_lt] at *; omega
      · exact .inl h1
    · rcases h2 with h2 | ⟨rfl, h2⟩
      · exact .inl h2
      · exact .inr ⟨rfl, less_trans x y z h1 h2⟩
/-- Of two texts one is less, or they are the same. -/
theorem lt_or (a b : ByteArray) : (strLt a b || strEq a b) = !strLt b a := less_leq a.toList b.toList
theorem lt_irr (a : ByteArray) : strLt a a = false := less_irr a.toList
theorem lt_trans {a b c : ByteArray} (h : strLt a b = true) (g : strLt b c = true) : strLt a c = true := less_trans _ _ _ h g
theorem lt_asymm {a b : ByteArray} (h : strLt a b = true) : strLt b a = false := by
  cases hb : strLt b a with
  | false => rfl
  | true => have := lt_trans h hb; rw [lt_irr] at this; cases this
theorem lt_total {a b : ByteArray} (h : strLt a b = false) (hn : a ≠ b) : strLt b a = true := by
  have := lt_or a b
  rw [h, strEq_no hn] at this
  cases hb : strLt b a with
  | true => rfl
  | false => rw [hb] at this; simp at this
theorem size_zero {s : ByteArray} (h : s.size = 0) : s = (⟨#[]⟩ : ByteArray) := by
  apply bytes_ext
  rw [toList_nil.2 h]
  exact (toList_nil.2 rfl).symm
theorem strEq_nil (s : ByteArray) : strEq s (⟨#[]⟩ : ByteArray) = (s.size == 0) := by
  rw [Bool.eq_iff_iff, strEq_iff]
  simp only [beq_iff_eq]
  exact ⟨fun h => by rw [h]; rfl, size_zero⟩
theorem bt_data (s : ByteArray) (i : Nat) (h : i < s.size) : byteAt s (i : Int) = ((s.data.toList[i]'(by rw [Array.length_toList]; exact h)).toNat : Int) := by
  show (((s.data.toList.getD (i : Int).toNat 0).toNat : Nat) : Int) = _
  rw [nat_cast, List.getD_eq_getElem?_getD, List.getElem?_eq_getElem (by rw [data_len]; exact h)]
  rfl
theorem rd_get {e : Sh} {l : List (den e)} {i : Nat} (h : i < l.length) : rd e l i = l[i] := by
  simp [rd, List.getD_eq_getElem?_getD, List.getElem?_eq_getElem h]
theorem rd_mem {e : Sh} {l : List (den e)} {i : Nat} (h : i < l.length) : rd e l i ∈ l := by rw [rd_get h]; exact List.getElem_mem h
/-- A loop that ends at the first place at which the step tells something; else what is told at the end. -/
def scanG {α : Type} (step : Nat → Option α) (fin : α) : Nat → Nat → α
  | 0, _ => fin
  | d + 1, i => match step i with
    | some r => r
    | none => scanG step fin d (i + 1)
abbrev scanI (step : Nat → Option Int) : Nat → Nat → Int := scanG step 0
theorem scanG_succ {α : Type} (step : Nat → Option α) (fin : α) (d i : Nat) : scanG step fin (d + 1) i = (step i).getD (scanG step fin d (i + 1)) := by
  show (match step i with | some r => r | none => scanG step fin d (i + 1)) = _
  cases step i <;> rfl
theorem scanI_succ (step : Nat → Option Int) (d i : Nat) : scanI step (d + 1) i = (step i).getD (scanI step d (i + 1)) := scanG_succ step 0 d i
end Go.Proofs.Ytdblhdpnllckhaa.AE
end
section
set_option linter.unusedVariables false
set_option linter.unusedSimpArgs false
namespace Go.Proofs.Ytdblhdpnllckhaa.AE
open Go

def okc (c : Int) : Bool := (decide (97 ≤ c) && decide (c ≤ 122)) || (decide (48 ≤ c) && decide (c ≤ 57)) || c == 45
theorem name_fits_ok (c : Int) : V.name_fits c = some (okc c) := by
  refine V.name_fits.of _ ?_
  unfold F.name_fits.B okc
  by_cases a1 : c ≥ 97 <;> by_cases a2 : c ≤ 122 <;> by_cases a3 : c ≥ 48 <;> by_cases a4 : c ≤ 57 <;> simp [Bool.cond_eq_ite, a1, a2, a3, a4] <;> omega
/-- From place i on, d bytes, all fit. -/
def okFrom (s : ByteArray) : Nat → Nat → Bool
  | 0, _ => true
  | d + 1, i => okc (byteAt s i) && okFrom s d (i + 1)
def nameB (s : ByteArray) : Bool := decide (1 ≤ s.size) && decide (s.size ≤ 12) && okFrom s s.size 0

theorem name_Check_l (s : ByteArray) (hs : s.size ≤ 140737488351232) : ∀ d i : Nat, i + d = s.size → V.name_Check.l11010 s (i : Int) = some (if okFrom s d i then 0 else 2)
  | 0, i, h => by
    refine V.name_Check.l11010.of _ _ ?_
    unfold F.name_Check.l11010.B
    rw [if_out (by omega)]
    simp [okFrom]
  | d + 1, i, h => by
    refine V.name_Check.l11010.of _ _ ?_
    unfold F.name_Check.l11010.B
    rw [if_in (by omega), guard_in (by omega), name_fits_ok, Option.bind_some, w64_up (show i < s.size by omega) hs, name_Check_l s hs d (i + 1) (by omega)]
    cases hc : okc (byteAt s (i : Int)) <;> simp [okFrom, hc]
theorem name_Check_ok (s : ByteArray) (hs : s.size ≤ 140737488351232) : V.name_Check s = some (if nameB s then 0 else 2) := by
  refine V.name_Check.of _ ?_
  unfold F.name_Check.B
  rw [strEq_nil]
  have := name_Check_l s hs s.size 0 (by omega)
  rw [show (0 : Int) = ((0 : Nat) : Int) from rfl, this]
  by_cases h0 : s.size = 0
  · simp [Bool.cond_eq_ite, h0, nameB]
  · by_cases h2 : s.size ≤ 12
    · have h1 : 1 ≤ s.size := by omega
      have h3 : ¬ (s.size : Int) > 12 := by omega
      simp [Bool.cond_eq_ite, h0, h1, h2, h3, nameB]
    · have h3 : (s.size : Int) > 12 := by omega
      simp [Bool.cond_eq_ite, h0, h2, h3, nameB]

def valueB (v : TValue) : Bool := (v.1 == 1 && (v.2.1 == 0 || v.2.1 == 1) && v.2.2.size == 0) || (v.1 == 2 && v.2.2.size == 0) || (v.1 == 3 && v.2.1 == 0 && decide (v.2.2.size ≤ 64))
theorem value_Check_ok (v : TValue) : V.value_Check v = some (if valueB v then 0 else 2) := by
  refine V.value_Check.of _ ?_
  obtain ⟨a, b, s⟩ := v
  unfold F.value_Check.B valueB
  simp only [strEq_nil]
  by_cases a1 : a = 1
  · subst a1
    by_cases b0 : b = 0 <;> by_cases b1 : b = 1 <;> by_cases s0 : s.size = 0 <;> simp [Bool.cond_eq_ite, b0, b1, s0]
  · by_cases a2 : a = 2
    · subst a2
      by_cases s0 : s.size = 0 <;> simp [Bool.cond_eq_ite, s0]
    · by_cases a3 : a = 3
      · subst a3
        by_cases b0 : b = 0 <;> by_cases s0 : s.size ≤ 64 <;> simp [Bool.cond_eq_ite, b0, s0] <;> omega
      · simp [Bool.cond_eq_ite, a1, a2, a3]
/-! ### Rows that rise -/

def okProps (l : List TProp) : Prop := l.length ≤ 140737488351232 ∧ ∀ p ∈ l, p.1.size ≤ 140737488351232 ∧ p.2.2.2.size ≤ 140737488351232 ∧ -9223372036854775808 ≤ p.2.2.1 ∧ p.2.2.1 ≤ 9223372036854775807
def okTexts (l : List ByteArray) : Prop := l.length ≤ 140737488351232 ∧ ∀ s ∈ l, s.size ≤ 140737488351232
def propStep (l : List TProp) (i : Nat) : Option Int :=
  if (nameB (rd sProp l i).1 && valueB (rd sProp l i).2) = false then some 2
  else if 0 < i ∧ strLt (rd sProp l (i - 1)).1 (rd sProp l i).1 = false then some 4 else none
def textStep (l : List ByteArray) (i : Nat) : Option Int :=
  if nameB (rd .str l i) = false then some 2
  else if 0 < i ∧ strLt (rd .str l (i - 1)) (rd .str l i) = false then some 4 else none
def propsN (l : List TProp) : Int := if l.length > 8 then 5 else scanI (propStep l) l.length 0
def rowN (l : List ByteArray) : Int := scanI (textStep l) l.length 0
def restN (labels : List ByteArray) (props : List TProp) : Int := if labels.length > 8 then 5 else if rowN labels = 0 then propsN props else rowN labels

theorem CheckProps_l (l : List TProp) (hl : okProps l) : ∀ d i : Nat, i + d = l.length → V.elem_CheckProps.l11010 l (i : Int) = some (scanI (propStep l) d i)
  | 0, i, h => by
    refine V.elem_CheckProps.l11010.of _ _ ?_
    unfold F.elem_CheckProps.l11010.B
    rw [if_out (by omega)]
    rfl
  | d + 1, i, h => by
    refine V.elem_CheckProps.l11010.of _ _ ?_
    unfold F.elem_CheckProps.l11010.B
    have hi : i < l.length := by omega
    rw [if_in hi, guard_in hi]
    simp only [nat_cast, name_Check_ok _ (hl.2 _ (rd_mem (e := sProp) hi)).1, Option.bind_some, value_Check_ok, w64_up hi hl.1, CheckProps_l l hl d (i + 1) (by omega)]
    rw [scanI_succ]
    unfold propStep
    cases hn : nameB (rd sProp l i).1 with
    | false => simp
    | true =>
      cases hv : valueB (rd sProp l i).2 with
      | false => simp [hv]
      | true =>
        by_cases h0 : 0 < i
        · rw [w64_dn hi hl.1 h0, guard_in (show i - 1 < l.length by omega), nat_cast]
          cases hless : strLt (rd sProp l (i - 1)).1 (rd sProp l i).1 <;> simp [hless, hv, h0]
        · have h0 : i = 0 := by omega
          subst h0
          simp [hv]
theorem CheckProps_ok (l : List TProp) (hl : okProps l) : V.elem_CheckProps l = some (propsN l) := by
  refine V.elem_CheckProps.of _ ?_
  unfold F.elem_CheckProps.B propsN
  have := CheckProps_l l hl l.length 0 (by omega)
  rw [show (0 : Int) = ((0 : Nat) : Int) from rfl, this]
  by_cases h : l.length > 8
  · rw [if_yes (by omega), if_pos h]
  · rw [if_no (by omega), if_neg h]
theorem Row_l (l : List ByteArray) (hl : okTexts l) : ∀ d i : Nat, i + d = l.length → V.name_Row.l1010 l (i : Int) = some (scanI (textStep l) d i)
  | 0, i, h => by
    refine V.name_Row.l1010.of _ _ ?_
    unfold F.name_Row.l1010.B
    rw [if_out (by omega)]
    rfl
  | d + 1, i, h => by
    refine V.name_Row.l1010.of _ _ ?_
    unfold F.name_Row.l1010.B
    have hi : i < l.length := by omega
    rw [if_in hi, guard_in hi]
    simp only [nat_cast, name_Check_ok _ (hl.2 _ (rd_mem (e := .str) hi)), Option.bind_some, w64_up hi hl.1, Row_l l hl d (i + 1) (by omega)]
    rw [scanI_succ]
    unfold textStep
    cases hn : nameB (rd .str l i) with
    | false => simp
    | true =>
      by_cases h0 : 0 < i
      · rw [w64_dn hi hl.1 h0, guard_in (show i - 1 < l.length by omega), nat_cast]
        cases hless : strLt (rd .str l (i - 1)) (rd .str l i) <;> simp [hless, h0]
      · have h0 : i = 0 := by omega
        subst h0
        simp
theorem Row_ok (l : List ByteArray) (hl : okTexts l) : V.name_Row l = some (rowN l) := by
  refine V.name_Row.of _ ?_
  unfold F.name_Row.B rowN
  exact Row_l l hl l.length 0 (by omega)
theorem rest_ok (a : List ByteArray) (l : List TProp) (ha : okTexts a) (hl : okProps l) : V.elem_rest a l = some (restN a l) := by
  refine V.elem_rest.of _ _ ?_
  unfold F.elem_rest.B restN
  rw [Row_ok a ha, CheckProps_ok l hl]
  by_cases h : a.length > 8
  · rw [if_yes (by omega), if_pos h]
  · rw [if_no (by omega), if_neg h]
    by_cases h0 : rowN a = 0 <;> simp [Bool.cond_eq_ite, h0]
end Go.Proofs.Ytdblhdpnllckhaa.AE
end
section
set_option linter.unusedVariables false
set_option linter.unusedSimpArgs false
namespace Go.Proofs.Ytdblhdpnllckhaa.AE
open Go

end Go.Proofs.Ytdblhdpnllckhaa.AE
end
section
set_option linter.unusedVariables false
set_option linter.unusedSimpArgs false
namespace Go.Proofs.Ytdblhdpnllckhaa.AE
open Go

theorem scanI_zero {step : Nat → Option Int} (hs : ∀ i r, step i = some r → r ≠ 0) : ∀ d i, scanI step d i = 0 → ∀ j, i ≤ j → j < i + d → step j = none
  | 0, i, _, j, h1, h2 => by omega
  | d + 1, i, h, j, h1, h2 => by
    rw [scanI_succ] at h
    cases hq : step i with
    | some r => rw [hq] at h; exact absurd h (hs i r hq)
    | none =>
      rw [hq] at h
      by_cases hij : j = i
      · rw [hij]; exact hq
      · exact scanI_zero hs d (i + 1) h j (by omega) (by omega)
theorem propStep_ne (l : List TProp) (i : Nat) (r : Int) (h : propStep l i = some r) : r ≠ 0 := by
  unfold propStep at h
  split at h
  · injection h with h; omega
  · split at h
    · injection h with h; omega
    · cases h
theorem textStep_ne (l : List ByteArray) (i : Nat) (r : Int) (h : textStep l i = some r) : r ≠ 0 := by
  unfold textStep at h
  split at h
  · injection h with h; omega
  · split at h
    · injection h with h; omega
    · cases h
theorem nameB_size {s : ByteArray} (h : nameB s = true) : 1 ≤ s.size ∧ s.size ≤ 12 := by
  unfold nameB at h
  simp at h
  exact ⟨h.1.1, h.1.2⟩
theorem textStep_none {l : List ByteArray} {i : Nat} (h : textStep l i = none) : nameB (rd .str l i) = true ∧ (0 < i → strLt (rd .str l (i - 1)) (rd .str l i) = true) := by
  unfold textStep at h
  split at h
  · cases h
  · rename_i h1
    split at h
    · cases h
    · rename_i h2
      refine ⟨by simpa using h1, fun h0 => ?_⟩
      cases hq : strLt (rd .str l (i - 1)) (rd .str l i) with
      | true => rfl
      | false => exact absurd ⟨h0, hq⟩ h2
theorem propStep_none {l : List TProp} {i : Nat} (h : propStep l i = none) : nameB (rd sProp l i).1 = true ∧ valueB (rd sProp l i).2 = true ∧ (0 < i → strLt (rd sProp l (i - 1)).1 (rd sProp l i).1 = true) := by
  unfold propStep at h
  split at h
  · cases h
  · rename_i h1
    split at h
    · cases h
    · rename_i h2
      have h3 : nameB (rd sProp l i).1 = true ∧ valueB (rd sProp l i).2 = true := by simpa using h1
      refine ⟨h3.1, h3.2, fun h0 => ?_⟩
      cases hq : strLt (rd sProp l (i - 1)).1 (rd sProp l i).1 with
      | true => rfl
      | false => exact absurd ⟨h0, hq⟩ h2
/-- What a row of names, of properties that may be is. -/
theorem rowN_zero {l : List ByteArray} (h : rowN l = 0) {i : Nat} (hi : i < l.length) : nameB (rd .str l i) = true ∧ (0 < i → strLt (rd .str l (i - 1)) (rd .str l i) = true) :=
  textStep_none (scanI_zero (textStep_ne l) l.length 0 h i (by omega) (by omega))
theorem propsN_len {l : List TProp} (h : propsN l = 0) : l.length ≤ 8 := by
  unfold propsN at h
  split at h
  · omega
  · omega
theorem propsN_zero {l : List TProp} (h : propsN l = 0) {i : Nat} (hi : i < l.length) : nameB (rd sProp l i).1 = true ∧ valueB (rd sProp l i).2 = true ∧ (0 < i → strLt (rd sProp l (i - 1)).1 (rd sProp l i).1 = true) := by
  have h8 := propsN_len h
  unfold propsN at h
  rw [if_neg (by omega)] at h
  exact propStep_none (scanI_zero (propStep_ne l) l.length 0 h i (by omega) (by omega))
theorem restN_zero {a : List ByteArray} {l : List TProp} (h : restN a l = 0) : a.length ≤ 8 ∧ rowN a = 0 ∧ propsN l = 0 := by
  unfold restN at h
  split at h
  · omega
  · split at h
    · rename_i h1 h2
      exact ⟨by omega, h2, h⟩
    · rename_i h1 h2
      exact absurd h h2

/-- Labels and properties are as few and short as they may be. -/
structure Short (a : List ByteArray) (l : List TProp) : Prop where
  na : a.length ≤ 8
  nl : l.length ≤ 8
  ta : ∀ i, i < a.length → (rd .str a i).size ≤ 12
  tl : ∀ i, i < l.length → (rd sProp l i).1.size ≤ 12
theorem Short.of {a : List ByteArray} {l : List TProp} (h : restN a l = 0) : Short a l := by
  obtain ⟨h1, h2, h3⟩ := restN_zero h
  exact ⟨h1, propsN_len h3, fun i hi => (nameB_size (rowN_zero h2 hi).1).2, fun i hi => (nameB_size (propsN_zero h3 hi).1).2⟩
/-! ### Nodes and edges -/

structure okNode (n : TNode) : Prop where
  id : n.1.size ≤ 140737488351232
  la : okTexts n.2.1
  pr : okProps n.2.2
def nodeN (n : TNode) : Int := if nameB n.1 then restN n.2.1 n.2.2 else 2
theorem CheckNode_ok (n : TNode) (h : okNode n) : V.elem_CheckNode n = some (nodeN n) := by
  refine V.elem_CheckNode.of _ ?_
  unfold F.elem_CheckNode.B nodeN
  rw [name_Check_ok _ h.id, Option.bind_some, rest_ok _ _ h.la h.pr]
  cases nameB n.1 <;> simp
end Go.Proofs.Ytdblhdpnllckhaa.AE
end
section
set_option linter.unusedVariables false
set_option linter.unusedSimpArgs false
set_option maxRecDepth 20000
namespace Go.Proofs.Ytdblhdpnllckhaa.AE
open Go

def lessF (a b : TFact) : Bool := bif a.1 != b.1 then decide (a.1 < b.1) else bif !strEq a.2.1 b.2.1 then strLt a.2.1 b.2.1 else strLt a.2.2.1 b.2.2.1
def cmpF (a b : TFact) : Int := if lessF a b then -1 else if lessF b a then 1 else 0

theorem Less_ok (a b : TFact) : V.pleachref27_Less a b = some (lessF a b) := by
  refine V.pleachref27_Less.of a b ?_
  unfold F.pleachref27_Less.B lessF
  cases a.1 != b.1 <;> cases strEq a.2.1 b.2.1 <;> rfl

theorem CompareString_ok (a b : ByteArray) : V.bytealg_CompareString a b = some (cmpS a b) := V.bytealg_CompareString.of a b rfl
theorem stringsCompare_ok (a b : ByteArray) : V.strings_Compare a b = some (cmpS a b) := by
  refine V.strings_Compare.of a b ?_
  unfold F.strings_Compare.B
  rw [CompareString_ok, Option.bind_some]
def cmpI (a b : Int) : Int := if a < b then -1 else if b < a then 1 else 0
theorem cmpCompareInt_ok (a b : Int) : V.cmp_Compare_int a b = some (cmpI a b) := by
  have nan : ∀ x : Int, V.cmp_isNaN_int x = some false := fun x => V.cmp_isNaN_int.of x (by unfold F.cmp_isNaN_int.B; simp)
  refine V.cmp_Compare_int.of a b ?_
  unfold F.cmp_Compare_int.B cmpI
  rw [nan, nan, Option.bind_some, Option.bind_some]
  by_cases h : a < b
  · simp [h]
  · by_cases g : b < a <;> simp [h, g]
theorem cmpOr_ok (x y z : Int) : V.cmp_Or_int [x, y, z] = some (if x ≠ 0 then x else if y ≠ 0 then y else z) := by
  refine V.cmp_Or_int.of _ ?_
  unfold F.cmp_Or_int.B
  refine V.cmp_Or_int.l11010.of _ _ ?_
  unfold F.cmp_Or_int.l11010.B
  by_cases hx : x = 0
  · subst hx
    have e1 : w64 (0 + 1) = 1 := by rw [w64_id (by omega) (by omega)]; rfl
    simp only [e1]
    simp [rd, guardK]
    refine V.cmp_Or_int.l11010.of _ _ ?_
    unfold F.cmp_Or_int.l11010.B
    by_cases hy : y = 0
    · subst hy
      have e2 : w64 (1 + 1) = 2 := by rw [w64_id (by omega) (by omega)]; rfl
      simp only [e2]
      simp [rd, guardK]
      refine V.cmp_Or_int.l11010.of _ _ ?_
      unfold F.cmp_Or_int.l11010.B
      by_cases hz : z = 0
      · subst hz
        have e3 : w64 (2 + 1) = 3 := by rw [w64_id (by omega) (by omega)]; rfl
        simp only [e3]
        simp [rd, guardK]
        refine V.cmp_Or_int.l11010.of _ _ ?_
        unfold F.cmp_Or_int.l11010.B
        simp
      · simp [rd, guardK, hz, Bool.cond_eq_ite]
    · simp [rd, guardK, hy, Bool.cond_eq_ite]
  · simp [rd, guardK, hx, Bool.cond_eq_ite]

theorem cmpS_self (a : ByteArray) : cmpS a a = 0 := by simp [cmpS, lt_irr]
theorem cmpS_lt {a b : ByteArray} (h : strLt a b = true) : cmpS a b = -1 := by simp [cmpS, h]
theorem cmpS_gt {a b : ByteArray} (h : strLt b a = true) : cmpS a b = 1 := by simp [cmpS, h, lt_asymm h]
theorem cmpS_ne {a b : ByteArray} (h : a ≠ b) : (strLt a b = true ∧ cmpS a b = -1) ∨ (strLt b a = true ∧ strLt a b = false ∧ cmpS a b = 1) := by
  cases hl : strLt a b with
  | true => exact .inl ⟨rfl, cmpS_lt hl⟩
  | false => have := lt_total hl h; exact .inr ⟨this, rfl, cmpS_gt this⟩

theorem Compare_ok (a b : TFact) : V.facts_Compare a b = some (cmpF a b) := by
  refine V.facts_Compare.of a b ?_
  unfold F.facts_Compare.B
  rw [cmpCompareInt_ok, Option.bind_some, stringsCompare_ok, Option.bind_some, stringsCompare_ok, Option.bind_some, cmpOr_ok, Option.bind_some]
  refine congrArg some ?_
  unfold cmpF lessF cmpI
  by_cases h1 : a.1 = b.1
  · rw [h1]
    by_cases h2 : a.2.1 = b.2.1
    · rw [h2, cmpS_self]
      by_cases h3 : a.2.2.1 = b.2.2.1
      · rw [h3, cmpS_self]; simp [strEq_self, lt_irr]
      · rcases cmpS_ne h3 with ⟨g1, g2⟩ | ⟨g1, g2, g3⟩
        · simp [strEq_self, g1, g2]
        · simp [strEq_self, g1, g2, g3]
    · have h2' : b.2.1 ≠ a.2.1 := fun e => h2 e.symm
      rcases cmpS_ne h2 with ⟨g1, g2⟩ | ⟨g1, g2, g3⟩
      · simp [strEq_no h2, strEq_no h2', g1, g2]
      · simp [strEq_no h2, strEq_no h2', g1, g2, g3]
  · have h1' : ¬ b.1 = a.1 := fun e => h1 e.symm
    by_cases h4 : a.1 < b.1
    · simp [h1, h4]
    · have h5 : b.1 < a.1 := by omega
      simp [h1, h1', h4, h5]

theorem cmpF_lt {a b : TFact} : cmpF a b < 0 ↔ lessF a b = true := by
  unfold cmpF
  cases lessF a b <;> cases lessF b a <;> simp

/-- Do they rise from a place on? -/
def riseF (l : List TFact) : Nat → Nat → Bool
  | 0, _ => true
  | d + 1, i => lessF (rd sFact l (i - 1)) (rd sFact l i) && riseF l d (i + 1)
def rises (l : List TFact) : Bool := riseF l (l.length - 1) 1

theorem Rise_l (l : List TFact) (hs : l.length ≤ 140737488351232) : ∀ d i : Nat, i + d = l.length → 1 ≤ i → V.facts_Rise.l1010 l (i : Int) = some (if riseF l d i then 0 else 4)
  | 0, i, h, h1 => by
    refine V.facts_Rise.l1010.of _ _ ?_
    unfold F.facts_Rise.l1010.B
    rw [if_out (by omega)]
    rfl
  | d + 1, i, h, h1 => by
    have hi : i < l.length := by omega
    have ih := Rise_l l hs d (i + 1) (by omega) (by omega)
    refine V.facts_Rise.l1010.of _ _ ?_
    unfold F.facts_Rise.l1010.B
    rw [if_in hi, w64_dn hi hs (by omega), guard_in (by omega : i - 1 < l.length), guard_in hi, nat_cast, nat_cast, Compare_ok, Option.bind_some, w64_up hi hs, ih]
    show (bif decide (cmpF (rd sFact l (i - 1)) (rd sFact l i) ≥ 0) then some 4 else some (if riseF l d (i + 1) = true then 0 else 4)) = _
    by_cases hl : lessF (rd sFact l (i - 1)) (rd sFact l i) = true
    · have e : riseF l (d + 1) i = riseF l d (i + 1) := by rw [riseF, hl, Bool.true_and]
      rw [if_no (by have := cmpF_lt.2 hl; omega), e]
    · have e : riseF l (d + 1) i = false := by rw [riseF, Bool.eq_false_iff.2 hl, Bool.false_and]
      rw [if_yes (by have := mt cmpF_lt.1 hl; omega), e]; rfl

theorem Rise_ok (l : List TFact) (hs : l.length ≤ 140737488351232) : V.facts_Rise l = some (if rises l then 0 else 4) := by
  refine V.facts_Rise.of _ ?_
  unfold F.facts_Rise.B rises
  rcases Nat.eq_zero_or_pos l.length with h | h
  · rw [show l.length - 1 = 0 by omega]
    refine V.facts_Rise.l1010.of _ _ ?_
    unfold F.facts_Rise.l1010.B
    rw [if_no (by omega)]
    rfl
  · exact Rise_l l hs (l.length - 1) 1 (by omega) (by omega)

theorem Rises_l (l : List TFact) (hs : l.length ≤ 140737488351232) : ∀ d i : Nat, i + d = l.length → 1 ≤ i → V.pleachref27_Rises.l1010 l (i : Int) = some (riseF l d i)
  | 0, i, h, h1 => by
    refine V.pleachref27_Rises.l1010.of _ _ ?_
    unfold F.pleachref27_Rises.l1010.B
    rw [if_out (by omega)]
    rfl
  | d + 1, i, h, h1 => by
    have hi : i < l.length := by omega
    have ih := Rises_l l hs d (i + 1) (by omega) (by omega)
    refine V.pleachref27_Rises.l1010.of _ _ ?_
    unfold F.pleachref27_Rises.l1010.B
    rw [if_in hi, w64_dn hi hs (by omega), guard_in (by omega : i - 1 < l.length), guard_in hi, nat_cast, nat_cast, Less_ok, Option.bind_some, w64_up hi hs, ih]
    simp only [riseF]
    show (bif !lessF (rd sFact l (i - 1)) (rd sFact l i) then some false else some (riseF l d (i + 1))) = _
    cases lessF (rd sFact l (i - 1)) (rd sFact l i) <;> rfl

theorem Rises_ok (l : List TFact) (hs : l.length ≤ 140737488351232) : V.pleachref27_Rises l = some (rises l) := by
  refine V.pleachref27_Rises.of _ ?_
  unfold F.pleachref27_Rises.B rises
  rcases Nat.eq_zero_or_pos l.length with h | h
  · rw [show l.length - 1 = 0 by omega]
    refine V.pleachref27_Rises.l1010.of _ _ ?_
    unfold F.pleachref27_Rises.l1010.B
    rw [if_no (by omega)]
    rfl
  · exact Rises_l l hs (l.length - 1) 1 (by omega) (by omega)

end Go.Proofs.Ytdblhdpnllckhaa.AE
end
section
set_option linter.unusedVariables false
set_option linter.unusedSimpArgs false
set_option maxRecDepth 20000
namespace Go.Proofs.Ytdblhdpnllckhaa.AE
open Go

abbrev Z1 : ByteArray := (⟨#[0]⟩ : ByteArray)

theorem indexByte_cases (c : UInt8) : ∀ l : List UInt8, (Lib.indexByte l c = -1 ∧ ∀ (i : Nat) (h : i < l.length), l[i] ≠ c) ∨ ∃ (i : Nat) (h : i < l.length), Lib.indexByte l c = (i : Int) ∧ l[i] = c ∧ ∀ (j : Nat) (h : j < i), l[j] ≠ c
  | [] => .inl ⟨rfl, fun i h => by simp at h⟩
  | b :: l => by
    simp only [Lib.indexByte]
    by_cases hb : b = c
    · exact .inr ⟨0, by simp, by simp [hb], by simpa using hb, fun j h => by omega⟩
    · have hb' : (b == c) = false := by simpa using hb
      rw [hb']
      rcases indexByte_cases c l with ⟨h1, h2⟩ | ⟨i, hi, h1, h2, h3⟩
      · refine .inl ⟨by simp [h1], fun i h => ?_⟩
        cases i with
        | zero => simpa using hb
        | succ i => simpa using h2 i (by simpa using h)
      · refine .inr ⟨i + 1, by simp; omega, ?_, by simpa using h2, fun j h => ?_⟩
        · have : ¬ ((i : Int) = -1) := by omega
          simp [h1, this]
        · cases j with
          | zero => simpa using hb
          | succ j => simpa using h3 j (by omega)

/-- Where a text has a zero. -/
def zeroAt (s : ByteArray) : Option Nat := (List.range s.size).find? fun i => byteAt s (i : Int) == 0
def partF (s : ByteArray) : ByteArray × ByteArray :=
  match zeroAt s with
  | some j => (s.extract 0 j, s.extract (j + 1) s.size)
  | none => (s, ⟨#[]⟩)

theorem zero_byte (b : UInt8) : ((b.toNat : Int) == 0) = (b == 0) := by
  rw [Bool.eq_iff_iff]
  simp only [beq_iff_eq]
  constructor
  · intro h; apply UInt8.toNat_inj.1; show b.toNat = 0; omega
  · intro h; subst h; rfl

theorem zeroAt_some {s : ByteArray} {j : Nat} : zeroAt s = some j ↔ byteAt s (j : Int) = 0 ∧ j < s.size ∧ ∀ k, k < j → byteAt s (k : Int) ≠ 0 := by
  unfold zeroAt
  rw [List.find?_range_eq_some]
  simp
theorem zeroAt_none {s : ByteArray} : zeroAt s = none ↔ ∀ k, k < s.size → byteAt s (k : Int) ≠ 0 := by
  unfold zeroAt
  rw [List.find?_range_eq_none]
  simp

theorem idxB_zero (s : ByteArray) : idxB s 0 = match zeroAt s with | some j => (j : Int) | none => -1 := by
  have hl : s.data.toList.length = s.size := data_len s
  have e : idxB s 0 = Lib.indexByte s.data.toList 0 := by unfold idxB; rw [Lib.firstIdx_eq]; rfl
  have hb : ∀ (k : Nat) (h : k < s.size), byteAt s (k : Int) = 0 ↔ s.data.toList[k]'(by rw [hl]; exact h) = 0 := fun k h => by
    rw [bt_data s k h]
    have := zero_byte (s.data.toList[k]'(by rw [hl]; exact h))
    rw [Bool.eq_iff_iff] at this
    simpa using this
  rw [e]
  rcases indexByte_cases 0 s.data.toList with ⟨h1, h2⟩ | ⟨i, hi, h1, h2, h3⟩
  · have : zeroAt s = none := zeroAt_none.2 fun k hk h => h2 k (by rw [hl]; exact hk) ((hb k hk).1 h)
    rw [h1, this]
  · rw [hl] at hi
    have : zeroAt s = some i := zeroAt_some.2 ⟨(hb i hi).2 h2, hi, fun k hk h => h3 k hk ((hb k (by omega)).1 h)⟩
    rw [h1, this]

theorem Index_ok (s : ByteArray) : V.stringslite_Index s Z1 = some (idxB s 0) := by
  have hI : ∀ c, V.stringslite_IndexByte s c = some (idxB s c) := fun c => V.stringslite_IndexByte.of s c rfl
  refine V.stringslite_Index.of s Z1 ?_
  unfold F.stringslite_Index.B
  have h1 : (Z1.size : Int) = 1 := rfl
  have h2 : byteAt Z1 0 = 0 := rfl
  rw [h1, h2]
  show (bif strEq Z1 s then some 0 else guardK (decide ((0 : Int) < 1)) ((V.stringslite_IndexByte s 0).bind fun t0 => some t0)) = _
  rw [hI, Option.bind_some, guard_dec (by omega)]
  cases he : strEq Z1 s with
  | true =>
    have := strEq_iff.1 he
    subst this
    rfl
  | false => rfl

theorem Cut_ok (s : ByteArray) (hs : s.size ≤ 140737488351232) : ∃ b, V.strings_Cut s Z1 = some ((partF s).1, (partF s).2, b) := by
  have h1 : (Z1.size : Int) = 1 := rfl
  have : ∃ b, V.stringslite_Cut s Z1 = some ((partF s).1, (partF s).2, b) := by
    have B := fun {r} => V.stringslite_Cut.of s Z1 (r := r)
    unfold F.stringslite_Cut.B at B
    rw [Index_ok, Option.bind_some, idxB_zero, h1] at B
    unfold partF
    cases hz : zeroAt s with
    | none => rw [hz] at B; exact ⟨false, B rfl⟩
    | some j =>
      rw [hz] at B
      obtain ⟨g1, g2, g3⟩ := zeroAt_some.1 hz
      dsimp only at B ⊢
      rw [w64_up g2 hs, if_yes (by omega), guard_of (by simp; omega), guard_of (by simp; omega)] at B
      exact ⟨true, B rfl⟩
  obtain ⟨b, hb⟩ := this
  refine ⟨b, V.strings_Cut.of s Z1 ?_⟩
  unfold F.strings_Cut.B
  rw [hb, Option.bind_some]

theorem Parted_ok (s : ByteArray) (hs : s.size ≤ 140737488351232) : V.facts_Parted s = some (partF s) := by
  refine V.facts_Parted.of s ?_
  obtain ⟨b, hb⟩ := Cut_ok s hs
  unfold F.facts_Parted.B
  rw [hb, Option.bind_some]

theorem refParted_l (s : ByteArray) (hs : s.size ≤ 140737488351232) : ∀ d i : Nat, i + d = s.size → (∀ k, k < i → byteAt s (k : Int) ≠ 0) → V.pleachref27_Parted.l1010 s (i : Int) = some (partF s)
  | 0, i, h, hk => by
    refine V.pleachref27_Parted.l1010.of _ _ ?_
    unfold F.pleachref27_Parted.l1010.B
    rw [if_out (by omega)]
    have : zeroAt s = none := zeroAt_none.2 fun k h => hk k (by omega)
    unfold partF
    rw [this]
  | d + 1, i, h, hk => by
    have hi : i < s.size := by omega
    refine V.pleachref27_Parted.l1010.of _ _ ?_
    unfold F.pleachref27_Parted.l1010.B
    rw [if_in hi, guard_in hi, w64_up hi hs]
    by_cases hb : byteAt s (i : Int) = 0
    · have : zeroAt s = some i := zeroAt_some.2 ⟨hb, hi, hk⟩
      rw [hb, guard_of (by simp; omega), guard_of (by simp; omega)]
      unfold partF
      rw [this]
      rfl
    · have hb' : (byteAt s (i : Int) == 0) = false := by simpa using hb
      rw [hb']
      exact refParted_l s hs d (i + 1) (by omega) fun k hk' => by
        rcases Nat.lt_or_ge k i with g | g
        · exact hk k g
        · rw [show k = i by omega]; exact hb

theorem refParted_ok (s : ByteArray) (hs : s.size ≤ 140737488351232) : V.pleachref27_Parted s = some (partF s) := by
  refine V.pleachref27_Parted.of s ?_
  unfold F.pleachref27_Parted.B
  exact refParted_l s hs s.size 0 (by omega) (fun k h => by omega)

theorem Few27_l (l : List TFact) (hl : l.length ≤ 140737488351232) : ∀ (d i : Nat) (n : Int), i + d = l.length → ∃ r, V.pleachref27_Few.l11010 l n (i : Int) = some r ∧ (r = true → l.length ≤ 120)
  | 0, i, n, h => by
    have B := fun {r} => V.pleachref27_Few.l11010.of l n (i : Int) (r := r)
    unfold F.pleachref27_Few.l11010.B at B
    rw [if_out (by omega)] at B
    by_cases hm : (l.length : Int) ≤ 120
    · exact ⟨_, B (by rw [if_yes hm]), fun _ => by omega⟩
    · exact ⟨false, B (by rw [if_no hm]), fun h => by cases h⟩
  | d + 1, i, n, h => by
    have B := fun {r} => V.pleachref27_Few.l11010.of l n (i : Int) (r := r)
    unfold F.pleachref27_Few.l11010.B at B
    have hi : i < l.length := by omega
    rw [if_in hi, guard_in hi, guard_in hi, guard_in hi, w64_up hi hl] at B
    by_cases hm : (i : Int) ≤ 120
    · rw [if_yes hm] at B
      generalize w64 _ = n' at B
      obtain ⟨r, h1, h2⟩ := Few27_l l hl d (i + 1) n' (by omega)
      exact ⟨r, B h1, h2⟩
    · rw [if_no hm] at B
      by_cases hm : (l.length : Int) ≤ 120
      · exact ⟨_, B (by rw [if_yes hm]), fun _ => by omega⟩
      · exact ⟨false, B (by rw [if_no hm]), fun h => by cases h⟩

theorem Few27_ok (l : List TFact) (hl : l.length ≤ 140737488351232) : ∃ r, V.pleachref27_Few l = some r ∧ (r = true → l.length ≤ 120) := by
  obtain ⟨r, h1, h2⟩ := Few27_l l hl l.length 0 0 (by omega)
  exact ⟨r, V.pleachref27_Few.of l (by unfold F.pleachref27_Few.B; exact h1), h2⟩

end Go.Proofs.Ytdblhdpnllckhaa.AE
end
section
set_option linter.unusedVariables false
set_option linter.unusedSimpArgs false
set_option maxRecDepth 20000
namespace Go.Proofs.Ytdblhdpnllckhaa.AE
open Go

abbrev gA : TGraph := ([((⟨#[97]⟩ : ByteArray), [], [])], [])
abbrev fA : TFact := (1, (⟨#[97]⟩ : ByteArray), (⟨#[]⟩ : ByteArray), (⟨#[]⟩ : ByteArray))

theorem w64_one : w64 (0 + 1) = 1 := by rw [w64_id (by omega) (by omega)]; rfl

theorem awake_check : V.graph_Check gA = some 0 := by
  have hn : nodeN ((⟨#[97]⟩ : ByteArray), [], []) = 0 := by decide +kernel
  refine V.graph_Check.of gA ?_
  unfold F.graph_Check.B
  show V.graph_Check.l11010 gA 0 = some 0
  refine V.graph_Check.l11010.of _ _ ?_
  unfold F.graph_Check.l11010.B
  show guardK true ((V.elem_CheckNode ((⟨#[97]⟩ : ByteArray), [], [])).bind fun t0 => (bif (t0 != 0) then (some t0) else (bif (decide ((0 : Int) > 0)) then _ else V.graph_Check.l11010 gA (w64 (0 + 1))))) = some 0
  rw [guard_tt, CheckNode_ok _ (by refine ⟨by decide +kernel, ⟨by simp, by simp⟩, ⟨by simp, by simp⟩⟩), hn, Option.bind_some, w64_one]
  show V.graph_Check.l11010 gA 1 = some 0
  refine V.graph_Check.l11010.of _ _ ?_
  unfold F.graph_Check.l11010.B
  show V.graph_Check.l111010 gA 0 = some 0
  refine V.graph_Check.l111010.of _ _ ?_
  unfold F.graph_Check.l111010.B
  rfl

theorem awake_of : V.facts_of (⟨#[97]⟩ : ByteArray) 2 3 [] [] = some [] := by
  refine V.facts_of.of _ _ _ _ _ ?_
  unfold F.facts_of.B
  refine V.facts_of.l11010.of _ _ _ _ _ _ _ ?_
  unfold F.facts_of.l11010.B
  show V.facts_of.l111010 (⟨#[97]⟩ : ByteArray) 2 3 [] [] 0 [] = some []
  refine V.facts_of.l111010.of _ _ _ _ _ _ _ ?_
  unfold F.facts_of.l111010.B
  rfl

theorem awake_sort : V.slices_SortStableFunc_apiFactapiFact_f26 [fA] = some [fA] := by
  have hi : V.slices_insertionSortCmpFunc_apiFact_f26 [fA] 0 1 = some [fA] := by
    refine V.slices_insertionSortCmpFunc_apiFact_f26.of _ _ _ ?_
    unfold F.slices_insertionSortCmpFunc_apiFact_f26.B
    rw [w64_one]
    refine V.slices_insertionSortCmpFunc_apiFact_f26.l10.of _ _ _ _ _ ?_
    unfold F.slices_insertionSortCmpFunc_apiFact_f26.l10.B
    rfl
  have hs : V.slices_stableCmpFunc_apiFact_f26 [fA] 1 = some [fA] := by
    refine V.slices_stableCmpFunc_apiFact_f26.of _ _ ?_
    unfold F.slices_stableCmpFunc_apiFact_f26.B
    refine V.slices_stableCmpFunc_apiFact_f26.l1100.of _ _ _ _ _ ?_
    unfold F.slices_stableCmpFunc_apiFact_f26.l1100.B
    rw [if_no (by omega), hi, Option.bind_some]
    refine V.slices_stableCmpFunc_apiFact_f26.l11110.of _ _ _ _ ?_
    unfold F.slices_stableCmpFunc_apiFact_f26.l11110.B
    rfl
  refine V.slices_SortStableFunc_apiFactapiFact_f26.of _ ?_
  unfold F.slices_SortStableFunc_apiFactapiFact_f26.B
  show (V.slices_stableCmpFunc_apiFact_f26 [fA] 1).bind _ = _
  rw [hs, Option.bind_some]

theorem awake_Of : V.facts_Of gA = some [fA] := by
  refine V.facts_Of.of gA ?_
  unfold F.facts_Of.B
  show (V.graph_Check gA).bind _ = _
  rw [awake_check, Option.bind_some]
  show V.facts_Of.l111010 gA 0 [] = some [fA]
  refine V.facts_Of.l111010.of _ _ _ ?_
  unfold F.facts_Of.l111010.B
  show guardK true (guardK true ((V.facts_of (⟨#[97]⟩ : ByteArray) 2 3 [] []).bind fun t1 => guardK (decide (1 + t1.length ≤ nmax)) (V.facts_Of.l111010 gA (w64 (0 + 1)) ([fA] ++ t1)))) = some [fA]
  rw [guard_tt, guard_tt, awake_of, Option.bind_some, guard_dec (by decide), w64_one]
  show V.facts_Of.l111010 gA 1 [fA] = some [fA]
  refine V.facts_Of.l111010.of _ _ _ ?_
  unfold F.facts_Of.l111010.B
  show V.facts_Of.l1111010 gA 0 [fA] = some [fA]
  refine V.facts_Of.l1111010.of _ _ _ ?_
  unfold F.facts_Of.l1111010.B
  show (V.slices_SortStableFunc_apiFactapiFact_f26 [fA]).bind (fun t4 => some t4) = some [fA]
  rw [awake_sort, Option.bind_some]

theorem awake27 : V.pleachlaw27_awake = some true := by
  refine V.pleachlaw27_awake.of ?_
  unfold F.pleachlaw27_awake.B
  show (V.facts_Of gA).bind _ = _
  rw [awake_Of, Option.bind_some]
  show guardK true (some (((1 : Int) == 1) && (strEq (⟨#[97]⟩ : ByteArray) (⟨#[97]⟩ : ByteArray) && (strEq (⟨#[]⟩ : ByteArray) (⟨#[]⟩ : ByteArray) && (strEq (⟨#[]⟩ : ByteArray) (⟨#[]⟩ : ByteArray) && true))))) = _
  rw [guard_tt, strEq_self, strEq_self]; rfl

end Go.Proofs.Ytdblhdpnllckhaa.AE
end
section
set_option linter.unusedVariables false
set_option linter.unusedSimpArgs false
set_option maxRecDepth 20000
namespace Go.Proofs.Ytdblhdpnllckhaa.AE
open Go

theorem lessF_asymm {a b : TFact} (h : lessF a b = true) : lessF b a = false := by
  unfold lessF at h ⊢
  by_cases h1 : a.1 = b.1
  · have h1' : b.1 = a.1 := h1.symm
    rw [h1] at h ⊢
    simp only [bne_self_eq_false, cond_false] at h ⊢
    by_cases h2 : a.2.1 = b.2.1
    · rw [h2] at h ⊢
      simp only [strEq_self, Bool.not_true, cond_false] at h ⊢
      exact lt_asymm h
    · have h2' : b.2.1 ≠ a.2.1 := fun e => h2 e.symm
      simp only [strEq_no h2, strEq_no h2', Bool.not_false, cond_true] at h ⊢
      exact lt_asymm h
  · have h1' : b.1 ≠ a.1 := fun e => h1 e.symm
    have e1 : (a.1 != b.1) = true := by simpa using h1
    have e2 : (b.1 != a.1) = true := by simpa using h1'
    rw [e1] at h
    rw [e2]
    simp only [cond_true, decide_eq_true_eq, decide_eq_false_iff_not] at h ⊢
    omega

section
variable {l : List TFact} {a b : ByteArray}

theorem FactsOrder_end (hl : l.length ≤ 120) (ha : a.size ≤ 100) (hb : b.size ≤ 100) {i : Int} (hi : ¬ i < (l.length : Int)) : V.pleachlaw27_FactsOrder.l11010 l a b i = some true := by
  have hz : Z1.size = 1 := rfl
  have hmax : i64max = 9223372036854775807 := rfl
  have hc : (a ++ Z1).size = a.size + 1 := by rw [ByteArray.size_append, hz]
  have hc2 : (a ++ Z1 ++ b).size = a.size + 1 + b.size := by rw [ByteArray.size_append, hc]
  have hE : V.facts_Ends a b = some (a ++ Z1 ++ b) := by
    refine V.facts_Ends.of a b ?_
    unfold F.facts_Ends.B
    rw [guard_dec (by rw [hz, hmax]; omega), guard_dec (by rw [hc, hmax]; omega)]
  refine V.pleachlaw27_FactsOrder.l11010.of _ _ _ _ ?_
  unfold F.pleachlaw27_FactsOrder.l11010.B
  rw [if_no hi, hE, Option.bind_some, Parted_ok _ (by omega), Option.bind_some, refParted_ok _ (by omega), Option.bind_some, Parted_ok _ (by omega), Option.bind_some, refParted_ok _ (by omega), Option.bind_some, Rise_ok _ (by omega), Option.bind_some, Rises_ok _ (by omega), Option.bind_some, awake27]
  have e : (((if rises l then 0 else 4 : Int) == 0) == rises l) = true := by cases rises l <;> rfl
  rw [e, guard_dec (by rw [hz, hmax]; omega), guard_dec (by rw [hc, hmax]; omega), strEq_self, strEq_self, strEq_self, strEq_self, strEq_self]
  rfl

theorem FactsOrder_l (hl : l.length ≤ 120) (ha : a.size ≤ 100) (hb : b.size ≤ 100) : ∀ d i : Nat, i + d = l.length → 1 ≤ i → V.pleachlaw27_FactsOrder.l11010 l a b (i : Int) = some true
  | 0, i, h, h1 => FactsOrder_end hl ha hb (by omega)
  | d + 1, i, h, h1 => by
    have hs : l.length ≤ 140737488351232 := by omega
    have hi : i < l.length := by omega
    have hi1 : i - 1 < l.length := by omega
    have ih := FactsOrder_l hl ha hb d (i + 1) (by omega) (by omega)
    have last : ∀ want : Int, want = cmpF (rd sFact l (i - 1)) (rd sFact l i) → V.pleachlaw27_FactsOrder.j110100100111 l a b (i : Int) want = some true := fun want hw => by
      refine V.pleachlaw27_FactsOrder.j110100100111.of _ _ _ _ _ ?_
      unfold F.pleachlaw27_FactsOrder.j110100100111.B
      rw [w64_dn hi hs (by omega), guard_in hi1, guard_in hi, nat_cast, nat_cast, Compare_ok, Option.bind_some]
      have e : (cmpF (rd sFact l (i - 1)) (rd sFact l i) != want) = false := by rw [hw]; simp
      show V.pleachlaw27_FactsOrder.j1101001001111 l a b (i : Int) (cmpF (rd sFact l (i - 1)) (rd sFact l i) != want) = some true
      rw [e]
      refine V.pleachlaw27_FactsOrder.j1101001001111.of _ _ _ _ _ ?_
      unfold F.pleachlaw27_FactsOrder.j1101001001111.B
      show V.pleachlaw27_FactsOrder.j11010011 l a b (i : Int) = some true
      refine V.pleachlaw27_FactsOrder.j11010011.of _ _ _ _ ?_
      unfold F.pleachlaw27_FactsOrder.j11010011.B
      rw [w64_up hi hs]
      exact ih
    have mid : ∀ want : Int, (lessF (rd sFact l i) (rd sFact l (i - 1)) = false → want = cmpF (rd sFact l (i - 1)) (rd sFact l i)) → V.pleachlaw27_FactsOrder.j11010010011 l a b (i : Int) want = some true := fun want hw => by
      refine V.pleachlaw27_FactsOrder.j11010010011.of _ _ _ _ _ ?_
      unfold F.pleachlaw27_FactsOrder.j11010010011.B
      rw [w64_dn hi hs (by omega), guard_in hi, guard_in hi1, nat_cast, nat_cast, Less_ok, Option.bind_some]
      show V.pleachlaw27_FactsOrder.j1101001001101 l a b (i : Int) want (lessF (rd sFact l i) (rd sFact l (i - 1))) = some true
      refine V.pleachlaw27_FactsOrder.j1101001001101.of _ _ _ _ _ _ ?_
      unfold F.pleachlaw27_FactsOrder.j1101001001101.B
      by_cases hg : lessF (rd sFact l i) (rd sFact l (i - 1)) = true
      · rw [hg]
        refine last 1 ?_
        unfold cmpF
        rw [if_neg (by rw [lessF_asymm hg]; simp), if_pos hg]
      · rw [Bool.eq_false_iff.2 hg]
        exact last want (hw (Bool.eq_false_iff.2 hg))
    refine V.pleachlaw27_FactsOrder.l11010.of _ _ _ _ ?_
    unfold F.pleachlaw27_FactsOrder.l11010.B
    rw [if_in hi, w64_dn hi hs (by omega), guard_in hi1, guard_in hi, nat_cast, nat_cast, Less_ok, Option.bind_some]
    show (bif lessF (rd sFact l (i - 1)) (rd sFact l i) then V.pleachlaw27_FactsOrder.j11010010011 l a b (i : Int) (-1) else V.pleachlaw27_FactsOrder.j11010010011 l a b (i : Int) 0) = some true
    by_cases hg : lessF (rd sFact l (i - 1)) (rd sFact l i) = true
    · rw [hg]
      exact mid (-1) (fun _ => by unfold cmpF; rw [if_pos hg])
    · rw [Bool.eq_false_iff.2 hg]
      exact mid 0 (fun h => by unfold cmpF; rw [if_neg hg, if_neg (by rw [h]; simp)])

theorem FactsOrder_pure (l : List TFact) (a b : ByteArray) (hl : l.length ≤ 140737488351232) : V.pleachlaw27_FactsOrder l a b = some true := by
  have aw : V.pleachlaw27_FactsOrder.j101 l a b true = some true := by
    refine V.pleachlaw27_FactsOrder.j101.of _ _ _ _ ?_
    unfold F.pleachlaw27_FactsOrder.j101.B
    rw [awake27]
    rfl
  obtain ⟨r, h1, h2⟩ := Few27_ok l hl
  refine V.pleachlaw27_FactsOrder.of _ _ _ ?_
  unfold F.pleachlaw27_FactsOrder.B
  rw [h1, Option.bind_some]
  cases r with
  | false => exact aw
  | true =>
    have hl := h2 rfl
    show (bif decide ((a.size : Int) > 100) then V.pleachlaw27_FactsOrder.j101 l a b true else V.pleachlaw27_FactsOrder.j101 l a b (decide ((b.size : Int) > 100))) = some true
    by_cases ha : (a.size : Int) > 100
    · rw [if_yes ha]; exact aw
    · rw [if_no ha]
      by_cases hb : (b.size : Int) > 100
      · rw [decide_eq_true hb]; exact aw
      · rw [decide_eq_false hb]
        refine V.pleachlaw27_FactsOrder.j101.of _ _ _ _ ?_
        unfold F.pleachlaw27_FactsOrder.j101.B
        show V.pleachlaw27_FactsOrder.l11010 l a b 1 = some true
        rcases Nat.eq_zero_or_pos l.length with h | h
        · exact FactsOrder_end hl (by omega) (by omega) (by omega)
        · exact FactsOrder_l hl (by omega) (by omega) (l.length - 1) 1 (by omega) (by omega)

end
end Go.Proofs.Ytdblhdpnllckhaa.AE
end
section
namespace Go.Proofs.Ytdblhdpnllckhaa.AE
open Go Go.ChangeShapes Go.WideShapes Go.ChangeAt Go.RowKit
theorem weights_each {H : Type} {P : Program} {p : Nat → Bool} {ts : List TypeId} {ds : List (DataW H)} (h : (DataW.weightsEach P ts ds).all p = true) {j : Nat} {t : TypeId} {d : DataW H} (ht : ts[j]? = some t) (hd : ds[j]? = some d) : ∀ n ∈ d.weights P t, p n = true :=
  fun n hn => List.all_eq_true.1 h _ (DataW.weights_mem_each ht hd n hn)
theorem own : ownKnob Try.prog.godebug = none := by kernel_rfl
theorem laidOut : laidOutB Try.prog = true := by kernel_rfl
theorem mix : Try.prog.follows .mixedOrders = true := by kernel_rfl
theorem numGoB : (Try.prog.funcs.all fun fn => !(fn.name == "runtime.NumGoroutine")) = true := by kernel_rfl
theorem num (f : FuncId) (fn : Func) (h : Try.prog.funcs[f]? = some fn) : (fn.name == "runtime.NumGoroutine") = false := by
  have := Array.all_eq_true_iff_forall_mem.1 numGoB fn (Array.mem_of_getElem? h)
  simpa using this
theorem extok : ExtOk Try.prog sg := .of (show extAll Try.prog sgT from
  ⟨.nothing rfl rfl,
  ⟨.nothing rfl rfl,
  ⟨.nothing rfl rfl,
  ⟨.nothing rfl rfl,
  ⟨.nothing rfl rfl,
  ⟨.nothing rfl rfl,
  ⟨.nothing rfl rfl,
  ⟨.nothing rfl rfl,
  ⟨.nothing rfl rfl,
  ⟨.nothing rfl rfl,
  ⟨.nothing rfl rfl,
  ⟨.nothing rfl rfl,
  ⟨.nothing rfl rfl,
  ⟨.nothing rfl rfl,
  ⟨.nothing rfl rfl,
  ⟨.nothing rfl rfl,
  ⟨.nothing rfl rfl,
  ⟨.nothing rfl rfl,
  ⟨.nothing rfl rfl,
  ⟨.nothing rfl rfl,
  ⟨.nothing rfl rfl,
  ⟨.nothing rfl rfl,
  ⟨.nothing rfl rfl,
  ⟨.nothing rfl rfl,
  ⟨.nothing rfl rfl,
  ⟨.nothing rfl rfl,
  ⟨.nothing rfl rfl,
  ⟨.nothing rfl rfl,
  ⟨.nothing rfl rfl,
  ⟨.nothing rfl rfl,
  ⟨.nothing rfl rfl,
  ⟨.nothing rfl rfl,
  ⟨.nothing rfl rfl,
  ⟨.nothing rfl rfl,
  ⟨.nothing rfl rfl,
  ⟨.nothing rfl rfl,
  ⟨.nothing rfl rfl,
  ⟨.nothing rfl rfl,
  ⟨.nothing rfl rfl,
  ⟨.nothing rfl rfl,
  ⟨.nothing rfl rfl,
  ⟨.nothing rfl rfl,
  ⟨.nothing rfl rfl,
  ⟨.nothing rfl rfl,
  ⟨.nothing rfl rfl,
  ⟨.nothing rfl rfl,
  ⟨.nothing rfl rfl,
  ⟨.nothing rfl rfl,
  ⟨.nothing rfl rfl,
  ⟨.nothing rfl rfl,
  ⟨.nothing rfl rfl,
  ⟨.nothing rfl rfl,
  ⟨.nothing rfl rfl,
  ⟨.nothing rfl rfl,
  ⟨.nothing rfl rfl,
  ⟨.nothing rfl rfl,
  ⟨.nothing rfl rfl,
  ⟨.nothing rfl rfl,
  ⟨.nothing rfl rfl,
  ⟨.nothing rfl rfl,
  ⟨.nothing rfl rfl,
  ⟨.nothing rfl rfl,
  ⟨.nothing rfl rfl,
  ⟨.nothing rfl rfl,
  ⟨.nothing rfl rfl,
  ⟨.nothing rfl rfl,
  ⟨.nothing rfl rfl,
  ⟨.nothing rfl rfl,
  ⟨.nothing rfl rfl,
  ⟨.nothing rfl rfl,
  ⟨.nothing rfl rfl,
  ⟨.nothing rfl rfl,
  ⟨.nothing rfl rfl,
  ⟨.nothing rfl rfl,
  ⟨.nothing rfl rfl,
  ⟨.nothing rfl rfl,
  ⟨.nothing rfl rfl,
  ⟨.nothing rfl rfl,
  ⟨.nothing rfl rfl,
  ⟨.nothing rfl rfl,
  ⟨.nothing rfl rfl,
  ⟨.nothing rfl rfl,
  ⟨.nothing rfl rfl,
  ⟨.nothing rfl rfl,
  ⟨.nothing rfl rfl,
  ⟨.nothing rfl rfl,
  ⟨.nothing rfl rfl,
  ⟨.nothing rfl rfl,
  ⟨.nothing rfl rfl,
  ⟨.nothing rfl rfl,
  ⟨.nothing rfl rfl,
  ⟨.nothing rfl rfl,
  ⟨.nothing rfl rfl,
  ⟨.nothing rfl rfl,
  ⟨.nothing rfl rfl,
  ⟨.nothing rfl rfl,
  ⟨.nothing rfl rfl,
  ⟨.nothing rfl rfl,
  ⟨.nothing rfl rfl,
  ⟨.nothing rfl rfl,
  ⟨.nothing rfl rfl,
  ⟨.nothing rfl rfl,
  ⟨.ofOp rfl rfl (opCompare_ok Try.func153 (by kernel_rfl) (by kernel_rfl) (by kernel_rfl) (by kernel_rfl)),
  ⟨.nothing rfl rfl,
  ⟨.nothing rfl rfl,
  ⟨.nothing rfl rfl,
  ⟨.nothing rfl rfl,
  ⟨.nothing rfl rfl,
  ⟨.nothing rfl rfl,
  ⟨.nothing rfl rfl,
  ⟨.nothing rfl rfl,
  ⟨.nothing rfl rfl,
  ⟨.nothing rfl rfl,
  ⟨.nothing rfl rfl,
  ⟨.nothing rfl rfl,
  ⟨.nothing rfl rfl,
  ⟨.nothing rfl rfl,
  ⟨.nothing rfl rfl,
  ⟨.nothing rfl rfl,
  ⟨.nothing rfl rfl,
  ⟨.nothing rfl rfl,
  ⟨.nothing rfl rfl,
  ⟨.nothing rfl rfl,
  ⟨.nothing rfl rfl,
  ⟨.nothing rfl rfl,
  ⟨.nothing rfl rfl,
  ⟨.nothing rfl rfl,
  ⟨.nothing rfl rfl,
  ⟨.nothing rfl rfl,
  ⟨.nothing rfl rfl,
  ⟨.nothing rfl rfl,
  ⟨.nothing rfl rfl,
  ⟨.nothing rfl rfl,
  ⟨.nothing rfl rfl,
  ⟨.nothing rfl rfl,
  ⟨.nothing rfl rfl,
  ⟨.nothing rfl rfl,
  ⟨.nothing rfl rfl,
  ⟨.ofOp rfl rfl (opIndexByte_ok Try.func220 (by kernel_rfl) (by kernel_rfl) (by kernel_rfl) (by kernel_rfl)),
  ⟨.nothing rfl rfl,
  ⟨.nothing rfl rfl,
  ⟨.nothing rfl rfl,
  ⟨.nothing rfl rfl,
  ⟨.nothing rfl rfl,
  ⟨.nothing rfl rfl,
  ⟨.nothing rfl rfl,
  ⟨.nothing rfl rfl,
  trivial⟩⟩⟩⟩⟩⟩⟩⟩⟩⟩⟩⟩⟩⟩⟩⟩⟩⟩⟩⟩⟩⟩⟩⟩⟩⟩⟩⟩⟩⟩⟩⟩⟩⟩⟩⟩⟩⟩⟩⟩⟩⟩⟩⟩⟩⟩⟩⟩⟩⟩⟩⟩⟩⟩⟩⟩⟩⟩⟩⟩⟩⟩⟩⟩⟩⟩⟩⟩⟩⟩⟩⟩⟩⟩⟩⟩⟩⟩⟩⟩⟩⟩⟩⟩⟩⟩⟩⟩⟩⟩⟩⟩⟩⟩⟩⟩⟩⟩⟩⟩⟩⟩⟩⟩⟩⟩⟩⟩⟩⟩⟩⟩⟩⟩⟩⟩⟩⟩⟩⟩⟩⟩⟩⟩⟩⟩⟩⟩⟩⟩⟩⟩⟩⟩⟩⟩⟩⟩⟩⟩⟩⟩⟩⟩⟩⟩⟩)
end Go.Proofs.Ytdblhdpnllckhaa.AE
end
section
namespace Go.Proofs.Ytdblhdpnllckhaa.AE.factsOrder
open Go Go.ChangeShapes Go.WideShapes Go.ChangeAt Go.RowKit
open Go.ChangeMaps (open_string shut_string)
set_option linter.unusedVariables false
def Pure : Prop := ∀ (x0 : den ((.list (.prod (.int .i64) (.prod .str (.prod .str .str)))))) (x1 : den .str) (x2 : den .str), Gd ((.list (.prod (.int .i64) (.prod .str (.prod .str .str))))) x0 → Gd .str x1 → Gd .str x2 → ∃ K, F.pleachlaw27_FactsOrder K x0 x1 x2 = some true
set_option maxRecDepth 100000 in
theorem lifted (pure : Pure) (os : Os) (started : os.Started) (H : Type) (enc : TypeId × Value → H) :
    ReturnsInHanded {} Try.checked os 5 .any (Rows.factsOrderSpec.pre6 enc Try.prog Try.f5 Rows.factsOrderRow.domain false) (Rows.factsOrderSpec.post enc Try.prog Try.f5 false true false false) := by
  refine returnsInHanded_of_change_sized (C := Try.checked) own started (by kernel_rfl) Try.func5
    (ChangeSpec.witness6 (enc := enc) (C := Try.checked) false ⟨#[], #[.slice none 0 0, .string ByteArray.empty, .string ByteArray.empty], []⟩ 8 (by kernel_rfl) (by kernel_rfl) (by kernel_rfl) (by kernel_rfl)) ?_
  intro W base args ds gs before hval0 hW hcnd hsz0 _
  have hsz : (DataW.weightsEach Try.prog (Try.f5.params.toList ++ Rows.factsOrderSpec.plain.varTypes Try.prog) (ds ++ gs)).all (· ≤ reachBytes) = true := hsz0
  have hval : ∀ (j : Nat) t v, Try.f5.params[j]? = some t → args[j]? = some v → Value.okWide Try.prog W .any base t v := hval0
  have hW' := hW
  obtain ⟨p, q, hA0, hV, rfl, hfz, hnd⟩ := hW
  have hA : DataW.TrodAll enc Try.prog W 0 (fun _ => true) true Try.f5.params.toList args.toList ds p := hA0
  rw [Try.params5] at hA hval hsz
  obtain ⟨v0, vs0, d0, ds0, p0, q0, hargs, rfl, rfl, h0, r0⟩ := trodAll_cons hA
  obtain ⟨v1, vs1, d1, ds1, p1, q1, rfl, rfl, rfl, h1, r1⟩ := trodAll_cons r0
  obtain ⟨v2, vs2, d2, ds2, p2, q2, rfl, rfl, rfl, h2, r2⟩ := trodAll_cons r1
  obtain ⟨rfl, rfl, rfl⟩ := trodAll_nil r2
  obtain rfl : args = #[v0, v1, v2] := by cases args; simp_all
  obtain ⟨rfl, rfl⟩ := trodVars_none hV
  have k0 := h0
  have lt0 : ∀ x ∈ p0, x.block < W.heap.size := by obtain ⟨m, hm⟩ := k0; exact DataW.trod_lt m _ _ _ hm
  obtain ⟨a0, len0, cap0, rfl⟩ := okWide_slice Try.underlying28 (hval 0 28 v0 rfl rfl)
  obtain ⟨fuel0, hf0⟩ := h0
  obtain ⟨x0, S0, G0⟩ := fitT_ok (O := OX NoX [] []) (fun b => own_none) 20 28 ((.list (.prod (.int .i64) (.prod .str (.prod .str .str))))) (by kernel_rfl) fuel0 _ _ hf0 (fun m hm => by have hq := weights_each hsz (j := 0) (t := 28) rfl rfl m hm; exact of_decide_eq_true hq)
  obtain ⟨x1, rfl, rfl, rfl, y1⟩ := open_string Try.underlying9 (hval 1 9 v1 rfl rfl) h1
  have G1 : Gd .str x1 := by
    have z := sized_string hsz (j := 1) (t := 9) rfl rfl
    rw [Array.length_toList] at z
    exact z
  obtain ⟨x2, rfl, rfl, rfl, y2⟩ := open_string Try.underlying9 (hval 2 9 v2 rfl rfl) h2
  have G2 : Gd .str x2 := by
    have z := sized_string hsz (j := 2) (t := 9) rfl rfl
    rw [Array.length_toList] at z
    exact z
  obtain ⟨K, hk⟩ := pure x0 x1 x2 G0 G1 G2
  have ha : AV1sR (OX NoX [] []) W [] [.sc (.list ((.prod (.int .i64) (.prod .str (.prod .str .str)))) x0 false), .sc (.val (.string x1)), .sc (.val (.string x2))] (#[.slice a0 len0 cap0, .string x1, .string x2] : Array Value).toList := .cons (arg_sc S0 rfl) (.cons (.sc (.val _)) (.cons (.sc (.val _)) ⟨rfl, by simp⟩))
  refine (law_calls (good Try.prog sg extok mix num K) (f := 5) (t := (true : Bool)) (b := true) hk rfl (fun O w ρ vals σ v h hv => bool_of h hv) ha).mono fun e W' ⟨he, hd⟩ => ?_
  have bel : Below W.heap.size W W' := hd
  subst he
  exact ⟨_, rfl, _, _, _, [], _, [], hW', trodAll_mk1 (shut_bool Try.underlying4 _), (trodAll_cons_mk (Below.trod laidOut (by kernel_rfl) (of_decide_eq_true (by kernel_rfl)) k0 bel lt0) (trodAll_cons_mk (shut_string Try.underlying9 y1) (trodAll_cons_mk (shut_string Try.underlying9 y2) trodAll_mk0))), rfl, bel.frame _, fun h => by cases h⟩
theorem over (pure : Pure) : Rows.factsOrderRow.holds Try.pinned (OpenSpec.ofChange Rows.factsOrderSpec) :=
  OpenClaim.holds_of_wide 5 Try.f5 rfl rfl rfl rfl rfl rfl rfl ⟨rfl, rfl, rfl, rfl, rfl⟩ rfl rfl rfl rfl rfl (by kernel_rfl) Try.func5 (by kernel_rfl)
    (of_decide_eq_true (by kernel_rfl)) (by unfold Func.isWrapper; first | (rw [if_pos (by decide +kernel)]; kernel_rfl) | (rw [if_neg (by decide +kernel)]; exact ⟨rfl, rfl⟩))
    (fun os started H enc _ => lifted pure os started H enc)
theorem proved (pure : Pure) : Rows.FactsOrderSaid := over pure
end Go.Proofs.Ytdblhdpnllckhaa.AE.factsOrder
end
