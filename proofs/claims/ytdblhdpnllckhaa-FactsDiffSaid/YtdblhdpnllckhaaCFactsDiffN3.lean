/- The evaluator of the program's form, its soundness, the functions of the given program as it evaluates them, and laws on these. Conditions: as each theorem says. -/
import Derived.Test.YtdblhdpnllckhaaCFactsDiffN2
import Derived.Test.YtdblhdpnllckhaaProg
import Derived.Test.YtdblhdpnllckhaaRows
import Derived.WalkKit
import Derived.ProofKit
import Derived.OpenShut
import Derived.ShutString
import Derived.ChangeOld
import Derived.Below
import Derived.SizedLaws
section
set_option linter.unusedVariables false
set_option maxRecDepth 100000
namespace Go.Proofs.Ytdblhdpnllckhaa.AE
open Go
abbrev TEntry : Type := ByteArray × ByteArray
abbrev sEntry : Sh := (.prod .str .str)
abbrev sEdit : Sh := (.prod .str (.prod .str .bool))
abbrev TValue : Type := Int × Int × ByteArray
abbrev sValue : Sh := (.prod (.int .i64) (.prod (.int .i64) .str))
abbrev TFact : Type := Int × ByteArray × TEntry
abbrev sFact : Sh := (.prod (.int .i64) (.prod .str sEntry))
abbrev TProp : Type := ByteArray × TValue
abbrev sProp : Sh := (.prod .str sValue)
abbrev sScan : Sh := (.prod .str (.prod (.int .i64) (.prod (.int .i64) .bool)))
abbrev TChange : Type := Int × ByteArray × ByteArray × Bool × Bool × TEntry
abbrev sChange : Sh := (.prod (.int .i64) (.prod .str (.prod .str (.prod .bool (.prod .bool sEntry)))))
abbrev TNode : Type := ByteArray × (List ByteArray) × List TProp
abbrev sNode : Sh := (.prod .str (.prod (.list .str) (.list sProp)))
abbrev TEdge : Type := ByteArray × ByteArray × TNode
abbrev sEdge : Sh := (.prod .str (.prod .str sNode))
abbrev TGraph : Type := (List TNode) × List TEdge
abbrev sGraph : Sh := (.prod (.list sNode) (.list sEdge))
def sgT : List (Nat × Sig) := [
  (3, { ps := [(.agg sGraph)], vals := [.sc .bool] }),
  (4, { ps := [(.sc (.list sFact)), (.sc (.list sFact)), (.sc (.list sChange))], vals := [.sc .bool] }),
  (5, { ps := [(.sc (.list sFact)), .raw, .raw], vals := [.sc .bool] }),
  (8, { ps := [(.agg sGraph)], vals := [.sc .bool] }),
  (11, { ps := [(.agg sGraph)], vals := [.sc .bool] }),
  (12, { ps := [(.agg sGraph)], vals := [.sc .bool] }),
  (13, { vals := [.sc .bool] }),
  (14, { ps := [(.agg sGraph)], vals := [.own sFact], coer := [(3, (.own sFact))], excl := [(13, [0])] }),
  (15, { ps := [(.sc (.list sFact)), (.sc (.list sFact))], vals := [.sc .bool] }),
  (16, { ps := [(.agg sGraph)], vals := [.own sFact], coer := [(3, (.own sFact))], excl := [(24, [1]), (47, [0])] }),
  (17, { ps := [(.sc (.list sFact))], vals := [.sc (.int .i64)] }),
  (18, { ps := [(.sc (.list sFact))], vals := [.sc .bool] }),
  (19, { ps := [(.sc (.list sFact))], vals := [.sc .bool] }),
  (20, { ps := [(.sc (.list sChange)), (.sc (.list sChange))], vals := [.sc .bool] }),
  (21, { ps := [(.sc (.list sFact)), (.sc (.list sFact))], vals := [.own sChange], coer := [(5, (.own sChange))], excl := [(11, [1]), (12, [0]), (15, [0, 1]), (16, [0]), (19, [1])] }),
  (22, { ps := [(.sc (.list sFact)), (.sc (.list sFact))], vals := [.own sChange], coer := [(5, (.own sChange))] }),
  (23, { ps := [(.agg sFact), (.agg sFact)], vals := [.sc .bool] }),
  (24, { ps := [(.sc (.list sFact)), (.sc (.list sChange))], vals := [.own sFact], coer := [(5, (.own sFact))], excl := [(7, [0])] }),
  (25, { ps := [(.sc (.list sFact)), (.sc (.list sChange))], vals := [.own sFact], coer := [(5, (.own sFact)), (8, (.own sFact))] }),
  (26, { ps := [(.agg sFact), (.agg sFact)], vals := [.sc (.int .i64)] }),
  (27, { vals := [.sc .str] }),
  (28, { tup := true, vals := [.sc .str, .sc .str] }),
  (29, { tup := true, vals := [.sc .str, .sc .str] }),
  (30, { ps := [(.agg sGraph)], vals := [.sc (.int .i64)] }),
  (38, { ps := [(.sc (.list .str)), (.sc (.list .str))], vals := [.sc .bool] }),
  (39, { ps := [(.sc (.list sProp)), (.sc (.list sProp))], vals := [.sc .bool] }),
  (41, { ps := [(.agg sGraph)], vals := [.sc (.int .i64)] }),
  (42, { ps := [(.agg sGraph), (.agg sGraph)], vals := [.sc .bool] }),
  (43, { ps := [(.agg sGraph)], vals := [.sc .bool] }),
  (44, { vals := [.sc .bool] }),
  (45, { ps := [(.agg sGraph)], tup := true, vals := [.agg (.prod (.list sEntry) (.prod (.list sEntry) (.prod (.list sEntry) (.list sEntry)))), .sc (.int .i64)] }),
  (46, { ps := [(.agg sGraph)], tup := true, vals := [.sc (.list sEntry), .sc (.list sEntry), .sc (.list sEntry), .sc (.list sEntry), .sc (.int .i64)], coer := [(7, (.sc (.list sEntry))), (8, (.sc (.list sEntry))), (9, (.sc (.list sEntry))), (10, (.sc (.list sEntry)))] }),
  (47, { ps := [(.sc (.list sEntry)), (.sc (.list sEntry))], vals := [.sc .bool] }),
  (48, { ps := [(.sc (.list sNode))], tup := true, vals := [.own sEntry, .sc (.int .i64)], coer := [(4, (.own sEntry))] }),
  (49, { ps := [(.sc (.list sEdge))], tup := true, vals := [.own sEntry, .sc (.int .i64)], coer := [(4, (.own sEntry))] }),
  (50, { ps := [(.sc (.list sEdge))], tup := true, vals := [.own sEntry, .sc (.int .i64)] }),
  (51, { ps := [(.sc (.list sEdge))], tup := true, vals := [.own sEntry, .sc (.int .i64)] }),
  (55, { ps := [(.sc (.list sEntry))], tup := true, vals := [.own sNode, .sc (.int .i64)], coer := [(4, (.own sNode))] }),
  (56, { ps := [(.sc (.list sEntry))], tup := true, vals := [.own sEdge, .sc (.int .i64)], coer := [(4, (.own sEdge))] }),
  (57, { ps := [(.sc (.list .str)), (.sc (.list sProp))], vals := [.sc (.int .i64)] }),
  (58, { ps := [.raw, .raw, .raw, (.sc (.list .str)), (.sc (.list sProp))], vals := [.own sFact], coer := [(11, (.own sFact))] }),
  (59, { ps := [(.own sFact), .raw], tup := true, blks := [.elems 0 sFact] }),
  (60, { ps := [(.agg sValue)], vals := [.sc .str] }),
  (61, { ps := [(.agg sFact)], vals := [.agg sChange] }),
  (62, { ps := [(.sc (.list sFact)), (.sc (.list sFact))], vals := [.own sFact], coer := [(5, (.own sFact))] }),
  (63, { ps := [(.sc (.list sFact)), (.agg sFact)], tup := true, vals := [.sc .str, .sc .bool] }),
  (64, { ps := [(.sc (.list (.int .i64)))], vals := [.sc (.int .i64)] }),
  (65, { vals := [.sc (.int .i64)] }),
  (66, { vals := [.sc (.int .i64)] }),
  (67, { tup := true, vals := [.sc .str, .sc .str, .sc .bool] }),
  (68, { ps := [(.agg sNode)], vals := [.sc (.int .i64)] }),
  (69, { ps := [(.agg sEdge)], vals := [.sc (.int .i64)] }),
  (70, { ps := [(.agg sGraph), .raw], vals := [.sc (.int .i64)] }),
  (71, { vals := [.sc .bool] }),
  (72, { ps := [(.agg sValue)], vals := [.sc .bool] }),
  (73, { vals := [.sc (.int .i64)] }),
  (85, { ps := [(.agg sNode)], vals := [.sc (.int .i64)] }),
  (86, { ps := [(.agg sEdge)], vals := [.sc (.int .i64)] }),
  (87, { ps := [(.agg sGraph), .raw], tup := true, vals := [.sc (.int .i64), .sc .bool] }),
  (88, { ps := [(.agg sNode), (.agg sNode)], vals := [.sc .bool] }),
  (89, { ps := [(.agg sEdge), (.agg sEdge)], vals := [.sc .bool] }),
  (90, { tup := true, vals := [.sc .str, .sc (.int .i64)] }),
  (91, { ps := [(.sc (.list sEntry)), .raw, .raw], vals := [.sc (.list sEntry)] }),
  (92, { ps := [(.agg sNode)], vals := [.sc .str] }),
  (93, { ps := [(.agg sEdge)], vals := [.sc .str] }),
  (94, { ps := [(.agg sNode)], tup := true, vals := [.sc .str, .sc (.int .i64)] }),
  (95, { ps := [(.own sEntry)], vals := [.own sEntry] }),
  (96, { ps := [(.agg sEdge)], tup := true, vals := [.sc .str, .sc (.int .i64)] }),
  (97, { ps := [(.sc (.list sEdge)), .raw], tup := true, vals := [.own sEntry, .sc (.int .i64)], coer := [(6, (.own sEntry))] }),
  (98, { ps := [(.agg sEdge)], tup := true, vals := [.sc .str, .sc .str] }),
  (99, { ps := [(.agg sEdge)], tup := true, vals := [.sc .str, .sc .str] }),
  (109, { tup := true, vals := [.agg sNode, .sc (.int .i64)] }),
  (110, { tup := true, vals := [.agg sEdge, .sc (.int .i64)] }),
  (111, { ps := [(.agg sValue)], tup := true, vals := [.sc .str, .sc (.int .i64)] }),
  (112, { ps := [(.own sFact), .raw, .raw], tup := true, blks := [.elems 0 sFact] }),
  (113, { vals := [.sc .str] }),
  (114, { vals := [.sc (.int .u64)] }),
  (115, { vals := [.sc .str] }),
  (116, { vals := [.sc .bool] }),
  (117, { vals := [.sc (.int .i64)] }),
  (118, { tup := true, vals := [.sc .str, .sc .str, .sc .bool] }),
  (119, { ps := [(.sc (.list .str)), (.sc (.list sProp))], vals := [.sc (.int .i64)] }),
  (120, { vals := [.sc .bool] }),
  (121, { ps := [(.agg sValue)], vals := [.sc (.int .i64)] }),
  (134, { ps := [(.sc (.list .str)), (.sc (.list sProp))], vals := [.sc (.int .i64)] }),
  (135, { ps := [(.sc (.list sNode)), .raw, .raw], tup := true, vals := [.sc (.int .i64), .sc .bool] }),
  (136, { ps := [(.agg sNode), .raw], vals := [.sc (.int .i64)] }),
  (137, { vals := [.sc (.int .i64)] }),
  (138, { ps := [(.sc (.list sEntry)), (.sc (.list sEdit))], vals := [.sc (.list sEntry)], coer := [(0, (.sc (.list sEntry)))] }),
  (139, { ps := [(.sc (.list .str)), (.sc (.list sProp))], vals := [.sc .str] }),
  (140, { ps := [(.sc (.list .str)), (.sc (.list sProp))], vals := [.sc .str] }),
  (141, { ps := [(.own sEntry), .raw], tup := true, blks := [.elems 0 sEntry] }),
  (142, { ps := [(.agg sEntry), (.agg sEntry)], vals := [.sc (.int .i64)] }),
  (143, { vals := [.sc .str] }),
  (145, { vals := [.ptr 230 sScan] }),
  (146, { tup := true, vals := [.own .str, .own sProp], blks := [.cells 0 sScan], coer := [(2, (.own .str)), (3, (.own sProp))] }),
  (147, { vals := [.sc (.int .i64)], blks := [.cells 0 sScan], excl := [(1, [0])] }),
  (148, { vals := [.sc .str], blks := [.cells 0 sScan] }),
  (149, { vals := [.sc .str] }),
  (150, { ps := [(.own sFact), .raw, .raw, .raw], tup := true, blks := [.elems 0 sFact], excl := [(6, [0])] }),
  (151, { ps := [(.own sFact), .raw, .raw, .raw, .raw], tup := true, blks := [.elems 0 sFact], excl := [(11, [0]), (23, [0])] }),
  (152, { vals := [.own (.int .i64)] }),
  (153, { op := some opCompare }),
  (154, { vals := [.sc (.int .i64)] }),
  (155, { ps := [(.sc (.list .str))], vals := [.sc (.int .i64)] }),
  (156, { ps := [(.sc (.list sProp))], vals := [.sc (.int .i64)] }),
  (172, { ps := [(.sc (.list .str))], vals := [.sc (.int .i64)] }),
  (173, { ps := [(.sc (.list sProp))], vals := [.sc (.int .i64)] }),
  (174, { vals := [.sc .bool] }),
  (175, { ps := [(.sc (.list sEntry)), (.agg sEdit)], vals := [.own sEntry], coer := [(5, (.own sEntry))] }),
  (176, { vals := [.sc .str] }),
  (177, { vals := [.sc .str] }),
  (178, { ps := [(.own sEntry), .raw, .raw, .raw, .raw], tup := true, blks := [.elems 0 sEntry] }),
  (179, { vals := [.sc (.int .i64)] }),
  (180, { vals := [.sc .str] }),
  (182, { vals := [.sc (.int .i64)], blks := [.cells 0 sScan] }),
  (183, { vals := [.agg sValue], blks := [.cells 0 sScan] }),
  (184, { vals := [.sc (.int .i64)], blks := [.cells 0 sScan] }),
  (185, { vals := [.sc .str], blks := [.cells 0 sScan] }),
  (186, { vals := [.sc .str] }),
  (187, { ps := [(.own sFact), .raw, .raw, .raw, .raw], tup := true, blks := [.elems 0 sFact] }),
  (188, { vals := [.sc (.int .i64)] }),
  (203, { ps := [(.own sEntry), .raw, .raw, .raw], tup := true, blks := [.elems 0 sEntry], excl := [(6, [0])] }),
  (204, { ps := [(.own sEntry), .raw, .raw, .raw], tup := true, blks := [.elems 0 sEntry], excl := [(10, [0])] }),
  (205, { ps := [(.own sEntry), .raw, .raw, .raw], tup := true, blks := [.elems 0 sEntry], excl := [(10, [0])] }),
  (206, { ps := [(.own sEntry), .raw, .raw, .raw], tup := true, vals := [.sc (.int .i64), .sc (.int .i64)], blks := [.elems 0 sEntry] }),
  (207, { ps := [(.own sEntry), .raw, .raw, .raw], tup := true, blks := [.elems 0 sEntry], excl := [(3, [0])] }),
  (208, { ps := [(.own sEntry), .raw, .raw, .raw], vals := [.sc .bool], blks := [.elems 0 sEntry], excl := [(11, [0]), (17, [0]), (23, [0])] }),
  (209, { ps := [(.own sEntry), .raw, .raw, .raw, .raw], vals := [.sc (.int .i64)], blks := [.elems 0 sEntry], excl := [(1, [0]), (8, [0])] }),
  (210, { ps := [(.own sEntry), .raw, .raw, .raw, .raw], tup := true, vals := [.sc (.int .i64), .sc .bool], blks := [.elems 0 sEntry], excl := [(1, [0]), (8, [0]), (10, [0]), (18, [0]), (21, [0])] }),
  (212, { vals := [.sc (.int .i64)] }),
  (213, { tup := true, vals := [.sc (.int .u64), .sc (.int .i64), .sc .bool] }),
  (214, { tup := true, blks := [.cells 0 sScan] }),
  (215, { vals := [.sc (.int .i64)], blks := [.cells 0 sScan] }),
  (216, { vals := [.sc (.int .i64)], blks := [.cells 0 sScan] }),
  (217, { tup := true, blks := [.cells 0 sScan] }),
  (218, { vals := [.sc (.int .u64)] }),
  (219, { ps := [(.own sFact), .raw, .raw, .raw, .raw], tup := true, blks := [.elems 0 sFact], excl := [(3, [0])] }),
  (220, { op := some opIndexByte }),
  (228, { ps := [(.own sEntry), .raw, .raw, .raw, .raw], tup := true, blks := [.elems 0 sEntry], excl := [(6, [0])] }),
  (229, { vals := [.sc (.int .u64)] }),
  (230, { vals := [.sc (.int .u64)], blks := [.cells 0 (.int .u64)], excl := [(1, [0]), (2, [0]), (3, [0])] }),
  (231, { ps := [(.own sEntry), .raw, .raw, .raw], vals := [.sc (.int .i64)], blks := [.elems 0 sEntry, .cells 1 (.int .i64)] }),
  (232, { ps := [(.own sEntry), .raw, .raw, .raw, .raw, .raw], vals := [.sc (.int .i64)], blks := [.elems 0 sEntry, .cells 1 (.int .i64)] }),
  (233, { tup := true, vals := [.sc (.int .i64), .sc (.int .i64), .sc .bool] }),
  (237, { ps := [(.own sEntry), .raw, .raw, .raw, .raw], tup := true, vals := [.sc (.int .i64), .sc (.int .i64)], blks := [.elems 0 sEntry, .cells 1 (.int .i64)] }),
  (238, { vals := [.sc (.int .i64)] })]
abbrev sg : FuncId → Sig := sigOf sgT
noncomputable def F.pleachref27_Few (K : Nat) (a0 : List TFact) : Option (Bool) := evFn Try.prog sg K 18 [.sc (.list sFact a0 false)] []
noncomputable def F.pleachref27_Few.at (K : Nat) (p ns : List Nat) (s : St) : Option (Bool) := atFn Try.prog sg K 18 0 p ns s
noncomputable def F.pleachref27_Few.in (K : Nat) (H : List Nat → List Nat → St → Option (Bool)) (p ns : List Nat) (s : St) : Option (Bool) := inFn Try.prog sg K 18 0 [] H p ns s
theorem F.pleachref27_Few.in_eq K p ns s : F.pleachref27_Few.at K p ns s = F.pleachref27_Few.in K (F.pleachref27_Few.at K) p ns s := atFn_eq (P := Try.prog) (sg := sg) (K := K) (f := 18) (m := 0) [] p ns s
theorem F.pleachref27_Few.in_main K a0 : F.pleachref27_Few (K + 1) a0 = F.pleachref27_Few.in K (F.pleachref27_Few.at K) [] [] ⟨slots [.sc (.list sFact a0 false)] 0, []⟩ := evFn_eq (P := Try.prog) (sg := sg) (K := K) (f := 18) (args := [.sc (.list sFact a0 false)]) (σ := []) [] (by kernel_rfl)
def F.pleachref27_Few.l11010.st (a0 : List TFact) (x0 : Int) (x1 : Int) : St := ⟨[(0, vL sFact a0), (3, vI x0), (4, vI x1)], []⟩
noncomputable def F.pleachref27_Few.l11010 (K n0 : Nat) (a0 : List TFact) (x0 : Int) (x1 : Int) := F.pleachref27_Few.at K [1, 1, 0, 1, 0] [n0] (F.pleachref27_Few.l11010.st a0 x0 x1)
noncomputable def F.pleachref27_Few.l11010.B (c0 : (List TFact) → (Int) → (Int) → Option (Bool)) (a0 : List TFact) (x0 : Int) (x1 : Int) : Option (Bool) :=
    (bif (decide (x1 < (a0.length : Int))) then (bif (decide (x1 ≤ 120)) then (guardK (decide (0 ≤ x1) && decide (x1 < (a0.length : Int))) (guardK (decide (0 ≤ x1) && decide (x1 < (a0.length : Int))) (guardK (decide (0 ≤ x1) && decide (x1 < (a0.length : Int))) (c0 a0 (w64 ((w64 ((w64 (x0 + (if 5000 < ((((rd sFact a0 x1.toNat).2).1).size : Int) then 5000 else ((((rd sFact a0 x1.toNat).2).1).size : Int)))) + (if 5000 < (((((rd sFact a0 x1.toNat).2).2).1).size : Int) then 5000 else (((((rd sFact a0 x1.toNat).2).2).1).size : Int)))) + (if 5000 < (((((rd sFact a0 x1.toNat).2).2).2).size : Int) then 5000 else (((((rd sFact a0 x1.toNat).2).2).2).size : Int)))) (w64 (x1 + 1)))))) else (bif (decide ((a0.length : Int) ≤ 120)) then (some (decide (x0 ≤ 5000))) else (some false))) else (bif (decide ((a0.length : Int) ≤ 120)) then (some (decide (x0 ≤ 5000))) else (some false)))
theorem F.pleachref27_Few.l11010.eq K n0 a0 x0 x1 : F.pleachref27_Few.l11010 K (n0 + 1) a0 x0 x1 = F.pleachref27_Few.l11010.B (F.pleachref27_Few.l11010 K n0) a0 x0 x1 := (F.pleachref27_Few.in_eq K [1, 1, 0, 1, 0] [n0 + 1] (F.pleachref27_Few.l11010.st a0 x0 x1)).trans ((show ∀ H, F.pleachref27_Few.in K H [1, 1, 0, 1, 0] [n0 + 1] (F.pleachref27_Few.l11010.st a0 x0 x1) = F.pleachref27_Few.l11010.B (fun a0 x0 x1 => H [1, 1, 0, 1, 0] [n0] (F.pleachref27_Few.l11010.st a0 x0 x1)) a0 x0 x1 from by intro H; kernel_rfl) (F.pleachref27_Few.at K))
noncomputable def F.pleachref27_Few.B (c0 : (List TFact) → (Int) → (Int) → Option (Bool)) (a0 : List TFact) : Option (Bool) :=
    (c0 a0 0 0)
theorem F.pleachref27_Few.eq K a0 : F.pleachref27_Few (K + 1) a0 = F.pleachref27_Few.B (F.pleachref27_Few.l11010 K K) a0 := (F.pleachref27_Few.in_main K a0).trans ((show ∀ H, F.pleachref27_Few.in K H [] [] ⟨slots [.sc (.list sFact a0 false)] 0, []⟩ = F.pleachref27_Few.B (fun a0 x0 x1 => H [1, 1, 0, 1, 0] [K] (F.pleachref27_Few.l11010.st a0 x0 x1)) a0 from by intro H; kernel_rfl) (F.pleachref27_Few.at K))
noncomputable def V.pleachref27_Few.l11010 (a0 : List TFact) (x0 : Int) (x1 : Int) := lim fun v => F.pleachref27_Few.l11010 (v 0) (v 1) a0 x0 x1
noncomputable def V.pleachref27_Few (a0 : List TFact) := lim fun v => F.pleachref27_Few (v 0) a0
theorem V.pleachref27_Few.l11010.of a0 x0 x1 {r} (h : F.pleachref27_Few.l11010.B V.pleachref27_Few.l11010 a0 x0 x1 = some r) : V.pleachref27_Few.l11010 a0 x0 x1 = some r :=
  App.to (App.step 1 (fun v => F.pleachref27_Few.l11010.eq (v 0) (v 1) a0 x0 x1) (by unfold F.pleachref27_Few.l11010.B; repeat' first | exact App.val | exact App.no | exact App.lim | apply App.cond | apply App.guard | apply App.meet | apply App.ite | refine App.bind ?_ fun _ => ?_)) h
theorem V.pleachref27_Few.of a0 {r} (h : F.pleachref27_Few.B V.pleachref27_Few.l11010 a0 = some r) : V.pleachref27_Few a0 = some r :=
  App.to (App.step 0 (fun v => F.pleachref27_Few.eq (v 0) a0) (by unfold F.pleachref27_Few.B; repeat' first | exact App.val | exact App.no | exact App.lim | exact (App.enter 1 App.lim) | apply App.cond | apply App.guard | apply App.meet | apply App.ite | refine App.bind ?_ fun _ => ?_)) h
noncomputable def F.name_fits (K : Nat) (a0 : Int) : Option (Bool) := evFn Try.prog sg K 120 [.sc (.val (.int .u8 a0))] []
noncomputable def F.name_fits.B (a0 : Int) : Option (Bool) :=
    (bif (decide (a0 ≥ 97)) then (bif (decide (a0 ≤ 122)) then (some true) else (bif (decide (a0 ≥ 48)) then (bif (decide (a0 ≤ 57)) then (some true) else (some (a0 == 45))) else (some (a0 == 45)))) else (bif (decide (a0 ≥ 48)) then (bif (decide (a0 ≤ 57)) then (some true) else (some (a0 == 45))) else (some (a0 == 45))))
theorem F.name_fits.eq K a0 : F.name_fits (K + 1) a0 = F.name_fits.B a0 := by kernel_rfl
noncomputable def V.name_fits (a0 : Int) := lim fun v => F.name_fits (v 0) a0
theorem V.name_fits.of a0 {r} (h : F.name_fits.B a0 = some r) : V.name_fits a0 = some r :=
  App.to (App.step 0 (fun v => F.name_fits.eq (v 0) a0) (by unfold F.name_fits.B; repeat' first | exact App.val | exact App.no | exact App.lim | apply App.cond | apply App.guard | apply App.meet | apply App.ite | refine App.bind ?_ fun _ => ?_)) h
noncomputable def F.name_Check (K : Nat) (a0 : ByteArray) : Option (Int) := evFn Try.prog sg K 73 [.sc (.val (.string a0))] []
noncomputable def F.name_Check.at (K : Nat) (p ns : List Nat) (s : St) : Option (Int) := atFn Try.prog sg K 73 0 p ns s
noncomputable def F.name_Check.in (K : Nat) (H : List Nat → List Nat → St → Option (Int)) (p ns : List Nat) (s : St) : Option (Int) := inFn Try.prog sg K 73 0 [] H p ns s
theorem F.name_Check.in_eq K p ns s : F.name_Check.at K p ns s = F.name_Check.in K (F.name_Check.at K) p ns s := atFn_eq (P := Try.prog) (sg := sg) (K := K) (f := 73) (m := 0) [] p ns s
theorem F.name_Check.in_main K a0 : F.name_Check (K + 1) a0 = F.name_Check.in K (F.name_Check.at K) [] [] ⟨slots [.sc (.val (.string a0))] 0, []⟩ := evFn_eq (P := Try.prog) (sg := sg) (K := K) (f := 73) (args := [.sc (.val (.string a0))]) (σ := []) [] (by kernel_rfl)
def F.name_Check.l11010.st (a0 : ByteArray) (x0 : Int) : St := ⟨[(0, vS a0), (12, vI (a0.size : Int)), (13, vI x0)], []⟩
noncomputable def F.name_Check.l11010 (K n0 : Nat) (a0 : ByteArray) (x0 : Int) := F.name_Check.at K [1, 1, 0, 1, 0] [n0] (F.name_Check.l11010.st a0 x0)
noncomputable def F.name_Check.l11010.B (c0 : (Int) → Option (Bool)) (c1 : (ByteArray) → (Int) → Option (Int)) (a0 : ByteArray) (x0 : Int) : Option (Int) :=
    (bif (decide (x0 < (a0.size : Int))) then (guardK (decide (0 ≤ x0) && decide (x0 < (a0.size : Int))) ((c0 (byteAt a0 x0)).bind fun t0 => (bif (!t0) then (some 2) else (c1 a0 (w64 (x0 + 1)))))) else (some 0))
theorem F.name_Check.l11010.eq K n0 a0 x0 : F.name_Check.l11010 K (n0 + 1) a0 x0 = F.name_Check.l11010.B (F.name_fits K) (F.name_Check.l11010 K n0) a0 x0 := (F.name_Check.in_eq K [1, 1, 0, 1, 0] [n0 + 1] (F.name_Check.l11010.st a0 x0)).trans ((show ∀ H, F.name_Check.in K H [1, 1, 0, 1, 0] [n0 + 1] (F.name_Check.l11010.st a0 x0) = F.name_Check.l11010.B (F.name_fits K) (fun a0 x0 => H [1, 1, 0, 1, 0] [n0] (F.name_Check.l11010.st a0 x0)) a0 x0 from by intro H; kernel_rfl) (F.name_Check.at K))
noncomputable def F.name_Check.B (c0 : (ByteArray) → (Int) → Option (Int)) (a0 : ByteArray) : Option (Int) :=
    (bif (strEq a0 (⟨#[]⟩ : ByteArray)) then (some 2) else (bif (decide ((a0.size : Int) > 12)) then (some 2) else (c0 a0 0)))
theorem F.name_Check.eq K a0 : F.name_Check (K + 1) a0 = F.name_Check.B (F.name_Check.l11010 K K) a0 := (F.name_Check.in_main K a0).trans ((show ∀ H, F.name_Check.in K H [] [] ⟨slots [.sc (.val (.string a0))] 0, []⟩ = F.name_Check.B (fun a0 x0 => H [1, 1, 0, 1, 0] [K] (F.name_Check.l11010.st a0 x0)) a0 from by intro H; kernel_rfl) (F.name_Check.at K))
noncomputable def V.name_Check.l11010 (a0 : ByteArray) (x0 : Int) := lim fun v => F.name_Check.l11010 (v 0) (v 1) a0 x0
noncomputable def V.name_Check (a0 : ByteArray) := lim fun v => F.name_Check (v 0) a0
theorem V.name_Check.l11010.of a0 x0 {r} (h : F.name_Check.l11010.B V.name_fits V.name_Check.l11010 a0 x0 = some r) : V.name_Check.l11010 a0 x0 = some r :=
  App.to (App.step 1 (fun v => F.name_Check.l11010.eq (v 0) (v 1) a0 x0) (by unfold F.name_Check.l11010.B; repeat' first | exact App.val | exact App.no | exact App.lim | apply App.cond | apply App.guard | apply App.meet | apply App.ite | refine App.bind ?_ fun _ => ?_)) h
theorem V.name_Check.of a0 {r} (h : F.name_Check.B V.name_Check.l11010 a0 = some r) : V.name_Check a0 = some r :=
  App.to (App.step 0 (fun v => F.name_Check.eq (v 0) a0) (by unfold F.name_Check.B; repeat' first | exact App.val | exact App.no | exact App.lim | exact (App.enter 1 App.lim) | apply App.cond | apply App.guard | apply App.meet | apply App.ite | refine App.bind ?_ fun _ => ?_)) h
noncomputable def F.name_Row (K : Nat) (a0 : List ByteArray) : Option (Int) := evFn Try.prog sg K 172 [.sc (.list .str a0 false)] []
noncomputable def F.name_Row.at (K : Nat) (p ns : List Nat) (s : St) : Option (Int) := atFn Try.prog sg K 172 0 p ns s
noncomputable def F.name_Row.in (K : Nat) (H : List Nat → List Nat → St → Option (Int)) (p ns : List Nat) (s : St) : Option (Int) := inFn Try.prog sg K 172 0 [] H p ns s
theorem F.name_Row.in_eq K p ns s : F.name_Row.at K p ns s = F.name_Row.in K (F.name_Row.at K) p ns s := atFn_eq (P := Try.prog) (sg := sg) (K := K) (f := 172) (m := 0) [] p ns s
theorem F.name_Row.in_main K a0 : F.name_Row (K + 1) a0 = F.name_Row.in K (F.name_Row.at K) [] [] ⟨slots [.sc (.list .str a0 false)] 0, []⟩ := evFn_eq (P := Try.prog) (sg := sg) (K := K) (f := 172) (args := [.sc (.list .str a0 false)]) (σ := []) [] (by kernel_rfl)
def F.name_Row.l1010.st (a0 : List ByteArray) (x0 : Int) : St := ⟨[(0, vL .str a0), (6, vL .str a0), (7, vI (a0.length : Int)), (8, vI x0)], []⟩
noncomputable def F.name_Row.l1010 (K n0 : Nat) (a0 : List ByteArray) (x0 : Int) := F.name_Row.at K [1, 0, 1, 0] [n0] (F.name_Row.l1010.st a0 x0)
noncomputable def F.name_Row.l1010.B (c0 : (ByteArray) → Option (Int)) (c1 : (List ByteArray) → (Int) → Option (Int)) (a0 : List ByteArray) (x0 : Int) : Option (Int) :=
    (bif (decide (x0 < (a0.length : Int))) then (guardK (decide (0 ≤ x0) && decide (x0 < (a0.length : Int))) ((c0 (rd .str a0 x0.toNat)).bind fun t0 => (bif (t0 != 0) then (some t0) else (bif (decide (x0 > 0)) then (guardK (decide (0 ≤ (w64 (x0 - 1))) && decide ((w64 (x0 - 1)) < (a0.length : Int))) (bif (!strLt (rd .str a0 ((w64 (x0 - 1)).toNat)) (rd .str a0 x0.toNat)) then (some 4) else (c1 a0 (w64 (x0 + 1))))) else (c1 a0 (w64 (x0 + 1))))))) else (some 0))
theorem F.name_Row.l1010.eq K n0 a0 x0 : F.name_Row.l1010 K (n0 + 1) a0 x0 = F.name_Row.l1010.B (F.name_Check K) (F.name_Row.l1010 K n0) a0 x0 := (F.name_Row.in_eq K [1, 0, 1, 0] [n0 + 1] (F.name_Row.l1010.st a0 x0)).trans ((show ∀ H, F.name_Row.in K H [1, 0, 1, 0] [n0 + 1] (F.name_Row.l1010.st a0 x0) = F.name_Row.l1010.B (F.name_Check K) (fun a0 x0 => H [1, 0, 1, 0] [n0] (F.name_Row.l1010.st a0 x0)) a0 x0 from by intro H; kernel_rfl) (F.name_Row.at K))
noncomputable def F.name_Row.B (c0 : (List ByteArray) → (Int) → Option (Int)) (a0 : List ByteArray) : Option (Int) :=
    (c0 a0 0)
theorem F.name_Row.eq K a0 : F.name_Row (K + 1) a0 = F.name_Row.B (F.name_Row.l1010 K K) a0 := (F.name_Row.in_main K a0).trans ((show ∀ H, F.name_Row.in K H [] [] ⟨slots [.sc (.list .str a0 false)] 0, []⟩ = F.name_Row.B (fun a0 x0 => H [1, 0, 1, 0] [K] (F.name_Row.l1010.st a0 x0)) a0 from by intro H; kernel_rfl) (F.name_Row.at K))
noncomputable def V.name_Row.l1010 (a0 : List ByteArray) (x0 : Int) := lim fun v => F.name_Row.l1010 (v 0) (v 1) a0 x0
noncomputable def V.name_Row (a0 : List ByteArray) := lim fun v => F.name_Row (v 0) a0
theorem V.name_Row.l1010.of a0 x0 {r} (h : F.name_Row.l1010.B V.name_Check V.name_Row.l1010 a0 x0 = some r) : V.name_Row.l1010 a0 x0 = some r :=
  App.to (App.step 1 (fun v => F.name_Row.l1010.eq (v 0) (v 1) a0 x0) (by unfold F.name_Row.l1010.B; repeat' first | exact App.val | exact App.no | exact App.lim | apply App.cond | apply App.guard | apply App.meet | apply App.ite | refine App.bind ?_ fun _ => ?_)) h
theorem V.name_Row.of a0 {r} (h : F.name_Row.B V.name_Row.l1010 a0 = some r) : V.name_Row a0 = some r :=
  App.to (App.step 0 (fun v => F.name_Row.eq (v 0) a0) (by unfold F.name_Row.B; repeat' first | exact App.val | exact App.no | exact App.lim | exact (App.enter 1 App.lim) | apply App.cond | apply App.guard | apply App.meet | apply App.ite | refine App.bind ?_ fun _ => ?_)) h
noncomputable def F.value_Check (K : Nat) (a0 : TValue) : Option (Int) := evFn Try.prog sg K 121 [.agg [.val (.int .i64 a0.1), .val (.int .i64 a0.2.1), .val (.string a0.2.2)]] []
noncomputable def F.value_Check.B (a0 : TValue) : Option (Int) :=
    (bif (a0.1 == 1) then (bif (a0.2.1 == 0) then (bif (!(strEq a0.2.2 (⟨#[]⟩ : ByteArray))) then (some 2) else (some 0)) else (bif (a0.2.1 == 1) then (bif (!(strEq a0.2.2 (⟨#[]⟩ : ByteArray))) then (some 2) else (some 0)) else (some 2))) else (bif (a0.1 == 2) then (bif (!(strEq a0.2.2 (⟨#[]⟩ : ByteArray))) then (some 2) else (some 0)) else (bif (a0.1 == 3) then (bif (a0.2.1 == 0) then (bif (!(decide ((a0.2.2.size : Int) ≤ 64))) then (some 2) else (some 0)) else (some 2)) else (some 2))))
theorem F.value_Check.eq K a0 : F.value_Check (K + 1) a0 = F.value_Check.B a0 := by kernel_rfl
noncomputable def V.value_Check (a0 : TValue) := lim fun v => F.value_Check (v 0) a0
theorem V.value_Check.of a0 {r} (h : F.value_Check.B a0 = some r) : V.value_Check a0 = some r :=
  App.to (App.step 0 (fun v => F.value_Check.eq (v 0) a0) (by unfold F.value_Check.B; repeat' first | exact App.val | exact App.no | exact App.lim | apply App.cond | apply App.guard | apply App.meet | apply App.ite | refine App.bind ?_ fun _ => ?_)) h
noncomputable def F.elem_CheckProps (K : Nat) (a0 : List TProp) : Option (Int) := evFn Try.prog sg K 173 [.sc (.list sProp a0 false)] []
noncomputable def F.elem_CheckProps.at (K : Nat) (p ns : List Nat) (s : St) : Option (Int) := atFn Try.prog sg K 173 0 p ns s
noncomputable def F.elem_CheckProps.in (K : Nat) (H : List Nat → List Nat → St → Option (Int)) (p ns : List Nat) (s : St) : Option (Int) := inFn Try.prog sg K 173 0 [] H p ns s
theorem F.elem_CheckProps.in_eq K p ns s : F.elem_CheckProps.at K p ns s = F.elem_CheckProps.in K (F.elem_CheckProps.at K) p ns s := atFn_eq (P := Try.prog) (sg := sg) (K := K) (f := 173) (m := 0) [] p ns s
theorem F.elem_CheckProps.in_main K a0 : F.elem_CheckProps (K + 1) a0 = F.elem_CheckProps.in K (F.elem_CheckProps.at K) [] [] ⟨slots [.sc (.list sProp a0 false)] 0, []⟩ := evFn_eq (P := Try.prog) (sg := sg) (K := K) (f := 173) (args := [.sc (.list sProp a0 false)]) (σ := []) [] (by kernel_rfl)
def F.elem_CheckProps.l11010.st (a0 : List TProp) (x0 : Int) : St := ⟨[(0, vL sProp a0), (8, vL sProp a0), (9, vI (a0.length : Int)), (10, vI x0)], []⟩
noncomputable def F.elem_CheckProps.l11010 (K n0 : Nat) (a0 : List TProp) (x0 : Int) := F.elem_CheckProps.at K [1, 1, 0, 1, 0] [n0] (F.elem_CheckProps.l11010.st a0 x0)
noncomputable def F.elem_CheckProps.l11010.B (c0 : (ByteArray) → Option (Int)) (c1 : (TValue) → Option (Int)) (c2 : (List TProp) → (Int) → Option (Int)) (a0 : List TProp) (x0 : Int) : Option (Int) :=
    (bif (decide (x0 < (a0.length : Int))) then (guardK (decide (0 ≤ x0) && decide (x0 < (a0.length : Int))) ((c0 ((rd sProp a0 x0.toNat).1)).bind fun t0 => (bif (t0 != 0) then (some 2) else ((c1 (((rd sProp a0 x0.toNat).2).1, (((rd sProp a0 x0.toNat).2).2).1, (((rd sProp a0 x0.toNat).2).2).2)).bind fun t1 => (bif (t1 != 0) then (some 2) else (bif (decide (x0 > 0)) then (guardK (decide (0 ≤ (w64 (x0 - 1))) && decide ((w64 (x0 - 1)) < (a0.length : Int))) (bif (!strLt ((rd sProp a0 ((w64 (x0 - 1)).toNat)).1) ((rd sProp a0 x0.toNat).1)) then (some 4) else (c2 a0 (w64 (x0 + 1))))) else (c2 a0 (w64 (x0 + 1))))))))) else (some 0))
theorem F.elem_CheckProps.l11010.eq K n0 a0 x0 : F.elem_CheckProps.l11010 K (n0 + 1) a0 x0 = F.elem_CheckProps.l11010.B (F.name_Check K) (F.value_Check K) (F.elem_CheckProps.l11010 K n0) a0 x0 := (F.elem_CheckProps.in_eq K [1, 1, 0, 1, 0] [n0 + 1] (F.elem_CheckProps.l11010.st a0 x0)).trans ((show ∀ H, F.elem_CheckProps.in K H [1, 1, 0, 1, 0] [n0 + 1] (F.elem_CheckProps.l11010.st a0 x0) = F.elem_CheckProps.l11010.B (F.name_Check K) (F.value_Check K) (fun a0 x0 => H [1, 1, 0, 1, 0] [n0] (F.elem_CheckProps.l11010.st a0 x0)) a0 x0 from by intro H; kernel_rfl) (F.elem_CheckProps.at K))
noncomputable def F.elem_CheckProps.B (c0 : (List TProp) → (Int) → Option (Int)) (a0 : List TProp) : Option (Int) :=
    (bif (decide ((a0.length : Int) > 8)) then (some 5) else (c0 a0 0))
theorem F.elem_CheckProps.eq K a0 : F.elem_CheckProps (K + 1) a0 = F.elem_CheckProps.B (F.elem_CheckProps.l11010 K K) a0 := (F.elem_CheckProps.in_main K a0).trans ((show ∀ H, F.elem_CheckProps.in K H [] [] ⟨slots [.sc (.list sProp a0 false)] 0, []⟩ = F.elem_CheckProps.B (fun a0 x0 => H [1, 1, 0, 1, 0] [K] (F.elem_CheckProps.l11010.st a0 x0)) a0 from by intro H; kernel_rfl) (F.elem_CheckProps.at K))
noncomputable def V.elem_CheckProps.l11010 (a0 : List TProp) (x0 : Int) := lim fun v => F.elem_CheckProps.l11010 (v 0) (v 1) a0 x0
noncomputable def V.elem_CheckProps (a0 : List TProp) := lim fun v => F.elem_CheckProps (v 0) a0
theorem V.elem_CheckProps.l11010.of a0 x0 {r} (h : F.elem_CheckProps.l11010.B V.name_Check V.value_Check V.elem_CheckProps.l11010 a0 x0 = some r) : V.elem_CheckProps.l11010 a0 x0 = some r :=
  App.to (App.step 1 (fun v => F.elem_CheckProps.l11010.eq (v 0) (v 1) a0 x0) (by unfold F.elem_CheckProps.l11010.B; repeat' first | exact App.val | exact App.no | exact App.lim | apply App.cond | apply App.guard | apply App.meet | apply App.ite | refine App.bind ?_ fun _ => ?_)) h
theorem V.elem_CheckProps.of a0 {r} (h : F.elem_CheckProps.B V.elem_CheckProps.l11010 a0 = some r) : V.elem_CheckProps a0 = some r :=
  App.to (App.step 0 (fun v => F.elem_CheckProps.eq (v 0) a0) (by unfold F.elem_CheckProps.B; repeat' first | exact App.val | exact App.no | exact App.lim | exact (App.enter 1 App.lim) | apply App.cond | apply App.guard | apply App.meet | apply App.ite | refine App.bind ?_ fun _ => ?_)) h
noncomputable def F.elem_rest (K : Nat) (a0 : List ByteArray) (a1 : List TProp) : Option (Int) := evFn Try.prog sg K 134 [.sc (.list .str a0 false), .sc (.list sProp a1 false)] []
noncomputable def F.elem_rest.B (c0 : (List ByteArray) → Option (Int)) (c1 : (List TProp) → Option (Int)) (a0 : List ByteArray) (a1 : List TProp) : Option (Int) :=
    (bif (decide ((a0.length : Int) > 8)) then (some 5) else ((c0 a0).bind fun t0 => (bif (t0 != 0) then (some t0) else ((c1 a1).bind fun t1 => (some t1)))))
theorem F.elem_rest.eq K a0 a1 : F.elem_rest (K + 1) a0 a1 = F.elem_rest.B (F.name_Row K) (F.elem_CheckProps K) a0 a1 := by kernel_rfl
noncomputable def V.elem_rest (a0 : List ByteArray) (a1 : List TProp) := lim fun v => F.elem_rest (v 0) a0 a1
theorem V.elem_rest.of a0 a1 {r} (h : F.elem_rest.B V.name_Row V.elem_CheckProps a0 a1 = some r) : V.elem_rest a0 a1 = some r :=
  App.to (App.step 0 (fun v => F.elem_rest.eq (v 0) a0 a1) (by unfold F.elem_rest.B; repeat' first | exact App.val | exact App.no | exact App.lim | apply App.cond | apply App.guard | apply App.meet | apply App.ite | refine App.bind ?_ fun _ => ?_)) h
noncomputable def F.elem_CheckNode (K : Nat) (a0 : TNode) : Option (Int) := evFn Try.prog sg K 85 [.agg [.val (.string a0.1), .list .str a0.2.1 false, .list sProp a0.2.2 false]] []
noncomputable def F.elem_CheckNode.B (c0 : (ByteArray) → Option (Int)) (c1 : (List ByteArray) → (List TProp) → Option (Int)) (a0 : TNode) : Option (Int) :=
    ((c0 a0.1).bind fun t0 => (bif (t0 != 0) then (some t0) else ((c1 a0.2.1 a0.2.2).bind fun t1 => (some t1))))
theorem F.elem_CheckNode.eq K a0 : F.elem_CheckNode (K + 1) a0 = F.elem_CheckNode.B (F.name_Check K) (F.elem_rest K) a0 := by kernel_rfl
noncomputable def V.elem_CheckNode (a0 : TNode) := lim fun v => F.elem_CheckNode (v 0) a0
theorem V.elem_CheckNode.of a0 {r} (h : F.elem_CheckNode.B V.name_Check V.elem_rest a0 = some r) : V.elem_CheckNode a0 = some r :=
  App.to (App.step 0 (fun v => F.elem_CheckNode.eq (v 0) a0) (by unfold F.elem_CheckNode.B; repeat' first | exact App.val | exact App.no | exact App.lim | apply App.cond | apply App.guard | apply App.meet | apply App.ite | refine App.bind ?_ fun _ => ?_)) h
noncomputable def F.elem_CheckEdge (K : Nat) (a0 : TEdge) : Option (Int) := evFn Try.prog sg K 86 [.agg [.val (.string a0.1), .val (.string a0.2.1), .val (.string a0.2.2.1), .list .str a0.2.2.2.1 false, .list sProp a0.2.2.2.2 false]] []
noncomputable def V.elem_CheckEdge (a0 : TEdge) := lim fun v => F.elem_CheckEdge (v 0) a0
noncomputable def F.graph_node (K : Nat) (a0 : TGraph) (a1 : ByteArray) : Option (Int × Bool) := evFn Try.prog sg K 87 [.agg [.list sNode a0.1 false, .list sEdge a0.2 false], .sc (.val (.string a1))] []
noncomputable def V.graph_node (a0 : TGraph) (a1 : ByteArray) := lim fun v => F.graph_node (v 0) a0 a1
noncomputable def F.graph_Check (K : Nat) (a0 : TGraph) : Option (Int) := evFn Try.prog sg K 41 [.agg [.list sNode a0.1 false, .list sEdge a0.2 false]] []
noncomputable def F.graph_Check.at (K : Nat) (p ns : List Nat) (s : St) : Option (Int) := atFn Try.prog sg K 41 0 p ns s
noncomputable def F.graph_Check.in (K : Nat) (H : List Nat → List Nat → St → Option (Int)) (p ns : List Nat) (s : St) : Option (Int) := inFn Try.prog sg K 41 0 [] H p ns s
theorem F.graph_Check.in_eq K p ns s : F.graph_Check.at K p ns s = F.graph_Check.in K (F.graph_Check.at K) p ns s := atFn_eq (P := Try.prog) (sg := sg) (K := K) (f := 41) (m := 0) [] p ns s
theorem F.graph_Check.in_main K a0 : F.graph_Check (K + 1) a0 = F.graph_Check.in K (F.graph_Check.at K) [] [] ⟨slots [.agg [.list sNode a0.1 false, .list sEdge a0.2 false]] 0, []⟩ := evFn_eq (P := Try.prog) (sg := sg) (K := K) (f := 41) (args := [.agg [.list sNode a0.1 false, .list sEdge a0.2 false]]) (σ := []) [] (by kernel_rfl)
def F.graph_Check.l11010.st (a0 : TGraph) (x0 : Int) : St := ⟨[(1, .one (.sc (.ref 0 0))), (24, vL sNode a0.1), (25, vI (a0.1.length : Int)), (26, vI x0)], [.cells 25 [.list sNode a0.1 false, .list sEdge a0.2 false]]⟩
noncomputable def F.graph_Check.l11010 (K n0 : Nat) (a0 : TGraph) (x0 : Int) := F.graph_Check.at K [1, 1, 0, 1, 0] [n0] (F.graph_Check.l11010.st a0 x0)
def F.graph_Check.l111010.st (a0 : TGraph) (x0 : Int) : St := ⟨[(1, .one (.sc (.ref 0 0))), (52, vL sEdge a0.2), (53, vI (a0.2.length : Int)), (54, vI x0)], [.cells 25 [.list sNode a0.1 false, .list sEdge a0.2 false]]⟩
noncomputable def F.graph_Check.l111010 (K n0 : Nat) (a0 : TGraph) (x0 : Int) := F.graph_Check.at K [1, 1, 1, 0, 1, 0] [n0] (F.graph_Check.l111010.st a0 x0)
noncomputable def F.graph_Check.l11010.B (c0 : (TNode) → Option (Int)) (c1 : (TGraph) → (Int) → Option (Int)) (c2 : (TGraph) → (Int) → Option (Int)) (a0 : TGraph) (x0 : Int) : Option (Int) :=
    (bif (decide (x0 < (a0.1.length : Int))) then (guardK (decide (0 ≤ x0) && decide (x0 < (a0.1.length : Int))) ((c0 ((rd sNode a0.1 x0.toNat).1, ((rd sNode a0.1 x0.toNat).2).1, ((rd sNode a0.1 x0.toNat).2).2)).bind fun t0 => (bif (t0 != 0) then (some t0) else (bif (decide (x0 > 0)) then (guardK (decide (0 ≤ (w64 (x0 - 1))) && decide ((w64 (x0 - 1)) < (a0.1.length : Int))) (bif (!strLt ((rd sNode a0.1 ((w64 (x0 - 1)).toNat)).1) ((rd sNode a0.1 x0.toNat).1)) then (some 4) else (c1 a0 (w64 (x0 + 1))))) else (c1 a0 (w64 (x0 + 1))))))) else (c2 a0 0))
theorem F.graph_Check.l11010.eq K n0 a0 x0 : F.graph_Check.l11010 K (n0 + 1) a0 x0 = F.graph_Check.l11010.B (F.elem_CheckNode K) (F.graph_Check.l11010 K n0) (F.graph_Check.l111010 K K) a0 x0 := (F.graph_Check.in_eq K [1, 1, 0, 1, 0] [n0 + 1] (F.graph_Check.l11010.st a0 x0)).trans ((show ∀ H, F.graph_Check.in K H [1, 1, 0, 1, 0] [n0 + 1] (F.graph_Check.l11010.st a0 x0) = F.graph_Check.l11010.B (F.elem_CheckNode K) (fun a0 x0 => H [1, 1, 0, 1, 0] [n0] (F.graph_Check.l11010.st a0 x0)) (fun a0 x0 => H [1, 1, 1, 0, 1, 0] [K] (F.graph_Check.l111010.st a0 x0)) a0 x0 from by intro H; kernel_rfl) (F.graph_Check.at K))
noncomputable def F.graph_Check.l111010.B (c0 : (TEdge) → Option (Int)) (c1 : (TGraph) → (ByteArray) → Option (Int × Bool)) (c2 : (TGraph) → (Int) → Option (Int)) (a0 : TGraph) (x0 : Int) : Option (Int) :=
    (bif (decide (x0 < (a0.2.length : Int))) then (guardK (decide (0 ≤ x0) && decide (x0 < (a0.2.length : Int))) ((c0 ((rd sEdge a0.2 x0.toNat).1, ((rd sEdge a0.2 x0.toNat).2).1, (((rd sEdge a0.2 x0.toNat).2).2).1, ((((rd sEdge a0.2 x0.toNat).2).2).2).1, ((((rd sEdge a0.2 x0.toNat).2).2).2).2)).bind fun t1 => (bif (t1 != 0) then (some t1) else (bif (decide (x0 > 0)) then (guardK (decide (0 ≤ (w64 (x0 - 1))) && decide ((w64 (x0 - 1)) < (a0.2.length : Int))) (bif (!strLt ((rd sEdge a0.2 ((w64 (x0 - 1)).toNat)).1) ((rd sEdge a0.2 x0.toNat).1)) then (some 4) else ((c1 (a0.1, a0.2) (((rd sEdge a0.2 x0.toNat).2).1)).bind fun t2 => ((c1 (a0.1, a0.2) ((((rd sEdge a0.2 x0.toNat).2).2).1)).bind fun t3 => (bif (!t2.2) then (some 9) else (bif (!t3.2) then (some 9) else (c2 a0 (w64 (x0 + 1))))))))) else ((c1 (a0.1, a0.2) (((rd sEdge a0.2 x0.toNat).2).1)).bind fun t4 => ((c1 (a0.1, a0.2) ((((rd sEdge a0.2 x0.toNat).2).2).1)).bind fun t5 => (bif (!t4.2) then (some 9) else (bif (!t5.2) then (some 9) else (c2 a0 (w64 (x0 + 1))))))))))) else (some 0))
theorem F.graph_Check.l111010.eq K n0 a0 x0 : F.graph_Check.l111010 K (n0 + 1) a0 x0 = F.graph_Check.l111010.B (F.elem_CheckEdge K) (F.graph_node K) (F.graph_Check.l111010 K n0) a0 x0 := (F.graph_Check.in_eq K [1, 1, 1, 0, 1, 0] [n0 + 1] (F.graph_Check.l111010.st a0 x0)).trans ((show ∀ H, F.graph_Check.in K H [1, 1, 1, 0, 1, 0] [n0 + 1] (F.graph_Check.l111010.st a0 x0) = F.graph_Check.l111010.B (F.elem_CheckEdge K) (F.graph_node K) (fun a0 x0 => H [1, 1, 1, 0, 1, 0] [n0] (F.graph_Check.l111010.st a0 x0)) a0 x0 from by intro H; kernel_rfl) (F.graph_Check.at K))
noncomputable def F.graph_Check.B (c0 : (TGraph) → (Int) → Option (Int)) (a0 : TGraph) : Option (Int) :=
    (bif (decide ((a0.1.length : Int) > 500)) then (some 5) else (bif (decide ((a0.2.length : Int) > 1000)) then (some 5) else (c0 a0 0)))
theorem F.graph_Check.eq K a0 : F.graph_Check (K + 1) a0 = F.graph_Check.B (F.graph_Check.l11010 K K) a0 := (F.graph_Check.in_main K a0).trans ((show ∀ H, F.graph_Check.in K H [] [] ⟨slots [.agg [.list sNode a0.1 false, .list sEdge a0.2 false]] 0, []⟩ = F.graph_Check.B (fun a0 x0 => H [1, 1, 0, 1, 0] [K] (F.graph_Check.l11010.st a0 x0)) a0 from by intro H; kernel_rfl) (F.graph_Check.at K))
noncomputable def V.graph_Check.l11010 (a0 : TGraph) (x0 : Int) := lim fun v => F.graph_Check.l11010 (v 0) (v 1) a0 x0
noncomputable def V.graph_Check.l111010 (a0 : TGraph) (x0 : Int) := lim fun v => F.graph_Check.l111010 (v 0) (v 1) a0 x0
noncomputable def V.graph_Check (a0 : TGraph) := lim fun v => F.graph_Check (v 0) a0
theorem V.graph_Check.l11010.of a0 x0 {r} (h : F.graph_Check.l11010.B V.elem_CheckNode V.graph_Check.l11010 V.graph_Check.l111010 a0 x0 = some r) : V.graph_Check.l11010 a0 x0 = some r :=
  App.to (App.step 1 (fun v => F.graph_Check.l11010.eq (v 0) (v 1) a0 x0) (by unfold F.graph_Check.l11010.B; repeat' first | exact App.val | exact App.no | exact App.lim | exact (App.enter 1 App.lim) | apply App.cond | apply App.guard | apply App.meet | apply App.ite | refine App.bind ?_ fun _ => ?_)) h
theorem V.graph_Check.l111010.of a0 x0 {r} (h : F.graph_Check.l111010.B V.elem_CheckEdge V.graph_node V.graph_Check.l111010 a0 x0 = some r) : V.graph_Check.l111010 a0 x0 = some r :=
  App.to (App.step 1 (fun v => F.graph_Check.l111010.eq (v 0) (v 1) a0 x0) (by unfold F.graph_Check.l111010.B; repeat' first | exact App.val | exact App.no | exact App.lim | apply App.cond | apply App.guard | apply App.meet | apply App.ite | refine App.bind ?_ fun _ => ?_)) h
theorem V.graph_Check.of a0 {r} (h : F.graph_Check.B V.graph_Check.l11010 a0 = some r) : V.graph_Check a0 = some r :=
  App.to (App.step 0 (fun v => F.graph_Check.eq (v 0) a0) (by unfold F.graph_Check.B; repeat' first | exact App.val | exact App.no | exact App.lim | exact (App.enter 1 App.lim) | apply App.cond | apply App.guard | apply App.meet | apply App.ite | refine App.bind ?_ fun _ => ?_)) h
noncomputable def F.value_Put (K : Nat) (a0 : TValue) : Option (ByteArray × Int) := evFn Try.prog sg K 111 [.agg [.val (.int .i64 a0.1), .val (.int .i64 a0.2.1), .val (.string a0.2.2)]] []
noncomputable def V.value_Put (a0 : TValue) := lim fun v => F.value_Put (v 0) a0
noncomputable def F.facts_of (K : Nat) (a0 : ByteArray) (a1 : Int) (a2 : Int) (a3 : List ByteArray) (a4 : List TProp) : Option ((List TFact)) := evFn Try.prog sg K 58 [.sc (.val (.string a0)), .sc (.val (.int .i64 a1)), .sc (.val (.int .i64 a2)), .sc (.list .str a3 false), .sc (.list sProp a4 false)] []
noncomputable def F.facts_of.at (K : Nat) (p ns : List Nat) (s : St) : Option ((List TFact)) := atFn Try.prog sg K 58 0 p ns s
noncomputable def F.facts_of.in (K : Nat) (H : List Nat → List Nat → St → Option ((List TFact))) (p ns : List Nat) (s : St) : Option ((List TFact)) := inFn Try.prog sg K 58 0 [] H p ns s
theorem F.facts_of.in_eq K p ns s : F.facts_of.at K p ns s = F.facts_of.in K (F.facts_of.at K) p ns s := atFn_eq (P := Try.prog) (sg := sg) (K := K) (f := 58) (m := 0) [] p ns s
theorem F.facts_of.in_main K a0 a1 a2 a3 a4 : F.facts_of (K + 1) a0 a1 a2 a3 a4 = F.facts_of.in K (F.facts_of.at K) [] [] ⟨slots [.sc (.val (.string a0)), .sc (.val (.int .i64 a1)), .sc (.val (.int .i64 a2)), .sc (.list .str a3 false), .sc (.list sProp a4 false)] 0, []⟩ := evFn_eq (P := Try.prog) (sg := sg) (K := K) (f := 58) (args := [.sc (.val (.string a0)), .sc (.val (.int .i64 a1)), .sc (.val (.int .i64 a2)), .sc (.list .str a3 false), .sc (.list sProp a4 false)]) (σ := []) [] (by kernel_rfl)
def F.facts_of.l11010.st (a0 : ByteArray) (a1 : Int) (a2 : Int) (a3 : List ByteArray) (a4 : List TProp) (x0 : Int) (x1 : List TFact) : St := ⟨[(0, vS a0), (1, vI a1), (2, vI a2), (4, vL sProp a4), (11, .one (.sc (.own 0 none))), (18, vL .str a3), (19, vI (a3.length : Int)), (20, vI x0)], [.elems sFact x1]⟩
noncomputable def F.facts_of.l11010 (K n0 : Nat) (a0 : ByteArray) (a1 : Int) (a2 : Int) (a3 : List ByteArray) (a4 : List TProp) (x0 : Int) (x1 : List TFact) := F.facts_of.at K [1, 1, 0, 1, 0] [n0] (F.facts_of.l11010.st a0 a1 a2 a3 a4 x0 x1)
def F.facts_of.l111010.st (a0 : ByteArray) (a1 : Int) (a2 : Int) (a3 : List ByteArray) (a4 : List TProp) (x0 : Int) (x1 : List TFact) : St := ⟨[(0, vS a0), (2, vI a2), (11, .one (.sc (.own 0 none))), (32, vL sProp a4), (33, vI (a4.length : Int)), (34, vI x0)], [.elems sFact x1]⟩
noncomputable def F.facts_of.l111010 (K n0 : Nat) (a0 : ByteArray) (a1 : Int) (a2 : Int) (a3 : List ByteArray) (a4 : List TProp) (x0 : Int) (x1 : List TFact) := F.facts_of.at K [1, 1, 1, 0, 1, 0] [n0] (F.facts_of.l111010.st a0 a1 a2 a3 a4 x0 x1)
noncomputable def F.facts_of.l11010.B (c0 : (ByteArray) → (Int) → (Int) → (List ByteArray) → (List TProp) → (Int) → (List TFact) → Option ((List TFact))) (c1 : (ByteArray) → (Int) → (Int) → (List ByteArray) → (List TProp) → (Int) → (List TFact) → Option ((List TFact))) (a0 : ByteArray) (a1 : Int) (a2 : Int) (a3 : List ByteArray) (a4 : List TProp) (x0 : Int) (x1 : List TFact) : Option ((List TFact)) :=
    (bif (decide (x0 < (a3.length : Int))) then (guardK (decide (0 ≤ x0) && decide (x0 < (a3.length : Int))) (guardK (decide (x1.length + ([(a1, a0, (rd .str a3 x0.toNat), (⟨#[]⟩ : ByteArray))]).length ≤ nmax)) (c0 a0 a1 a2 a3 a4 (w64 (x0 + 1)) (x1 ++ [(a1, a0, (rd .str a3 x0.toNat), (⟨#[]⟩ : ByteArray))])))) else (c1 a0 a1 a2 a3 a4 0 x1))
theorem F.facts_of.l11010.eq K n0 a0 a1 a2 a3 a4 x0 x1 : F.facts_of.l11010 K (n0 + 1) a0 a1 a2 a3 a4 x0 x1 = F.facts_of.l11010.B (F.facts_of.l11010 K n0) (F.facts_of.l111010 K K) a0 a1 a2 a3 a4 x0 x1 := (F.facts_of.in_eq K [1, 1, 0, 1, 0] [n0 + 1] (F.facts_of.l11010.st a0 a1 a2 a3 a4 x0 x1)).trans ((show ∀ H, F.facts_of.in K H [1, 1, 0, 1, 0] [n0 + 1] (F.facts_of.l11010.st a0 a1 a2 a3 a4 x0 x1) = F.facts_of.l11010.B (fun a0 a1 a2 a3 a4 x0 x1 => H [1, 1, 0, 1, 0] [n0] (F.facts_of.l11010.st a0 a1 a2 a3 a4 x0 x1)) (fun a0 a1 a2 a3 a4 x0 x1 => H [1, 1, 1, 0, 1, 0] [K] (F.facts_of.l111010.st a0 a1 a2 a3 a4 x0 x1)) a0 a1 a2 a3 a4 x0 x1 from by intro H; kernel_rfl) (F.facts_of.at K))
noncomputable def F.facts_of.l111010.B (c0 : (TValue) → Option (ByteArray × Int)) (c1 : (ByteArray) → (Int) → (Int) → (List ByteArray) → (List TProp) → (Int) → (List TFact) → Option ((List TFact))) (a0 : ByteArray) (a1 : Int) (a2 : Int) (a3 : List ByteArray) (a4 : List TProp) (x0 : Int) (x1 : List TFact) : Option ((List TFact)) :=
    (bif (decide (x0 < (a4.length : Int))) then (guardK (decide (0 ≤ x0) && decide (x0 < (a4.length : Int))) ((c0 (((rd sProp a4 x0.toNat).2).1, (((rd sProp a4 x0.toNat).2).2).1, (((rd sProp a4 x0.toNat).2).2).2)).bind fun t0 => (guardK (decide (x1.length + ([(a2, a0, (rd sProp a4 x0.toNat).1, t0.1)]).length ≤ nmax)) (c1 a0 a1 a2 a3 a4 (w64 (x0 + 1)) (x1 ++ [(a2, a0, (rd sProp a4 x0.toNat).1, t0.1)]))))) else (some x1))
theorem F.facts_of.l111010.eq K n0 a0 a1 a2 a3 a4 x0 x1 : F.facts_of.l111010 K (n0 + 1) a0 a1 a2 a3 a4 x0 x1 = F.facts_of.l111010.B (F.value_Put K) (F.facts_of.l111010 K n0) a0 a1 a2 a3 a4 x0 x1 := (F.facts_of.in_eq K [1, 1, 1, 0, 1, 0] [n0 + 1] (F.facts_of.l111010.st a0 a1 a2 a3 a4 x0 x1)).trans ((show ∀ H, F.facts_of.in K H [1, 1, 1, 0, 1, 0] [n0 + 1] (F.facts_of.l111010.st a0 a1 a2 a3 a4 x0 x1) = F.facts_of.l111010.B (F.value_Put K) (fun a0 a1 a2 a3 a4 x0 x1 => H [1, 1, 1, 0, 1, 0] [n0] (F.facts_of.l111010.st a0 a1 a2 a3 a4 x0 x1)) a0 a1 a2 a3 a4 x0 x1 from by intro H; kernel_rfl) (F.facts_of.at K))
noncomputable def F.facts_of.B (c0 : (ByteArray) → (Int) → (Int) → (List ByteArray) → (List TProp) → (Int) → (List TFact) → Option ((List TFact))) (a0 : ByteArray) (a1 : Int) (a2 : Int) (a3 : List ByteArray) (a4 : List TProp) : Option ((List TFact)) :=
    (c0 a0 a1 a2 a3 a4 0 ([]))
theorem F.facts_of.eq K a0 a1 a2 a3 a4 : F.facts_of (K + 1) a0 a1 a2 a3 a4 = F.facts_of.B (F.facts_of.l11010 K K) a0 a1 a2 a3 a4 := (F.facts_of.in_main K a0 a1 a2 a3 a4).trans ((show ∀ H, F.facts_of.in K H [] [] ⟨slots [.sc (.val (.string a0)), .sc (.val (.int .i64 a1)), .sc (.val (.int .i64 a2)), .sc (.list .str a3 false), .sc (.list sProp a4 false)] 0, []⟩ = F.facts_of.B (fun a0 a1 a2 a3 a4 x0 x1 => H [1, 1, 0, 1, 0] [K] (F.facts_of.l11010.st a0 a1 a2 a3 a4 x0 x1)) a0 a1 a2 a3 a4 from by intro H; kernel_rfl) (F.facts_of.at K))
noncomputable def V.facts_of.l11010 (a0 : ByteArray) (a1 : Int) (a2 : Int) (a3 : List ByteArray) (a4 : List TProp) (x0 : Int) (x1 : List TFact) := lim fun v => F.facts_of.l11010 (v 0) (v 1) a0 a1 a2 a3 a4 x0 x1
noncomputable def V.facts_of.l111010 (a0 : ByteArray) (a1 : Int) (a2 : Int) (a3 : List ByteArray) (a4 : List TProp) (x0 : Int) (x1 : List TFact) := lim fun v => F.facts_of.l111010 (v 0) (v 1) a0 a1 a2 a3 a4 x0 x1
noncomputable def V.facts_of (a0 : ByteArray) (a1 : Int) (a2 : Int) (a3 : List ByteArray) (a4 : List TProp) := lim fun v => F.facts_of (v 0) a0 a1 a2 a3 a4
theorem V.facts_of.l11010.of a0 a1 a2 a3 a4 x0 x1 {r} (h : F.facts_of.l11010.B V.facts_of.l11010 V.facts_of.l111010 a0 a1 a2 a3 a4 x0 x1 = some r) : V.facts_of.l11010 a0 a1 a2 a3 a4 x0 x1 = some r :=
  App.to (App.step 1 (fun v => F.facts_of.l11010.eq (v 0) (v 1) a0 a1 a2 a3 a4 x0 x1) (by unfold F.facts_of.l11010.B; repeat' first | exact App.val | exact App.no | exact App.lim | exact (App.enter 1 App.lim) | apply App.cond | apply App.guard | apply App.meet | apply App.ite | refine App.bind ?_ fun _ => ?_)) h
theorem V.facts_of.l111010.of a0 a1 a2 a3 a4 x0 x1 {r} (h : F.facts_of.l111010.B V.value_Put V.facts_of.l111010 a0 a1 a2 a3 a4 x0 x1 = some r) : V.facts_of.l111010 a0 a1 a2 a3 a4 x0 x1 = some r :=
  App.to (App.step 1 (fun v => F.facts_of.l111010.eq (v 0) (v 1) a0 a1 a2 a3 a4 x0 x1) (by unfold F.facts_of.l111010.B; repeat' first | exact App.val | exact App.no | exact App.lim | apply App.cond | apply App.guard | apply App.meet | apply App.ite | refine App.bind ?_ fun _ => ?_)) h
theorem V.facts_of.of a0 a1 a2 a3 a4 {r} (h : F.facts_of.B V.facts_of.l11010 a0 a1 a2 a3 a4 = some r) : V.facts_of a0 a1 a2 a3 a4 = some r :=
  App.to (App.step 0 (fun v => F.facts_of.eq (v 0) a0 a1 a2 a3 a4) (by unfold F.facts_of.B; repeat' first | exact App.val | exact App.no | exact App.lim | exact (App.enter 1 App.lim) | apply App.cond | apply App.guard | apply App.meet | apply App.ite | refine App.bind ?_ fun _ => ?_)) h
noncomputable def F.facts_Ends (K : Nat) (a0 : ByteArray) (a1 : ByteArray) : Option (ByteArray) := evFn Try.prog sg K 27 [.sc (.val (.string a0)), .sc (.val (.string a1))] []
noncomputable def V.facts_Ends (a0 : ByteArray) (a1 : ByteArray) := lim fun v => F.facts_Ends (v 0) a0 a1
noncomputable def F.cmp_isNaN_int (K : Nat) (a0 : Int) : Option (Bool) := evFn Try.prog sg K 116 [.sc (.val (.int .i64 a0))] []
noncomputable def F.cmp_isNaN_int.B (a0 : Int) : Option (Bool) :=
    (some (a0 != a0))
theorem F.cmp_isNaN_int.eq K a0 : F.cmp_isNaN_int (K + 1) a0 = F.cmp_isNaN_int.B a0 := by kernel_rfl
noncomputable def V.cmp_isNaN_int (a0 : Int) := lim fun v => F.cmp_isNaN_int (v 0) a0
theorem V.cmp_isNaN_int.of a0 {r} (h : F.cmp_isNaN_int.B a0 = some r) : V.cmp_isNaN_int a0 = some r :=
  App.to (App.step 0 (fun v => F.cmp_isNaN_int.eq (v 0) a0) (by unfold F.cmp_isNaN_int.B; repeat' first | exact App.val | exact App.no | exact App.lim | apply App.cond | apply App.guard | apply App.meet | apply App.ite | refine App.bind ?_ fun _ => ?_)) h
noncomputable def F.cmp_Compare_int (K : Nat) (a0 : Int) (a1 : Int) : Option (Int) := evFn Try.prog sg K 65 [.sc (.val (.int .i64 a0)), .sc (.val (.int .i64 a1))] []
noncomputable def F.cmp_Compare_int.B (c0 : (Int) → Option (Bool)) (a0 : Int) (a1 : Int) : Option (Int) :=
    ((c0 a0).bind fun t0 => ((c0 a1).bind fun t1 => (bif t0 then (bif t1 then (some 0) else (some (-1))) else (bif t1 then (some 1) else (bif (decide (a0 < a1)) then (some (-1)) else (bif (decide (a0 > a1)) then (some 1) else (some 0)))))))
theorem F.cmp_Compare_int.eq K a0 a1 : F.cmp_Compare_int (K + 1) a0 a1 = F.cmp_Compare_int.B (F.cmp_isNaN_int K) a0 a1 := by kernel_rfl
noncomputable def V.cmp_Compare_int (a0 : Int) (a1 : Int) := lim fun v => F.cmp_Compare_int (v 0) a0 a1
theorem V.cmp_Compare_int.of a0 a1 {r} (h : F.cmp_Compare_int.B V.cmp_isNaN_int a0 a1 = some r) : V.cmp_Compare_int a0 a1 = some r :=
  App.to (App.step 0 (fun v => F.cmp_Compare_int.eq (v 0) a0 a1) (by unfold F.cmp_Compare_int.B; repeat' first | exact App.val | exact App.no | exact App.lim | apply App.cond | apply App.guard | apply App.meet | apply App.ite | refine App.bind ?_ fun _ => ?_)) h
noncomputable def F.bytealg_CompareString (K : Nat) (a0 : ByteArray) (a1 : ByteArray) : Option (Int) := evFn Try.prog sg K 117 [.sc (.val (.string a0)), .sc (.val (.string a1))] []
noncomputable def F.bytealg_CompareString.B (a0 : ByteArray) (a1 : ByteArray) : Option (Int) :=
    (some (cmpS a0 a1))
theorem F.bytealg_CompareString.eq K a0 a1 : F.bytealg_CompareString (K + 1) a0 a1 = F.bytealg_CompareString.B a0 a1 := by kernel_rfl
noncomputable def V.bytealg_CompareString (a0 : ByteArray) (a1 : ByteArray) := lim fun v => F.bytealg_CompareString (v 0) a0 a1
theorem V.bytealg_CompareString.of a0 a1 {r} (h : F.bytealg_CompareString.B a0 a1 = some r) : V.bytealg_CompareString a0 a1 = some r :=
  App.to (App.step 0 (fun v => F.bytealg_CompareString.eq (v 0) a0 a1) (by unfold F.bytealg_CompareString.B; repeat' first | exact App.val | exact App.no | exact App.lim | apply App.cond | apply App.guard | apply App.meet | apply App.ite | refine App.bind ?_ fun _ => ?_)) h
noncomputable def F.strings_Compare (K : Nat) (a0 : ByteArray) (a1 : ByteArray) : Option (Int) := evFn Try.prog sg K 66 [.sc (.val (.string a0)), .sc (.val (.string a1))] []
noncomputable def F.strings_Compare.B (c0 : (ByteArray) → (ByteArray) → Option (Int)) (a0 : ByteArray) (a1 : ByteArray) : Option (Int) :=
    ((c0 a0 a1).bind fun t0 => (some t0))
theorem F.strings_Compare.eq K a0 a1 : F.strings_Compare (K + 1) a0 a1 = F.strings_Compare.B (F.bytealg_CompareString K) a0 a1 := by kernel_rfl
noncomputable def V.strings_Compare (a0 : ByteArray) (a1 : ByteArray) := lim fun v => F.strings_Compare (v 0) a0 a1
theorem V.strings_Compare.of a0 a1 {r} (h : F.strings_Compare.B V.bytealg_CompareString a0 a1 = some r) : V.strings_Compare a0 a1 = some r :=
  App.to (App.step 0 (fun v => F.strings_Compare.eq (v 0) a0 a1) (by unfold F.strings_Compare.B; repeat' first | exact App.val | exact App.no | exact App.lim | apply App.cond | apply App.guard | apply App.meet | apply App.ite | refine App.bind ?_ fun _ => ?_)) h
noncomputable def F.cmp_Or_int (K : Nat) (a0 : List Int) : Option (Int) := evFn Try.prog sg K 64 [.sc (.list (.int .i64) a0 false)] []
noncomputable def F.cmp_Or_int.at (K : Nat) (p ns : List Nat) (s : St) : Option (Int) := atFn Try.prog sg K 64 0 p ns s
noncomputable def F.cmp_Or_int.in (K : Nat) (H : List Nat → List Nat → St → Option (Int)) (p ns : List Nat) (s : St) : Option (Int) := inFn Try.prog sg K 64 0 [] H p ns s
theorem F.cmp_Or_int.in_eq K p ns s : F.cmp_Or_int.at K p ns s = F.cmp_Or_int.in K (F.cmp_Or_int.at K) p ns s := atFn_eq (P := Try.prog) (sg := sg) (K := K) (f := 64) (m := 0) [] p ns s
theorem F.cmp_Or_int.in_main K a0 : F.cmp_Or_int (K + 1) a0 = F.cmp_Or_int.in K (F.cmp_Or_int.at K) [] [] ⟨slots [.sc (.list (.int .i64) a0 false)] 0, []⟩ := evFn_eq (P := Try.prog) (sg := sg) (K := K) (f := 64) (args := [.sc (.list (.int .i64) a0 false)]) (σ := []) [] (by kernel_rfl)
def F.cmp_Or_int.l11010.st (a0 : List Int) (x0 : Int) : St := ⟨[(3, vI 0), (6, vL (.int .i64) a0), (7, vI (a0.length : Int)), (8, vI x0)], []⟩
noncomputable def F.cmp_Or_int.l11010 (K n0 : Nat) (a0 : List Int) (x0 : Int) := F.cmp_Or_int.at K [1, 1, 0, 1, 0] [n0] (F.cmp_Or_int.l11010.st a0 x0)
noncomputable def F.cmp_Or_int.l11010.B (c0 : (List Int) → (Int) → Option (Int)) (a0 : List Int) (x0 : Int) : Option (Int) :=
    (bif (decide (x0 < (a0.length : Int))) then (guardK (decide (0 ≤ x0) && decide (x0 < (a0.length : Int))) (bif ((rd (.int .i64) a0 x0.toNat) != 0) then (some (rd (.int .i64) a0 x0.toNat)) else (c0 a0 (w64 (x0 + 1))))) else (some 0))
theorem F.cmp_Or_int.l11010.eq K n0 a0 x0 : F.cmp_Or_int.l11010 K (n0 + 1) a0 x0 = F.cmp_Or_int.l11010.B (F.cmp_Or_int.l11010 K n0) a0 x0 := (F.cmp_Or_int.in_eq K [1, 1, 0, 1, 0] [n0 + 1] (F.cmp_Or_int.l11010.st a0 x0)).trans ((show ∀ H, F.cmp_Or_int.in K H [1, 1, 0, 1, 0] [n0 + 1] (F.cmp_Or_int.l11010.st a0 x0) = F.cmp_Or_int.l11010.B (fun a0 x0 => H [1, 1, 0, 1, 0] [n0] (F.cmp_Or_int.l11010.st a0 x0)) a0 x0 from by intro H; kernel_rfl) (F.cmp_Or_int.at K))
noncomputable def F.cmp_Or_int.B (c0 : (List Int) → (Int) → Option (Int)) (a0 : List Int) : Option (Int) :=
    (c0 a0 0)
theorem F.cmp_Or_int.eq K a0 : F.cmp_Or_int (K + 1) a0 = F.cmp_Or_int.B (F.cmp_Or_int.l11010 K K) a0 := (F.cmp_Or_int.in_main K a0).trans ((show ∀ H, F.cmp_Or_int.in K H [] [] ⟨slots [.sc (.list (.int .i64) a0 false)] 0, []⟩ = F.cmp_Or_int.B (fun a0 x0 => H [1, 1, 0, 1, 0] [K] (F.cmp_Or_int.l11010.st a0 x0)) a0 from by intro H; kernel_rfl) (F.cmp_Or_int.at K))
noncomputable def V.cmp_Or_int.l11010 (a0 : List Int) (x0 : Int) := lim fun v => F.cmp_Or_int.l11010 (v 0) (v 1) a0 x0
noncomputable def V.cmp_Or_int (a0 : List Int) := lim fun v => F.cmp_Or_int (v 0) a0
theorem V.cmp_Or_int.l11010.of a0 x0 {r} (h : F.cmp_Or_int.l11010.B V.cmp_Or_int.l11010 a0 x0 = some r) : V.cmp_Or_int.l11010 a0 x0 = some r :=
  App.to (App.step 1 (fun v => F.cmp_Or_int.l11010.eq (v 0) (v 1) a0 x0) (by unfold F.cmp_Or_int.l11010.B; repeat' first | exact App.val | exact App.no | exact App.lim | apply App.cond | apply App.guard | apply App.meet | apply App.ite | refine App.bind ?_ fun _ => ?_)) h
theorem V.cmp_Or_int.of a0 {r} (h : F.cmp_Or_int.B V.cmp_Or_int.l11010 a0 = some r) : V.cmp_Or_int a0 = some r :=
  App.to (App.step 0 (fun v => F.cmp_Or_int.eq (v 0) a0) (by unfold F.cmp_Or_int.B; repeat' first | exact App.val | exact App.no | exact App.lim | exact (App.enter 1 App.lim) | apply App.cond | apply App.guard | apply App.meet | apply App.ite | refine App.bind ?_ fun _ => ?_)) h
noncomputable def F.facts_Compare (K : Nat) (a0 : TFact) (a1 : TFact) : Option (Int) := evFn Try.prog sg K 26 [.agg [.val (.int .i64 a0.1), .val (.string a0.2.1), .val (.string a0.2.2.1), .val (.string a0.2.2.2)], .agg [.val (.int .i64 a1.1), .val (.string a1.2.1), .val (.string a1.2.2.1), .val (.string a1.2.2.2)]] []
noncomputable def F.facts_Compare.B (c0 : (Int) → (Int) → Option (Int)) (c1 : (ByteArray) → (ByteArray) → Option (Int)) (c2 : (List Int) → Option (Int)) (a0 : TFact) (a1 : TFact) : Option (Int) :=
    ((c0 a0.1 a1.1).bind fun t0 => ((c1 a0.2.1 a1.2.1).bind fun t1 => ((c1 a0.2.2.1 a1.2.2.1).bind fun t2 => ((c2 ([t0, t1, t2])).bind fun t3 => (some t3)))))
theorem F.facts_Compare.eq K a0 a1 : F.facts_Compare (K + 1) a0 a1 = F.facts_Compare.B (F.cmp_Compare_int K) (F.strings_Compare K) (F.cmp_Or_int K) a0 a1 := by kernel_rfl
noncomputable def V.facts_Compare (a0 : TFact) (a1 : TFact) := lim fun v => F.facts_Compare (v 0) a0 a1
theorem V.facts_Compare.of a0 a1 {r} (h : F.facts_Compare.B V.cmp_Compare_int V.strings_Compare V.cmp_Or_int a0 a1 = some r) : V.facts_Compare a0 a1 = some r :=
  App.to (App.step 0 (fun v => F.facts_Compare.eq (v 0) a0 a1) (by unfold F.facts_Compare.B; repeat' first | exact App.val | exact App.no | exact App.lim | apply App.cond | apply App.guard | apply App.meet | apply App.ite | refine App.bind ?_ fun _ => ?_)) h
noncomputable def F.slices_insertionSortCmpFunc_apiFact_f26 (K : Nat) (a0 : List TFact) (a1 : Int) (a2 : Int) : Option ((List TFact)) := evFn Try.prog sg K 150 [.sc (.own 0 none), .sc (.val (.int .i64 a1)), .sc (.val (.int .i64 a2)), .sc (.fn 26 [])] [.elems sFact a0]
noncomputable def F.slices_insertionSortCmpFunc_apiFact_f26.at (K : Nat) (p ns : List Nat) (s : St) : Option ((List TFact)) := atFn Try.prog sg K 150 1 p ns s
noncomputable def F.slices_insertionSortCmpFunc_apiFact_f26.in (K : Nat) (H : List Nat → List Nat → St → Option ((List TFact))) (p ns : List Nat) (s : St) : Option ((List TFact)) := inFn Try.prog sg K 150 1 [] H p ns s
theorem F.slices_insertionSortCmpFunc_apiFact_f26.in_eq K p ns s : F.slices_insertionSortCmpFunc_apiFact_f26.at K p ns s = F.slices_insertionSortCmpFunc_apiFact_f26.in K (F.slices_insertionSortCmpFunc_apiFact_f26.at K) p ns s := atFn_eq (P := Try.prog) (sg := sg) (K := K) (f := 150) (m := 1) [] p ns s
theorem F.slices_insertionSortCmpFunc_apiFact_f26.in_main K a0 a1 a2 : F.slices_insertionSortCmpFunc_apiFact_f26 (K + 1) a0 a1 a2 = F.slices_insertionSortCmpFunc_apiFact_f26.in K (F.slices_insertionSortCmpFunc_apiFact_f26.at K) [] [] ⟨slots [.sc (.own 0 none), .sc (.val (.int .i64 a1)), .sc (.val (.int .i64 a2)), .sc (.fn 26 [])] 0, [.elems sFact a0]⟩ := evFn_eq (P := Try.prog) (sg := sg) (K := K) (f := 150) (args := [.sc (.own 0 none), .sc (.val (.int .i64 a1)), .sc (.val (.int .i64 a2)), .sc (.fn 26 [])]) (σ := [.elems sFact a0]) [] (by kernel_rfl)
def F.slices_insertionSortCmpFunc_apiFact_f26.l10.st (a0 : List TFact) (a1 : Int) (a2 : Int) (x0 : Int) (x1 : List TFact) : St := ⟨[(0, .one (.sc (.own 0 none))), (1, vI a1), (2, vI a2), (3, .one (.sc (.fn 26 []))), (8, vI x0)], [.elems sFact x1]⟩
noncomputable def F.slices_insertionSortCmpFunc_apiFact_f26.l10 (K n0 : Nat) (a0 : List TFact) (a1 : Int) (a2 : Int) (x0 : Int) (x1 : List TFact) := F.slices_insertionSortCmpFunc_apiFact_f26.at K [1, 0] [n0] (F.slices_insertionSortCmpFunc_apiFact_f26.l10.st a0 a1 a2 x0 x1)
def F.slices_insertionSortCmpFunc_apiFact_f26.l10010010.st (a0 : List TFact) (a1 : Int) (a2 : Int) (x0 : Int) (x1 : Int) (x2 : List TFact) : St := ⟨[(0, .one (.sc (.own 0 none))), (1, vI a1), (2, vI a2), (3, .one (.sc (.fn 26 []))), (8, vI x0), (9, vI x1)], [.elems sFact x2]⟩
noncomputable def F.slices_insertionSortCmpFunc_apiFact_f26.l10010010 (K n0 n1 : Nat) (a0 : List TFact) (a1 : Int) (a2 : Int) (x0 : Int) (x1 : Int) (x2 : List TFact) := F.slices_insertionSortCmpFunc_apiFact_f26.at K [1, 0, 0, 1, 0, 0, 1, 0] [n0, n1] (F.slices_insertionSortCmpFunc_apiFact_f26.l10010010.st a0 a1 a2 x0 x1 x2)
noncomputable def F.slices_insertionSortCmpFunc_apiFact_f26.l10.B (c0 : (List TFact) → (Int) → (Int) → (Int) → (Int) → (List TFact) → Option ((List TFact))) (a0 : List TFact) (a1 : Int) (a2 : Int) (x0 : Int) (x1 : List TFact) : Option ((List TFact)) :=
    (bif (decide (x0 < a2)) then (c0 a0 a1 a2 x0 x0 x1) else (some x1))
theorem F.slices_insertionSortCmpFunc_apiFact_f26.l10.eq K n0 a0 a1 a2 x0 x1 : F.slices_insertionSortCmpFunc_apiFact_f26.l10 K (n0 + 1) a0 a1 a2 x0 x1 = F.slices_insertionSortCmpFunc_apiFact_f26.l10.B (F.slices_insertionSortCmpFunc_apiFact_f26.l10010010 K n0 K) a0 a1 a2 x0 x1 := (F.slices_insertionSortCmpFunc_apiFact_f26.in_eq K [1, 0] [n0 + 1] (F.slices_insertionSortCmpFunc_apiFact_f26.l10.st a0 a1 a2 x0 x1)).trans ((show ∀ H, F.slices_insertionSortCmpFunc_apiFact_f26.in K H [1, 0] [n0 + 1] (F.slices_insertionSortCmpFunc_apiFact_f26.l10.st a0 a1 a2 x0 x1) = F.slices_insertionSortCmpFunc_apiFact_f26.l10.B (fun a0 a1 a2 x0 x1 x2 => H [1, 0, 0, 1, 0, 0, 1, 0] [n0, K] (F.slices_insertionSortCmpFunc_apiFact_f26.l10010010.st a0 a1 a2 x0 x1 x2)) a0 a1 a2 x0 x1 from by intro H; kernel_rfl) (F.slices_insertionSortCmpFunc_apiFact_f26.at K))
noncomputable def F.slices_insertionSortCmpFunc_apiFact_f26.B (c0 : (List TFact) → (Int) → (Int) → (Int) → (List TFact) → Option ((List TFact))) (a0 : List TFact) (a1 : Int) (a2 : Int) : Option ((List TFact)) :=
    (c0 a0 a1 a2 (w64 (a1 + 1)) a0)
theorem F.slices_insertionSortCmpFunc_apiFact_f26.eq K a0 a1 a2 : F.slices_insertionSortCmpFunc_apiFact_f26 (K + 1) a0 a1 a2 = F.slices_insertionSortCmpFunc_apiFact_f26.B (F.slices_insertionSortCmpFunc_apiFact_f26.l10 K K) a0 a1 a2 := (F.slices_insertionSortCmpFunc_apiFact_f26.in_main K a0 a1 a2).trans ((show ∀ H, F.slices_insertionSortCmpFunc_apiFact_f26.in K H [] [] ⟨slots [.sc (.own 0 none), .sc (.val (.int .i64 a1)), .sc (.val (.int .i64 a2)), .sc (.fn 26 [])] 0, [.elems sFact a0]⟩ = F.slices_insertionSortCmpFunc_apiFact_f26.B (fun a0 a1 a2 x0 x1 => H [1, 0] [K] (F.slices_insertionSortCmpFunc_apiFact_f26.l10.st a0 a1 a2 x0 x1)) a0 a1 a2 from by intro H; kernel_rfl) (F.slices_insertionSortCmpFunc_apiFact_f26.at K))
noncomputable def V.slices_insertionSortCmpFunc_apiFact_f26.l10 (a0 : List TFact) (a1 : Int) (a2 : Int) (x0 : Int) (x1 : List TFact) := lim fun v => F.slices_insertionSortCmpFunc_apiFact_f26.l10 (v 0) (v 1) a0 a1 a2 x0 x1
noncomputable def V.slices_insertionSortCmpFunc_apiFact_f26.l10010010 (a0 : List TFact) (a1 : Int) (a2 : Int) (x0 : Int) (x1 : Int) (x2 : List TFact) := lim fun v => F.slices_insertionSortCmpFunc_apiFact_f26.l10010010 (v 0) (v 1) (v 2) a0 a1 a2 x0 x1 x2
noncomputable def V.slices_insertionSortCmpFunc_apiFact_f26 (a0 : List TFact) (a1 : Int) (a2 : Int) := lim fun v => F.slices_insertionSortCmpFunc_apiFact_f26 (v 0) a0 a1 a2
theorem V.slices_insertionSortCmpFunc_apiFact_f26.l10.of a0 a1 a2 x0 x1 {r} (h : F.slices_insertionSortCmpFunc_apiFact_f26.l10.B V.slices_insertionSortCmpFunc_apiFact_f26.l10010010 a0 a1 a2 x0 x1 = some r) : V.slices_insertionSortCmpFunc_apiFact_f26.l10 a0 a1 a2 x0 x1 = some r :=
  App.to (App.step 1 (fun v => F.slices_insertionSortCmpFunc_apiFact_f26.l10.eq (v 0) (v 1) a0 a1 a2 x0 x1) (by unfold F.slices_insertionSortCmpFunc_apiFact_f26.l10.B; repeat' first | exact App.val | exact App.no | exact App.lim | exact (App.enter 2 App.lim) | apply App.cond | apply App.guard | apply App.meet | apply App.ite | refine App.bind ?_ fun _ => ?_)) h
theorem V.slices_insertionSortCmpFunc_apiFact_f26.of a0 a1 a2 {r} (h : F.slices_insertionSortCmpFunc_apiFact_f26.B V.slices_insertionSortCmpFunc_apiFact_f26.l10 a0 a1 a2 = some r) : V.slices_insertionSortCmpFunc_apiFact_f26 a0 a1 a2 = some r :=
  App.to (App.step 0 (fun v => F.slices_insertionSortCmpFunc_apiFact_f26.eq (v 0) a0 a1 a2) (by unfold F.slices_insertionSortCmpFunc_apiFact_f26.B; repeat' first | exact App.val | exact App.no | exact App.lim | exact (App.enter 1 App.lim) | apply App.cond | apply App.guard | apply App.meet | apply App.ite | refine App.bind ?_ fun _ => ?_)) h
noncomputable def F.slices_stableCmpFunc_apiFact_f26 (K : Nat) (a0 : List TFact) (a1 : Int) : Option ((List TFact)) := evFn Try.prog sg K 112 [.sc (.own 0 none), .sc (.val (.int .i64 a1)), .sc (.fn 26 [])] [.elems sFact a0]
noncomputable def F.slices_stableCmpFunc_apiFact_f26.at (K : Nat) (p ns : List Nat) (s : St) : Option ((List TFact)) := atFn Try.prog sg K 112 1 p ns s
noncomputable def F.slices_stableCmpFunc_apiFact_f26.in (K : Nat) (H : List Nat → List Nat → St → Option ((List TFact))) (p ns : List Nat) (s : St) : Option ((List TFact)) := inFn Try.prog sg K 112 1 [] H p ns s
theorem F.slices_stableCmpFunc_apiFact_f26.in_eq K p ns s : F.slices_stableCmpFunc_apiFact_f26.at K p ns s = F.slices_stableCmpFunc_apiFact_f26.in K (F.slices_stableCmpFunc_apiFact_f26.at K) p ns s := atFn_eq (P := Try.prog) (sg := sg) (K := K) (f := 112) (m := 1) [] p ns s
theorem F.slices_stableCmpFunc_apiFact_f26.in_main K a0 a1 : F.slices_stableCmpFunc_apiFact_f26 (K + 1) a0 a1 = F.slices_stableCmpFunc_apiFact_f26.in K (F.slices_stableCmpFunc_apiFact_f26.at K) [] [] ⟨slots [.sc (.own 0 none), .sc (.val (.int .i64 a1)), .sc (.fn 26 [])] 0, [.elems sFact a0]⟩ := evFn_eq (P := Try.prog) (sg := sg) (K := K) (f := 112) (args := [.sc (.own 0 none), .sc (.val (.int .i64 a1)), .sc (.fn 26 [])]) (σ := [.elems sFact a0]) [] (by kernel_rfl)
def F.slices_stableCmpFunc_apiFact_f26.l1100.st (a0 : List TFact) (a1 : Int) (x0 : Int) (x1 : Int) (x2 : List TFact) : St := ⟨[(0, .one (.sc (.own 0 none))), (1, vI a1), (2, .one (.sc (.fn 26 []))), (6, vI 20), (7, vI x0), (8, vI x1)], [.elems sFact x2]⟩
noncomputable def F.slices_stableCmpFunc_apiFact_f26.l1100 (K n0 : Nat) (a0 : List TFact) (a1 : Int) (x0 : Int) (x1 : Int) (x2 : List TFact) := F.slices_stableCmpFunc_apiFact_f26.at K [1, 1, 0, 0] [n0] (F.slices_stableCmpFunc_apiFact_f26.l1100.st a0 a1 x0 x1 x2)
def F.slices_stableCmpFunc_apiFact_f26.l11110.st (a0 : List TFact) (a1 : Int) (x0 : Int) (x1 : List TFact) : St := ⟨[(0, .one (.sc (.own 0 none))), (1, vI a1), (2, .one (.sc (.fn 26 []))), (6, vI x0)], [.elems sFact x1]⟩
noncomputable def F.slices_stableCmpFunc_apiFact_f26.l11110 (K n0 : Nat) (a0 : List TFact) (a1 : Int) (x0 : Int) (x1 : List TFact) := F.slices_stableCmpFunc_apiFact_f26.at K [1, 1, 1, 1, 0] [n0] (F.slices_stableCmpFunc_apiFact_f26.l11110.st a0 a1 x0 x1)
def F.slices_stableCmpFunc_apiFact_f26.l11110010100.st (a0 : List TFact) (a1 : Int) (x0 : Int) (x1 : Int) (x2 : Int) (x3 : List TFact) : St := ⟨[(0, .one (.sc (.own 0 none))), (1, vI a1), (2, .one (.sc (.fn 26 []))), (6, vI x0), (7, vI x1), (8, vI x2)], [.elems sFact x3]⟩
noncomputable def F.slices_stableCmpFunc_apiFact_f26.l11110010100 (K n0 n1 : Nat) (a0 : List TFact) (a1 : Int) (x0 : Int) (x1 : Int) (x2 : Int) (x3 : List TFact) := F.slices_stableCmpFunc_apiFact_f26.at K [1, 1, 1, 1, 0, 0, 1, 0, 1, 0, 0] [n0, n1] (F.slices_stableCmpFunc_apiFact_f26.l11110010100.st a0 a1 x0 x1 x2 x3)
noncomputable def F.slices_stableCmpFunc_apiFact_f26.l1100.B (c0 : (List TFact) → (Int) → (Int) → Option ((List TFact))) (c1 : (List TFact) → (Int) → (Int) → (Int) → (List TFact) → Option ((List TFact))) (c2 : (List TFact) → (Int) → (Int) → (List TFact) → Option ((List TFact))) (a0 : List TFact) (a1 : Int) (x0 : Int) (x1 : Int) (x2 : List TFact) : Option ((List TFact)) :=
    (bif (decide (x1 ≤ a1)) then ((c0 x2 x0 x1).bind fun t0 => (c1 a0 a1 x1 (w64 (x1 + 20)) t0)) else ((c0 x2 x0 a1).bind fun t1 => (c2 a0 a1 20 t1)))
theorem F.slices_stableCmpFunc_apiFact_f26.l1100.eq K n0 a0 a1 x0 x1 x2 : F.slices_stableCmpFunc_apiFact_f26.l1100 K (n0 + 1) a0 a1 x0 x1 x2 = F.slices_stableCmpFunc_apiFact_f26.l1100.B (F.slices_insertionSortCmpFunc_apiFact_f26 K) (F.slices_stableCmpFunc_apiFact_f26.l1100 K n0) (F.slices_stableCmpFunc_apiFact_f26.l11110 K K) a0 a1 x0 x1 x2 := (F.slices_stableCmpFunc_apiFact_f26.in_eq K [1, 1, 0, 0] [n0 + 1] (F.slices_stableCmpFunc_apiFact_f26.l1100.st a0 a1 x0 x1 x2)).trans ((show ∀ H, F.slices_stableCmpFunc_apiFact_f26.in K H [1, 1, 0, 0] [n0 + 1] (F.slices_stableCmpFunc_apiFact_f26.l1100.st a0 a1 x0 x1 x2) = F.slices_stableCmpFunc_apiFact_f26.l1100.B (F.slices_insertionSortCmpFunc_apiFact_f26 K) (fun a0 a1 x0 x1 x2 => H [1, 1, 0, 0] [n0] (F.slices_stableCmpFunc_apiFact_f26.l1100.st a0 a1 x0 x1 x2)) (fun a0 a1 x0 x1 => H [1, 1, 1, 1, 0] [K] (F.slices_stableCmpFunc_apiFact_f26.l11110.st a0 a1 x0 x1)) a0 a1 x0 x1 x2 from by intro H; kernel_rfl) (F.slices_stableCmpFunc_apiFact_f26.at K))
noncomputable def F.slices_stableCmpFunc_apiFact_f26.l11110.B (c0 : (List TFact) → (Int) → (Int) → (Int) → (Int) → (List TFact) → Option ((List TFact))) (a0 : List TFact) (a1 : Int) (x0 : Int) (x1 : List TFact) : Option ((List TFact)) :=
    (bif (decide (x0 < a1)) then (c0 a0 a1 x0 0 (w64 (2 * x0)) x1) else (some x1))
theorem F.slices_stableCmpFunc_apiFact_f26.l11110.eq K n0 a0 a1 x0 x1 : F.slices_stableCmpFunc_apiFact_f26.l11110 K (n0 + 1) a0 a1 x0 x1 = F.slices_stableCmpFunc_apiFact_f26.l11110.B (F.slices_stableCmpFunc_apiFact_f26.l11110010100 K n0 K) a0 a1 x0 x1 := (F.slices_stableCmpFunc_apiFact_f26.in_eq K [1, 1, 1, 1, 0] [n0 + 1] (F.slices_stableCmpFunc_apiFact_f26.l11110.st a0 a1 x0 x1)).trans ((show ∀ H, F.slices_stableCmpFunc_apiFact_f26.in K H [1, 1, 1, 1, 0] [n0 + 1] (F.slices_stableCmpFunc_apiFact_f26.l11110.st a0 a1 x0 x1) = F.slices_stableCmpFunc_apiFact_f26.l11110.B (fun a0 a1 x0 x1 x2 x3 => H [1, 1, 1, 1, 0, 0, 1, 0, 1, 0, 0] [n0, K] (F.slices_stableCmpFunc_apiFact_f26.l11110010100.st a0 a1 x0 x1 x2 x3)) a0 a1 x0 x1 from by intro H; kernel_rfl) (F.slices_stableCmpFunc_apiFact_f26.at K))
noncomputable def F.slices_stableCmpFunc_apiFact_f26.B (c0 : (List TFact) → (Int) → (Int) → (Int) → (List TFact) → Option ((List TFact))) (a0 : List TFact) (a1 : Int) : Option ((List TFact)) :=
    (c0 a0 a1 0 20 a0)
theorem F.slices_stableCmpFunc_apiFact_f26.eq K a0 a1 : F.slices_stableCmpFunc_apiFact_f26 (K + 1) a0 a1 = F.slices_stableCmpFunc_apiFact_f26.B (F.slices_stableCmpFunc_apiFact_f26.l1100 K K) a0 a1 := (F.slices_stableCmpFunc_apiFact_f26.in_main K a0 a1).trans ((show ∀ H, F.slices_stableCmpFunc_apiFact_f26.in K H [] [] ⟨slots [.sc (.own 0 none), .sc (.val (.int .i64 a1)), .sc (.fn 26 [])] 0, [.elems sFact a0]⟩ = F.slices_stableCmpFunc_apiFact_f26.B (fun a0 a1 x0 x1 x2 => H [1, 1, 0, 0] [K] (F.slices_stableCmpFunc_apiFact_f26.l1100.st a0 a1 x0 x1 x2)) a0 a1 from by intro H; kernel_rfl) (F.slices_stableCmpFunc_apiFact_f26.at K))
noncomputable def V.slices_stableCmpFunc_apiFact_f26.l1100 (a0 : List TFact) (a1 : Int) (x0 : Int) (x1 : Int) (x2 : List TFact) := lim fun v => F.slices_stableCmpFunc_apiFact_f26.l1100 (v 0) (v 1) a0 a1 x0 x1 x2
noncomputable def V.slices_stableCmpFunc_apiFact_f26.l11110 (a0 : List TFact) (a1 : Int) (x0 : Int) (x1 : List TFact) := lim fun v => F.slices_stableCmpFunc_apiFact_f26.l11110 (v 0) (v 1) a0 a1 x0 x1
noncomputable def V.slices_stableCmpFunc_apiFact_f26.l11110010100 (a0 : List TFact) (a1 : Int) (x0 : Int) (x1 : Int) (x2 : Int) (x3 : List TFact) := lim fun v => F.slices_stableCmpFunc_apiFact_f26.l11110010100 (v 0) (v 1) (v 2) a0 a1 x0 x1 x2 x3
noncomputable def V.slices_stableCmpFunc_apiFact_f26 (a0 : List TFact) (a1 : Int) := lim fun v => F.slices_stableCmpFunc_apiFact_f26 (v 0) a0 a1
theorem V.slices_stableCmpFunc_apiFact_f26.l1100.of a0 a1 x0 x1 x2 {r} (h : F.slices_stableCmpFunc_apiFact_f26.l1100.B V.slices_insertionSortCmpFunc_apiFact_f26 V.slices_stableCmpFunc_apiFact_f26.l1100 V.slices_stableCmpFunc_apiFact_f26.l11110 a0 a1 x0 x1 x2 = some r) : V.slices_stableCmpFunc_apiFact_f26.l1100 a0 a1 x0 x1 x2 = some r :=
  App.to (App.step 1 (fun v => F.slices_stableCmpFunc_apiFact_f26.l1100.eq (v 0) (v 1) a0 a1 x0 x1 x2) (by unfold F.slices_stableCmpFunc_apiFact_f26.l1100.B; repeat' first | exact App.val | exact App.no | exact App.lim | exact (App.enter 1 App.lim) | apply App.cond | apply App.guard | apply App.meet | apply App.ite | refine App.bind ?_ fun _ => ?_)) h
theorem V.slices_stableCmpFunc_apiFact_f26.l11110.of a0 a1 x0 x1 {r} (h : F.slices_stableCmpFunc_apiFact_f26.l11110.B V.slices_stableCmpFunc_apiFact_f26.l11110010100 a0 a1 x0 x1 = some r) : V.slices_stableCmpFunc_apiFact_f26.l11110 a0 a1 x0 x1 = some r :=
  App.to (App.step 1 (fun v => F.slices_stableCmpFunc_apiFact_f26.l11110.eq (v 0) (v 1) a0 a1 x0 x1) (by unfold F.slices_stableCmpFunc_apiFact_f26.l11110.B; repeat' first | exact App.val | exact App.no | exact App.lim | exact (App.enter 2 App.lim) | apply App.cond | apply App.guard | apply App.meet | apply App.ite | refine App.bind ?_ fun _ => ?_)) h
theorem V.slices_stableCmpFunc_apiFact_f26.of a0 a1 {r} (h : F.slices_stableCmpFunc_apiFact_f26.B V.slices_stableCmpFunc_apiFact_f26.l1100 a0 a1 = some r) : V.slices_stableCmpFunc_apiFact_f26 a0 a1 = some r :=
  App.to (App.step 0 (fun v => F.slices_stableCmpFunc_apiFact_f26.eq (v 0) a0 a1) (by unfold F.slices_stableCmpFunc_apiFact_f26.B; repeat' first | exact App.val | exact App.no | exact App.lim | exact (App.enter 1 App.lim) | apply App.cond | apply App.guard | apply App.meet | apply App.ite | refine App.bind ?_ fun _ => ?_)) h
noncomputable def F.slices_SortStableFunc_apiFactapiFact_f26 (K : Nat) (a0 : List TFact) : Option ((List TFact)) := evFn Try.prog sg K 59 [.sc (.own 0 none), .sc (.fn 26 [])] [.elems sFact a0]
noncomputable def F.slices_SortStableFunc_apiFactapiFact_f26.B (c0 : (List TFact) → (Int) → Option ((List TFact))) (a0 : List TFact) : Option ((List TFact)) :=
    ((c0 a0 (a0.length : Int)).bind fun t0 => (some t0))
theorem F.slices_SortStableFunc_apiFactapiFact_f26.eq K a0 : F.slices_SortStableFunc_apiFactapiFact_f26 (K + 1) a0 = F.slices_SortStableFunc_apiFactapiFact_f26.B (F.slices_stableCmpFunc_apiFact_f26 K) a0 := by kernel_rfl
noncomputable def V.slices_SortStableFunc_apiFactapiFact_f26 (a0 : List TFact) := lim fun v => F.slices_SortStableFunc_apiFactapiFact_f26 (v 0) a0
theorem V.slices_SortStableFunc_apiFactapiFact_f26.of a0 {r} (h : F.slices_SortStableFunc_apiFactapiFact_f26.B V.slices_stableCmpFunc_apiFact_f26 a0 = some r) : V.slices_SortStableFunc_apiFactapiFact_f26 a0 = some r :=
  App.to (App.step 0 (fun v => F.slices_SortStableFunc_apiFactapiFact_f26.eq (v 0) a0) (by unfold F.slices_SortStableFunc_apiFactapiFact_f26.B; repeat' first | exact App.val | exact App.no | exact App.lim | apply App.cond | apply App.guard | apply App.meet | apply App.ite | refine App.bind ?_ fun _ => ?_)) h
noncomputable def F.facts_Of (K : Nat) (a0 : TGraph) : Option ((List TFact)) := evFn Try.prog sg K 14 [.agg [.list sNode a0.1 false, .list sEdge a0.2 false]] []
noncomputable def F.facts_Of.at (K : Nat) (p ns : List Nat) (s : St) : Option ((List TFact)) := atFn Try.prog sg K 14 0 p ns s
noncomputable def F.facts_Of.in (K : Nat) (H : List Nat → List Nat → St → Option ((List TFact))) (p ns : List Nat) (s : St) : Option ((List TFact)) := inFn Try.prog sg K 14 0 [] H p ns s
theorem F.facts_Of.in_eq K p ns s : F.facts_Of.at K p ns s = F.facts_Of.in K (F.facts_Of.at K) p ns s := atFn_eq (P := Try.prog) (sg := sg) (K := K) (f := 14) (m := 0) [] p ns s
theorem F.facts_Of.in_main K a0 : F.facts_Of (K + 1) a0 = F.facts_Of.in K (F.facts_Of.at K) [] [] ⟨slots [.agg [.list sNode a0.1 false, .list sEdge a0.2 false]] 0, []⟩ := evFn_eq (P := Try.prog) (sg := sg) (K := K) (f := 14) (args := [.agg [.list sNode a0.1 false, .list sEdge a0.2 false]]) (σ := []) [] (by kernel_rfl)
def F.facts_Of.l111010.st (a0 : TGraph) (x0 : Int) (x1 : List TFact) : St := ⟨[(1, .one (.sc (.ref 0 0))), (3, .one (.sc (.own 1 none))), (12, vL sNode a0.1), (13, vI (a0.1.length : Int)), (14, vI x0)], [.cells 25 [.list sNode a0.1 false, .list sEdge a0.2 false], .elems sFact x1]⟩
noncomputable def F.facts_Of.l111010 (K n0 : Nat) (a0 : TGraph) (x0 : Int) (x1 : List TFact) := F.facts_Of.at K [1, 1, 1, 0, 1, 0] [n0] (F.facts_Of.l111010.st a0 x0 x1)
def F.facts_Of.l1111010.st (a0 : TGraph) (x0 : Int) (x1 : List TFact) : St := ⟨[(3, .one (.sc (.own 0 none))), (35, vL sEdge a0.2), (36, vI (a0.2.length : Int)), (37, vI x0)], [.elems sFact x1]⟩
noncomputable def F.facts_Of.l1111010 (K n0 : Nat) (a0 : TGraph) (x0 : Int) (x1 : List TFact) := F.facts_Of.at K [1, 1, 1, 1, 0, 1, 0] [n0] (F.facts_Of.l1111010.st a0 x0 x1)
noncomputable def F.facts_Of.l111010.B (c0 : (ByteArray) → (Int) → (Int) → (List ByteArray) → (List TProp) → Option ((List TFact))) (c1 : (TGraph) → (Int) → (List TFact) → Option ((List TFact))) (c2 : (TGraph) → (Int) → (List TFact) → Option ((List TFact))) (a0 : TGraph) (x0 : Int) (x1 : List TFact) : Option ((List TFact)) :=
    (bif (decide (x0 < (a0.1.length : Int))) then (guardK (decide (0 ≤ x0) && decide (x0 < (a0.1.length : Int))) (guardK (decide (x1.length + ([(1, (rd sNode a0.1 x0.toNat).1, (⟨#[]⟩ : ByteArray), (⟨#[]⟩ : ByteArray))]).length ≤ nmax)) ((c0 ((rd sNode a0.1 x0.toNat).1) 2 3 (((rd sNode a0.1 x0.toNat).2).1) (((rd sNode a0.1 x0.toNat).2).2)).bind fun t1 => (guardK (decide ((x1 ++ [(1, (rd sNode a0.1 x0.toNat).1, (⟨#[]⟩ : ByteArray), (⟨#[]⟩ : ByteArray))]).length + t1.length ≤ nmax)) (c1 a0 (w64 (x0 + 1)) ((x1 ++ [(1, (rd sNode a0.1 x0.toNat).1, (⟨#[]⟩ : ByteArray), (⟨#[]⟩ : ByteArray))]) ++ t1)))))) else (c2 a0 0 x1))
theorem F.facts_Of.l111010.eq K n0 a0 x0 x1 : F.facts_Of.l111010 K (n0 + 1) a0 x0 x1 = F.facts_Of.l111010.B (F.facts_of K) (F.facts_Of.l111010 K n0) (F.facts_Of.l1111010 K K) a0 x0 x1 := (F.facts_Of.in_eq K [1, 1, 1, 0, 1, 0] [n0 + 1] (F.facts_Of.l111010.st a0 x0 x1)).trans ((show ∀ H, F.facts_Of.in K H [1, 1, 1, 0, 1, 0] [n0 + 1] (F.facts_Of.l111010.st a0 x0 x1) = F.facts_Of.l111010.B (F.facts_of K) (fun a0 x0 x1 => H [1, 1, 1, 0, 1, 0] [n0] (F.facts_Of.l111010.st a0 x0 x1)) (fun a0 x0 x1 => H [1, 1, 1, 1, 0, 1, 0] [K] (F.facts_Of.l1111010.st a0 x0 x1)) a0 x0 x1 from by intro H; kernel_rfl) (F.facts_Of.at K))
noncomputable def F.facts_Of.l1111010.B (c0 : (ByteArray) → (ByteArray) → Option (ByteArray)) (c1 : (ByteArray) → (Int) → (Int) → (List ByteArray) → (List TProp) → Option ((List TFact))) (c2 : (TGraph) → (Int) → (List TFact) → Option ((List TFact))) (c3 : (List TFact) → Option ((List TFact))) (a0 : TGraph) (x0 : Int) (x1 : List TFact) : Option ((List TFact)) :=
    (bif (decide (x0 < (a0.2.length : Int))) then (guardK (decide (0 ≤ x0) && decide (x0 < (a0.2.length : Int))) ((c0 (((rd sEdge a0.2 x0.toNat).2).1) ((((rd sEdge a0.2 x0.toNat).2).2).1)).bind fun t2 => (guardK (decide (x1.length + ([(4, (rd sEdge a0.2 x0.toNat).1, (⟨#[]⟩ : ByteArray), t2)]).length ≤ nmax)) ((c1 ((rd sEdge a0.2 x0.toNat).1) 5 6 (((((rd sEdge a0.2 x0.toNat).2).2).2).1) (((((rd sEdge a0.2 x0.toNat).2).2).2).2)).bind fun t3 => (guardK (decide ((x1 ++ [(4, (rd sEdge a0.2 x0.toNat).1, (⟨#[]⟩ : ByteArray), t2)]).length + t3.length ≤ nmax)) (c2 a0 (w64 (x0 + 1)) ((x1 ++ [(4, (rd sEdge a0.2 x0.toNat).1, (⟨#[]⟩ : ByteArray), t2)]) ++ t3))))))) else ((c3 x1).bind fun t4 => (some t4)))
theorem F.facts_Of.l1111010.eq K n0 a0 x0 x1 : F.facts_Of.l1111010 K (n0 + 1) a0 x0 x1 = F.facts_Of.l1111010.B (F.facts_Ends K) (F.facts_of K) (F.facts_Of.l1111010 K n0) (F.slices_SortStableFunc_apiFactapiFact_f26 K) a0 x0 x1 := (F.facts_Of.in_eq K [1, 1, 1, 1, 0, 1, 0] [n0 + 1] (F.facts_Of.l1111010.st a0 x0 x1)).trans ((show ∀ H, F.facts_Of.in K H [1, 1, 1, 1, 0, 1, 0] [n0 + 1] (F.facts_Of.l1111010.st a0 x0 x1) = F.facts_Of.l1111010.B (F.facts_Ends K) (F.facts_of K) (fun a0 x0 x1 => H [1, 1, 1, 1, 0, 1, 0] [n0] (F.facts_Of.l1111010.st a0 x0 x1)) (F.slices_SortStableFunc_apiFactapiFact_f26 K) a0 x0 x1 from by intro H; kernel_rfl) (F.facts_Of.at K))
noncomputable def F.facts_Of.B (c0 : (TGraph) → Option (Int)) (c1 : (TGraph) → (Int) → (List TFact) → Option ((List TFact))) (a0 : TGraph) : Option ((List TFact)) :=
    ((c0 (a0.1, a0.2)).bind fun t0 => (bif (t0 != 0) then (some ([])) else (c1 a0 0 ([]))))
theorem F.facts_Of.eq K a0 : F.facts_Of (K + 1) a0 = F.facts_Of.B (F.graph_Check K) (F.facts_Of.l111010 K K) a0 := (F.facts_Of.in_main K a0).trans ((show ∀ H, F.facts_Of.in K H [] [] ⟨slots [.agg [.list sNode a0.1 false, .list sEdge a0.2 false]] 0, []⟩ = F.facts_Of.B (F.graph_Check K) (fun a0 x0 x1 => H [1, 1, 1, 0, 1, 0] [K] (F.facts_Of.l111010.st a0 x0 x1)) a0 from by intro H; kernel_rfl) (F.facts_Of.at K))
noncomputable def V.facts_Of.l111010 (a0 : TGraph) (x0 : Int) (x1 : List TFact) := lim fun v => F.facts_Of.l111010 (v 0) (v 1) a0 x0 x1
noncomputable def V.facts_Of.l1111010 (a0 : TGraph) (x0 : Int) (x1 : List TFact) := lim fun v => F.facts_Of.l1111010 (v 0) (v 1) a0 x0 x1
noncomputable def V.facts_Of (a0 : TGraph) := lim fun v => F.facts_Of (v 0) a0
theorem V.facts_Of.l111010.of a0 x0 x1 {r} (h : F.facts_Of.l111010.B V.facts_of V.facts_Of.l111010 V.facts_Of.l1111010 a0 x0 x1 = some r) : V.facts_Of.l111010 a0 x0 x1 = some r :=
  App.to (App.step 1 (fun v => F.facts_Of.l111010.eq (v 0) (v 1) a0 x0 x1) (by unfold F.facts_Of.l111010.B; repeat' first | exact App.val | exact App.no | exact App.lim | exact (App.enter 1 App.lim) | apply App.cond | apply App.guard | apply App.meet | apply App.ite | refine App.bind ?_ fun _ => ?_)) h
theorem V.facts_Of.l1111010.of a0 x0 x1 {r} (h : F.facts_Of.l1111010.B V.facts_Ends V.facts_of V.facts_Of.l1111010 V.slices_SortStableFunc_apiFactapiFact_f26 a0 x0 x1 = some r) : V.facts_Of.l1111010 a0 x0 x1 = some r :=
  App.to (App.step 1 (fun v => F.facts_Of.l1111010.eq (v 0) (v 1) a0 x0 x1) (by unfold F.facts_Of.l1111010.B; repeat' first | exact App.val | exact App.no | exact App.lim | apply App.cond | apply App.guard | apply App.meet | apply App.ite | refine App.bind ?_ fun _ => ?_)) h
theorem V.facts_Of.of a0 {r} (h : F.facts_Of.B V.graph_Check V.facts_Of.l111010 a0 = some r) : V.facts_Of a0 = some r :=
  App.to (App.step 0 (fun v => F.facts_Of.eq (v 0) a0) (by unfold F.facts_Of.B; repeat' first | exact App.val | exact App.no | exact App.lim | exact (App.enter 1 App.lim) | apply App.cond | apply App.guard | apply App.meet | apply App.ite | refine App.bind ?_ fun _ => ?_)) h
noncomputable def F.pleachlaw27_awake (K : Nat) : Option (Bool) := evFn Try.prog sg K 13 [] []
noncomputable def F.pleachlaw27_awake.B (c0 : (TGraph) → Option ((List TFact))) : Option (Bool) :=
    ((c0 ([((⟨#[97]⟩ : ByteArray), [], [])], [])).bind fun t0 => (bif ((t0.length : Int) == 1) then (guardK (decide (0 < (t0.length : Int))) (some (((rd sFact t0 0).1 == 1) && ((strEq (((rd sFact t0 0).2).1) (⟨#[97]⟩ : ByteArray)) && ((strEq ((((rd sFact t0 0).2).2).1) (⟨#[]⟩ : ByteArray)) && ((strEq ((((rd sFact t0 0).2).2).2) (⟨#[]⟩ : ByteArray)) && true)))))) else (some false)))
theorem F.pleachlaw27_awake.eq K : F.pleachlaw27_awake (K + 1) = F.pleachlaw27_awake.B (F.facts_Of K) := by kernel_rfl
noncomputable def V.pleachlaw27_awake := lim fun v => F.pleachlaw27_awake (v 0)
theorem V.pleachlaw27_awake.of {r} (h : F.pleachlaw27_awake.B V.facts_Of = some r) : V.pleachlaw27_awake = some r :=
  App.to (App.step 0 (fun v => F.pleachlaw27_awake.eq (v 0)) (by unfold F.pleachlaw27_awake.B; repeat' first | exact App.val | exact App.no | exact App.lim | apply App.cond | apply App.guard | apply App.meet | apply App.ite | refine App.bind ?_ fun _ => ?_)) h
noncomputable def F.pleachref27_Less (K : Nat) (a0 : TFact) (a1 : TFact) : Option (Bool) := evFn Try.prog sg K 23 [.agg [.val (.int .i64 a0.1), .val (.string a0.2.1), .val (.string a0.2.2.1), .val (.string a0.2.2.2)], .agg [.val (.int .i64 a1.1), .val (.string a1.2.1), .val (.string a1.2.2.1), .val (.string a1.2.2.2)]] []
noncomputable def F.pleachref27_Less.B (a0 : TFact) (a1 : TFact) : Option (Bool) :=
    (bif (a0.1 != a1.1) then (some (decide (a0.1 < a1.1))) else (bif (!strEq a0.2.1 a1.2.1) then (some (strLt a0.2.1 a1.2.1)) else (some (strLt a0.2.2.1 a1.2.2.1))))
theorem F.pleachref27_Less.eq K a0 a1 : F.pleachref27_Less (K + 1) a0 a1 = F.pleachref27_Less.B a0 a1 := by kernel_rfl
noncomputable def V.pleachref27_Less (a0 : TFact) (a1 : TFact) := lim fun v => F.pleachref27_Less (v 0) a0 a1
theorem V.pleachref27_Less.of a0 a1 {r} (h : F.pleachref27_Less.B a0 a1 = some r) : V.pleachref27_Less a0 a1 = some r :=
  App.to (App.step 0 (fun v => F.pleachref27_Less.eq (v 0) a0 a1) (by unfold F.pleachref27_Less.B; repeat' first | exact App.val | exact App.no | exact App.lim | apply App.cond | apply App.guard | apply App.meet | apply App.ite | refine App.bind ?_ fun _ => ?_)) h
noncomputable def F.pleachref27_Rises (K : Nat) (a0 : List TFact) : Option (Bool) := evFn Try.prog sg K 19 [.sc (.list sFact a0 false)] []
noncomputable def F.pleachref27_Rises.at (K : Nat) (p ns : List Nat) (s : St) : Option (Bool) := atFn Try.prog sg K 19 0 p ns s
noncomputable def F.pleachref27_Rises.in (K : Nat) (H : List Nat → List Nat → St → Option (Bool)) (p ns : List Nat) (s : St) : Option (Bool) := inFn Try.prog sg K 19 0 [] H p ns s
theorem F.pleachref27_Rises.in_eq K p ns s : F.pleachref27_Rises.at K p ns s = F.pleachref27_Rises.in K (F.pleachref27_Rises.at K) p ns s := atFn_eq (P := Try.prog) (sg := sg) (K := K) (f := 19) (m := 0) [] p ns s
theorem F.pleachref27_Rises.in_main K a0 : F.pleachref27_Rises (K + 1) a0 = F.pleachref27_Rises.in K (F.pleachref27_Rises.at K) [] [] ⟨slots [.sc (.list sFact a0 false)] 0, []⟩ := evFn_eq (P := Try.prog) (sg := sg) (K := K) (f := 19) (args := [.sc (.list sFact a0 false)]) (σ := []) [] (by kernel_rfl)
def F.pleachref27_Rises.l1010.st (a0 : List TFact) (x0 : Int) : St := ⟨[(0, vL sFact a0), (3, vI x0)], []⟩
noncomputable def F.pleachref27_Rises.l1010 (K n0 : Nat) (a0 : List TFact) (x0 : Int) := F.pleachref27_Rises.at K [1, 0, 1, 0] [n0] (F.pleachref27_Rises.l1010.st a0 x0)
noncomputable def F.pleachref27_Rises.l1010.B (c0 : (TFact) → (TFact) → Option (Bool)) (c1 : (List TFact) → (Int) → Option (Bool)) (a0 : List TFact) (x0 : Int) : Option (Bool) :=
    (bif (decide (x0 < (a0.length : Int))) then (guardK (decide (0 ≤ (w64 (x0 - 1))) && decide ((w64 (x0 - 1)) < (a0.length : Int))) (guardK (decide (0 ≤ x0) && decide (x0 < (a0.length : Int))) ((c0 ((rd sFact a0 ((w64 (x0 - 1)).toNat)).1, ((rd sFact a0 ((w64 (x0 - 1)).toNat)).2).1, (((rd sFact a0 ((w64 (x0 - 1)).toNat)).2).2).1, (((rd sFact a0 ((w64 (x0 - 1)).toNat)).2).2).2) ((rd sFact a0 x0.toNat).1, ((rd sFact a0 x0.toNat).2).1, (((rd sFact a0 x0.toNat).2).2).1, (((rd sFact a0 x0.toNat).2).2).2)).bind fun t0 => (bif (!t0) then (some false) else (c1 a0 (w64 (x0 + 1))))))) else (some true))
theorem F.pleachref27_Rises.l1010.eq K n0 a0 x0 : F.pleachref27_Rises.l1010 K (n0 + 1) a0 x0 = F.pleachref27_Rises.l1010.B (F.pleachref27_Less K) (F.pleachref27_Rises.l1010 K n0) a0 x0 := (F.pleachref27_Rises.in_eq K [1, 0, 1, 0] [n0 + 1] (F.pleachref27_Rises.l1010.st a0 x0)).trans ((show ∀ H, F.pleachref27_Rises.in K H [1, 0, 1, 0] [n0 + 1] (F.pleachref27_Rises.l1010.st a0 x0) = F.pleachref27_Rises.l1010.B (F.pleachref27_Less K) (fun a0 x0 => H [1, 0, 1, 0] [n0] (F.pleachref27_Rises.l1010.st a0 x0)) a0 x0 from by intro H; kernel_rfl) (F.pleachref27_Rises.at K))
noncomputable def F.pleachref27_Rises.B (c0 : (List TFact) → (Int) → Option (Bool)) (a0 : List TFact) : Option (Bool) :=
    (c0 a0 1)
theorem F.pleachref27_Rises.eq K a0 : F.pleachref27_Rises (K + 1) a0 = F.pleachref27_Rises.B (F.pleachref27_Rises.l1010 K K) a0 := (F.pleachref27_Rises.in_main K a0).trans ((show ∀ H, F.pleachref27_Rises.in K H [] [] ⟨slots [.sc (.list sFact a0 false)] 0, []⟩ = F.pleachref27_Rises.B (fun a0 x0 => H [1, 0, 1, 0] [K] (F.pleachref27_Rises.l1010.st a0 x0)) a0 from by intro H; kernel_rfl) (F.pleachref27_Rises.at K))
noncomputable def V.pleachref27_Rises.l1010 (a0 : List TFact) (x0 : Int) := lim fun v => F.pleachref27_Rises.l1010 (v 0) (v 1) a0 x0
noncomputable def V.pleachref27_Rises (a0 : List TFact) := lim fun v => F.pleachref27_Rises (v 0) a0
theorem V.pleachref27_Rises.l1010.of a0 x0 {r} (h : F.pleachref27_Rises.l1010.B V.pleachref27_Less V.pleachref27_Rises.l1010 a0 x0 = some r) : V.pleachref27_Rises.l1010 a0 x0 = some r :=
  App.to (App.step 1 (fun v => F.pleachref27_Rises.l1010.eq (v 0) (v 1) a0 x0) (by unfold F.pleachref27_Rises.l1010.B; repeat' first | exact App.val | exact App.no | exact App.lim | apply App.cond | apply App.guard | apply App.meet | apply App.ite | refine App.bind ?_ fun _ => ?_)) h
theorem V.pleachref27_Rises.of a0 {r} (h : F.pleachref27_Rises.B V.pleachref27_Rises.l1010 a0 = some r) : V.pleachref27_Rises a0 = some r :=
  App.to (App.step 0 (fun v => F.pleachref27_Rises.eq (v 0) a0) (by unfold F.pleachref27_Rises.B; repeat' first | exact App.val | exact App.no | exact App.lim | exact (App.enter 1 App.lim) | apply App.cond | apply App.guard | apply App.meet | apply App.ite | refine App.bind ?_ fun _ => ?_)) h
noncomputable def F.facts_change (K : Nat) (a0 : TFact) : Option (TChange) := evFn Try.prog sg K 61 [.agg [.val (.int .i64 a0.1), .val (.string a0.2.1), .val (.string a0.2.2.1), .val (.string a0.2.2.2)]] []
noncomputable def F.facts_change.B (a0 : TFact) : Option (TChange) :=
    (some (a0.1, a0.2.1, a0.2.2.1, false, false, (⟨#[]⟩ : ByteArray), (⟨#[]⟩ : ByteArray)))
theorem F.facts_change.eq K a0 : F.facts_change (K + 1) a0 = F.facts_change.B a0 := by kernel_rfl
noncomputable def V.facts_change (a0 : TFact) := lim fun v => F.facts_change (v 0) a0
theorem V.facts_change.of a0 {r} (h : F.facts_change.B a0 = some r) : V.facts_change a0 = some r :=
  App.to (App.step 0 (fun v => F.facts_change.eq (v 0) a0) (by unfold F.facts_change.B; repeat' first | exact App.val | exact App.no | exact App.lim | apply App.cond | apply App.guard | apply App.meet | apply App.ite | refine App.bind ?_ fun _ => ?_)) h
noncomputable def F.facts_Diff (K : Nat) (a0 : List TFact) (a1 : List TFact) : Option ((List TChange)) := evFn Try.prog sg K 21 [.sc (.list sFact a0 false), .sc (.list sFact a1 false)] []
noncomputable def F.facts_Diff.at (K : Nat) (p ns : List Nat) (s : St) : Option ((List TChange)) := atFn Try.prog sg K 21 0 p ns s
noncomputable def F.facts_Diff.in (K : Nat) (H : List Nat → List Nat → St → Option ((List TChange))) (p ns : List Nat) (s : St) : Option ((List TChange)) := inFn Try.prog sg K 21 0 [] H p ns s
theorem F.facts_Diff.in_eq K p ns s : F.facts_Diff.at K p ns s = F.facts_Diff.in K (F.facts_Diff.at K) p ns s := atFn_eq (P := Try.prog) (sg := sg) (K := K) (f := 21) (m := 0) [] p ns s
theorem F.facts_Diff.in_main K a0 a1 : F.facts_Diff (K + 1) a0 a1 = F.facts_Diff.in K (F.facts_Diff.at K) [] [] ⟨slots [.sc (.list sFact a0 false), .sc (.list sFact a1 false)] 0, []⟩ := evFn_eq (P := Try.prog) (sg := sg) (K := K) (f := 21) (args := [.sc (.list sFact a0 false), .sc (.list sFact a1 false)]) (σ := []) [] (by kernel_rfl)
def F.facts_Diff.l1100.st (a0 : List TFact) (a1 : List TFact) (x0 : List TFact) (x1 : List TFact) (x2 : List TChange) : St := ⟨[(0, vL sFact x0), (1, vL sFact x1), (5, .one (.sc (.own 0 none)))], [.elems sChange x2]⟩
noncomputable def F.facts_Diff.l1100 (K n0 : Nat) (a0 : List TFact) (a1 : List TFact) (x0 : List TFact) (x1 : List TFact) (x2 : List TChange) := F.facts_Diff.at K [1, 1, 0, 0] [n0] (F.facts_Diff.l1100.st a0 a1 x0 x1 x2)
noncomputable def F.facts_Diff.l1100.B (c0 : (TFact) → Option (TChange)) (c1 : (List TFact) → (List TFact) → (List TFact) → (List TFact) → (List TChange) → Option ((List TChange))) (c2 : (TFact) → (TFact) → Option (Int)) (a0 : List TFact) (a1 : List TFact) (x0 : List TFact) (x1 : List TFact) (x2 : List TChange) : Option ((List TChange)) :=
    (bif (decide ((w64 ((x0.length : Int) + (x1.length : Int))) > 0)) then (bif ((x0.length : Int) == 0) then (guardK (decide (0 < (x1.length : Int))) ((c0 ((rd sFact x1 0).1, ((rd sFact x1 0).2).1, (((rd sFact x1 0).2).2).1, (((rd sFact x1 0).2).2).2)).bind fun t0 => (guardK (decide (0 < (x1.length : Int))) (guardK (decide (1 ≤ (x1.length : Int)) && decide ((x1.length : Int) ≤ (x1.length : Int))) (guardK (decide (x2.length + ([(t0.1, t0.2.1, t0.2.2.1, t0.2.2.2.1, true, t0.2.2.2.2.2.1, (((rd sFact x1 0).2).2).2)]).length ≤ nmax)) (c1 a0 a1 x0 ((x1.take ((x1.length : Int).toNat)).drop 1) (x2 ++ [(t0.1, t0.2.1, t0.2.2.1, t0.2.2.2.1, true, t0.2.2.2.2.2.1, (((rd sFact x1 0).2).2).2)]))))))) else (bif ((x1.length : Int) == 0) then (guardK (decide (0 < (x0.length : Int))) ((c0 ((rd sFact x0 0).1, ((rd sFact x0 0).2).1, (((rd sFact x0 0).2).2).1, (((rd sFact x0 0).2).2).2)).bind fun t1 => (guardK (decide (0 < (x0.length : Int))) (guardK (decide (1 ≤ (x0.length : Int)) && decide ((x0.length : Int) ≤ (x0.length : Int))) (guardK (decide (x2.length + ([(t1.1, t1.2.1, t1.2.2.1, true, t1.2.2.2.2.1, (((rd sFact x0 0).2).2).2, t1.2.2.2.2.2.2)]).length ≤ nmax)) (c1 a0 a1 ((x0.take ((x0.length : Int).toNat)).drop 1) x1 (x2 ++ [(t1.1, t1.2.1, t1.2.2.1, true, t1.2.2.2.2.1, (((rd sFact x0 0).2).2).2, t1.2.2.2.2.2.2)]))))))) else (guardK (decide (0 < (x0.length : Int))) (guardK (decide (0 < (x1.length : Int))) ((c2 ((rd sFact x0 0).1, ((rd sFact x0 0).2).1, (((rd sFact x0 0).2).2).1, (((rd sFact x0 0).2).2).2) ((rd sFact x1 0).1, ((rd sFact x1 0).2).1, (((rd sFact x1 0).2).2).1, (((rd sFact x1 0).2).2).2)).bind fun t2 => (bif (decide (t2 < 0)) then (guardK (decide (0 < (x0.length : Int))) ((c0 ((rd sFact x0 0).1, ((rd sFact x0 0).2).1, (((rd sFact x0 0).2).2).1, (((rd sFact x0 0).2).2).2)).bind fun t3 => (guardK (decide (0 < (x0.length : Int))) (guardK (decide (1 ≤ (x0.length : Int)) && decide ((x0.length : Int) ≤ (x0.length : Int))) (guardK (decide (x2.length + ([(t3.1, t3.2.1, t3.2.2.1, true, t3.2.2.2.2.1, (((rd sFact x0 0).2).2).2, t3.2.2.2.2.2.2)]).length ≤ nmax)) (c1 a0 a1 ((x0.take ((x0.length : Int).toNat)).drop 1) x1 (x2 ++ [(t3.1, t3.2.1, t3.2.2.1, true, t3.2.2.2.2.1, (((rd sFact x0 0).2).2).2, t3.2.2.2.2.2.2)]))))))) else (bif (decide (t2 > 0)) then (guardK (decide (0 < (x1.length : Int))) ((c0 ((rd sFact x1 0).1, ((rd sFact x1 0).2).1, (((rd sFact x1 0).2).2).1, (((rd sFact x1 0).2).2).2)).bind fun t4 => (guardK (decide (0 < (x1.length : Int))) (guardK (decide (1 ≤ (x1.length : Int)) && decide ((x1.length : Int) ≤ (x1.length : Int))) (guardK (decide (x2.length + ([(t4.1, t4.2.1, t4.2.2.1, t4.2.2.2.1, true, t4.2.2.2.2.2.1, (((rd sFact x1 0).2).2).2)]).length ≤ nmax)) (c1 a0 a1 x0 ((x1.take ((x1.length : Int).toNat)).drop 1) (x2 ++ [(t4.1, t4.2.1, t4.2.2.1, t4.2.2.2.1, true, t4.2.2.2.2.2.1, (((rd sFact x1 0).2).2).2)]))))))) else (guardK (decide (0 < (x0.length : Int))) (guardK (decide (0 < (x1.length : Int))) (bif (!strEq ((((rd sFact x0 0).2).2).2) ((((rd sFact x1 0).2).2).2)) then (guardK (decide (0 < (x0.length : Int))) ((c0 ((rd sFact x0 0).1, ((rd sFact x0 0).2).1, (((rd sFact x0 0).2).2).1, (((rd sFact x0 0).2).2).2)).bind fun t5 => (guardK (decide (0 < (x0.length : Int))) (guardK (decide (0 < (x1.length : Int))) (guardK (decide (x2.length + ([(t5.1, t5.2.1, t5.2.2.1, true, true, (((rd sFact x0 0).2).2).2, (((rd sFact x1 0).2).2).2)]).length ≤ nmax)) (guardK (decide (1 ≤ (x0.length : Int)) && decide ((x0.length : Int) ≤ (x0.length : Int))) (guardK (decide (1 ≤ (x1.length : Int)) && decide ((x1.length : Int) ≤ (x1.length : Int))) (c1 a0 a1 ((x0.take ((x0.length : Int).toNat)).drop 1) ((x1.take ((x1.length : Int).toNat)).drop 1) (x2 ++ [(t5.1, t5.2.1, t5.2.2.1, true, true, (((rd sFact x0 0).2).2).2, (((rd sFact x1 0).2).2).2)]))))))))) else (guardK (decide (1 ≤ (x0.length : Int)) && decide ((x0.length : Int) ≤ (x0.length : Int))) (guardK (decide (1 ≤ (x1.length : Int)) && decide ((x1.length : Int) ≤ (x1.length : Int))) (c1 a0 a1 ((x0.take ((x0.length : Int).toNat)).drop 1) ((x1.take ((x1.length : Int).toNat)).drop 1) x2))))))))))))) else (some x2))
theorem F.facts_Diff.l1100.eq K n0 a0 a1 x0 x1 x2 : F.facts_Diff.l1100 K (n0 + 1) a0 a1 x0 x1 x2 = F.facts_Diff.l1100.B (F.facts_change K) (F.facts_Diff.l1100 K n0) (F.facts_Compare K) a0 a1 x0 x1 x2 := (F.facts_Diff.in_eq K [1, 1, 0, 0] [n0 + 1] (F.facts_Diff.l1100.st a0 a1 x0 x1 x2)).trans ((show ∀ H, F.facts_Diff.in K H [1, 1, 0, 0] [n0 + 1] (F.facts_Diff.l1100.st a0 a1 x0 x1 x2) = F.facts_Diff.l1100.B (F.facts_change K) (fun a0 a1 x0 x1 x2 => H [1, 1, 0, 0] [n0] (F.facts_Diff.l1100.st a0 a1 x0 x1 x2)) (F.facts_Compare K) a0 a1 x0 x1 x2 from by intro H; kernel_rfl) (F.facts_Diff.at K))
noncomputable def F.facts_Diff.B (c0 : (List TFact) → (List TFact) → (List TFact) → (List TFact) → (List TChange) → Option ((List TChange))) (a0 : List TFact) (a1 : List TFact) : Option ((List TChange)) :=
    (c0 a0 a1 a0 a1 ([]))
theorem F.facts_Diff.eq K a0 a1 : F.facts_Diff (K + 1) a0 a1 = F.facts_Diff.B (F.facts_Diff.l1100 K K) a0 a1 := (F.facts_Diff.in_main K a0 a1).trans ((show ∀ H, F.facts_Diff.in K H [] [] ⟨slots [.sc (.list sFact a0 false), .sc (.list sFact a1 false)] 0, []⟩ = F.facts_Diff.B (fun a0 a1 x0 x1 x2 => H [1, 1, 0, 0] [K] (F.facts_Diff.l1100.st a0 a1 x0 x1 x2)) a0 a1 from by intro H; kernel_rfl) (F.facts_Diff.at K))
noncomputable def V.facts_Diff.l1100 (a0 : List TFact) (a1 : List TFact) (x0 : List TFact) (x1 : List TFact) (x2 : List TChange) := lim fun v => F.facts_Diff.l1100 (v 0) (v 1) a0 a1 x0 x1 x2
noncomputable def V.facts_Diff (a0 : List TFact) (a1 : List TFact) := lim fun v => F.facts_Diff (v 0) a0 a1
theorem V.facts_Diff.l1100.of a0 a1 x0 x1 x2 {r} (h : F.facts_Diff.l1100.B V.facts_change V.facts_Diff.l1100 V.facts_Compare a0 a1 x0 x1 x2 = some r) : V.facts_Diff.l1100 a0 a1 x0 x1 x2 = some r :=
  App.to (App.step 1 (fun v => F.facts_Diff.l1100.eq (v 0) (v 1) a0 a1 x0 x1 x2) (by unfold F.facts_Diff.l1100.B; repeat' first | exact App.val | exact App.no | exact App.lim | apply App.cond | apply App.guard | apply App.meet | apply App.ite | refine App.bind ?_ fun _ => ?_)) h
theorem V.facts_Diff.of a0 a1 {r} (h : F.facts_Diff.B V.facts_Diff.l1100 a0 a1 = some r) : V.facts_Diff a0 a1 = some r :=
  App.to (App.step 0 (fun v => F.facts_Diff.eq (v 0) a0 a1) (by unfold F.facts_Diff.B; repeat' first | exact App.val | exact App.no | exact App.lim | exact (App.enter 1 App.lim) | apply App.cond | apply App.guard | apply App.meet | apply App.ite | refine App.bind ?_ fun _ => ?_)) h
noncomputable def F.pleachref27_Both (K : Nat) (a0 : List TFact) (a1 : List TFact) : Option ((List TFact)) := evFn Try.prog sg K 62 [.sc (.list sFact a0 false), .sc (.list sFact a1 false)] []
noncomputable def F.pleachref27_Both.at (K : Nat) (p ns : List Nat) (s : St) : Option ((List TFact)) := atFn Try.prog sg K 62 0 p ns s
noncomputable def F.pleachref27_Both.in (K : Nat) (H : List Nat → List Nat → St → Option ((List TFact))) (p ns : List Nat) (s : St) : Option ((List TFact)) := inFn Try.prog sg K 62 0 [[1, 1, 1, 0, 0, 0, 0, 1], [1, 1, 1, 0, 0, 0, 1], [1, 1, 1, 0, 0, 0, 1, 0, 0, 1], [1, 1, 1, 0, 0, 0, 1, 0, 0, 1, 0, 1, 1, 1, 0, 1], [1, 1, 1, 0, 0, 0, 1, 0, 0, 1, 0, 1, 1, 1, 1], [1, 1, 1, 0, 0, 0, 1, 0, 1]] H p ns s
theorem F.pleachref27_Both.in_eq K p ns s : F.pleachref27_Both.at K p ns s = F.pleachref27_Both.in K (F.pleachref27_Both.at K) p ns s := atFn_eq (P := Try.prog) (sg := sg) (K := K) (f := 62) (m := 0) [[1, 1, 1, 0, 0, 0, 0, 1], [1, 1, 1, 0, 0, 0, 1], [1, 1, 1, 0, 0, 0, 1, 0, 0, 1], [1, 1, 1, 0, 0, 0, 1, 0, 0, 1, 0, 1, 1, 1, 0, 1], [1, 1, 1, 0, 0, 0, 1, 0, 0, 1, 0, 1, 1, 1, 1], [1, 1, 1, 0, 0, 0, 1, 0, 1]] p ns s
theorem F.pleachref27_Both.in_main K a0 a1 : F.pleachref27_Both (K + 1) a0 a1 = F.pleachref27_Both.in K (F.pleachref27_Both.at K) [] [] ⟨slots [.sc (.list sFact a0 false), .sc (.list sFact a1 false)] 0, []⟩ := evFn_eq (P := Try.prog) (sg := sg) (K := K) (f := 62) (args := [.sc (.list sFact a0 false), .sc (.list sFact a1 false)]) (σ := []) [[1, 1, 1, 0, 0, 0, 0, 1], [1, 1, 1, 0, 0, 0, 1], [1, 1, 1, 0, 0, 0, 1, 0, 0, 1], [1, 1, 1, 0, 0, 0, 1, 0, 0, 1, 0, 1, 1, 1, 0, 1], [1, 1, 1, 0, 0, 0, 1, 0, 0, 1, 0, 1, 1, 1, 1], [1, 1, 1, 0, 0, 0, 1, 0, 1]] (by kernel_rfl)
def F.pleachref27_Both.l11100.st (a0 : List TFact) (a1 : List TFact) (x0 : Int) (x1 : Int) (x2 : List TFact) : St := ⟨[(0, vL sFact a0), (1, vL sFact a1), (5, .one (.sc (.own 0 none))), (6, vI x0), (7, vI x1)], [.elems sFact x2]⟩
noncomputable def F.pleachref27_Both.l11100 (K n0 : Nat) (a0 : List TFact) (a1 : List TFact) (x0 : Int) (x1 : Int) (x2 : List TFact) := F.pleachref27_Both.at K [1, 1, 1, 0, 0] [n0] (F.pleachref27_Both.l11100.st a0 a1 x0 x1 x2)
def F.pleachref27_Both.j11100001.st (a0 : List TFact) (a1 : List TFact) (x0 : Int) (x1 : Int) (x2 : Bool) (x3 : List TFact) : St := ⟨[(0, vL sFact a0), (1, vL sFact a1), (5, .one (.sc (.own 0 none))), (6, vI x0), (7, vI x1), (19, vB x2)], [.elems sFact x3]⟩
noncomputable def F.pleachref27_Both.j11100001 (K n0 : Nat) (a0 : List TFact) (a1 : List TFact) (x0 : Int) (x1 : Int) (x2 : Bool) (x3 : List TFact) := F.pleachref27_Both.at K [1, 1, 1, 0, 0, 0, 0, 1] [n0] (F.pleachref27_Both.j11100001.st a0 a1 x0 x1 x2 x3)
def F.pleachref27_Both.j1110001.st (a0 : List TFact) (a1 : List TFact) (x0 : Int) (x1 : Int) (x2 : List TFact) : St := ⟨[(0, vL sFact a0), (1, vL sFact a1), (5, .one (.sc (.own 0 none))), (6, vI x0), (7, vI x1)], [.elems sFact x2]⟩
noncomputable def F.pleachref27_Both.j1110001 (K n0 : Nat) (a0 : List TFact) (a1 : List TFact) (x0 : Int) (x1 : Int) (x2 : List TFact) := F.pleachref27_Both.at K [1, 1, 1, 0, 0, 0, 1] [n0] (F.pleachref27_Both.j1110001.st a0 a1 x0 x1 x2)
def F.pleachref27_Both.j1110001001.st (a0 : List TFact) (a1 : List TFact) (x0 : Int) (x1 : Int) (x2 : Bool) (x3 : List TFact) : St := ⟨[(0, vL sFact a0), (1, vL sFact a1), (5, .one (.sc (.own 0 none))), (6, vI x0), (7, vI x1), (41, vB x2)], [.elems sFact x3]⟩
noncomputable def F.pleachref27_Both.j1110001001 (K n0 : Nat) (a0 : List TFact) (a1 : List TFact) (x0 : Int) (x1 : Int) (x2 : Bool) (x3 : List TFact) := F.pleachref27_Both.at K [1, 1, 1, 0, 0, 0, 1, 0, 0, 1] [n0] (F.pleachref27_Both.j1110001001.st a0 a1 x0 x1 x2 x3)
def F.pleachref27_Both.j1110001001011101.st (a0 : List TFact) (a1 : List TFact) (x0 : Int) (x1 : Int) (x2 : Bool) (x3 : List TFact) : St := ⟨[(0, vL sFact a0), (1, vL sFact a1), (5, .one (.sc (.own 0 none))), (6, vI x0), (7, vI x1), (66, vB x2)], [.elems sFact x3]⟩
noncomputable def F.pleachref27_Both.j1110001001011101 (K n0 : Nat) (a0 : List TFact) (a1 : List TFact) (x0 : Int) (x1 : Int) (x2 : Bool) (x3 : List TFact) := F.pleachref27_Both.at K [1, 1, 1, 0, 0, 0, 1, 0, 0, 1, 0, 1, 1, 1, 0, 1] [n0] (F.pleachref27_Both.j1110001001011101.st a0 a1 x0 x1 x2 x3)
def F.pleachref27_Both.j111000100101111.st (a0 : List TFact) (a1 : List TFact) (x0 : Int) (x1 : Int) (x2 : List TFact) : St := ⟨[(0, vL sFact a0), (1, vL sFact a1), (5, .one (.sc (.own 0 none))), (6, vI x0), (7, vI x1)], [.elems sFact x2]⟩
noncomputable def F.pleachref27_Both.j111000100101111 (K n0 : Nat) (a0 : List TFact) (a1 : List TFact) (x0 : Int) (x1 : Int) (x2 : List TFact) := F.pleachref27_Both.at K [1, 1, 1, 0, 0, 0, 1, 0, 0, 1, 0, 1, 1, 1, 1] [n0] (F.pleachref27_Both.j111000100101111.st a0 a1 x0 x1 x2)
def F.pleachref27_Both.j111000101.st (a0 : List TFact) (a1 : List TFact) (x0 : Int) (x1 : Int) (x2 : List TFact) : St := ⟨[(0, vL sFact a0), (1, vL sFact a1), (5, .one (.sc (.own 0 none))), (6, vI x0), (7, vI x1)], [.elems sFact x2]⟩
noncomputable def F.pleachref27_Both.j111000101 (K n0 : Nat) (a0 : List TFact) (a1 : List TFact) (x0 : Int) (x1 : Int) (x2 : List TFact) := F.pleachref27_Both.at K [1, 1, 1, 0, 0, 0, 1, 0, 1] [n0] (F.pleachref27_Both.j111000101.st a0 a1 x0 x1 x2)
noncomputable def F.pleachref27_Both.l11100.B (c0 : (List TFact) → (List TFact) → (Int) → (Int) → (Bool) → (List TFact) → Option ((List TFact))) (a0 : List TFact) (a1 : List TFact) (x0 : Int) (x1 : Int) (x2 : List TFact) : Option ((List TFact)) :=
    (bif (decide (x0 < (a0.length : Int))) then (c0 a0 a1 x0 x1 true x2) else (c0 a0 a1 x0 x1 (decide (x1 < (a1.length : Int))) x2))
theorem F.pleachref27_Both.l11100.eq K n0 a0 a1 x0 x1 x2 : F.pleachref27_Both.l11100 K (n0 + 1) a0 a1 x0 x1 x2 = F.pleachref27_Both.l11100.B (F.pleachref27_Both.j11100001 K n0) a0 a1 x0 x1 x2 := (F.pleachref27_Both.in_eq K [1, 1, 1, 0, 0] [n0 + 1] (F.pleachref27_Both.l11100.st a0 a1 x0 x1 x2)).trans ((show ∀ H, F.pleachref27_Both.in K H [1, 1, 1, 0, 0] [n0 + 1] (F.pleachref27_Both.l11100.st a0 a1 x0 x1 x2) = F.pleachref27_Both.l11100.B (fun a0 a1 x0 x1 x2 x3 => H [1, 1, 1, 0, 0, 0, 0, 1] [n0] (F.pleachref27_Both.j11100001.st a0 a1 x0 x1 x2 x3)) a0 a1 x0 x1 x2 from by intro H; kernel_rfl) (F.pleachref27_Both.at K))
noncomputable def F.pleachref27_Both.j11100001.B (c0 : (List TFact) → (List TFact) → (Int) → (Int) → (List TFact) → Option ((List TFact))) (a0 : List TFact) (a1 : List TFact) (x0 : Int) (x1 : Int) (x2 : Bool) (x3 : List TFact) : Option ((List TFact)) :=
    (bif x2 then (c0 a0 a1 x0 x1 x3) else (some x3))
theorem F.pleachref27_Both.j11100001.eq K n0 a0 a1 x0 x1 x2 x3 : F.pleachref27_Both.j11100001 K n0 a0 a1 x0 x1 x2 x3 = F.pleachref27_Both.j11100001.B (F.pleachref27_Both.j1110001 K n0) a0 a1 x0 x1 x2 x3 := (F.pleachref27_Both.in_eq K [1, 1, 1, 0, 0, 0, 0, 1] [n0] (F.pleachref27_Both.j11100001.st a0 a1 x0 x1 x2 x3)).trans ((show ∀ H, F.pleachref27_Both.in K H [1, 1, 1, 0, 0, 0, 0, 1] [n0] (F.pleachref27_Both.j11100001.st a0 a1 x0 x1 x2 x3) = F.pleachref27_Both.j11100001.B (fun a0 a1 x0 x1 x2 => H [1, 1, 1, 0, 0, 0, 1] [n0] (F.pleachref27_Both.j1110001.st a0 a1 x0 x1 x2)) a0 a1 x0 x1 x2 x3 from by intro H; kernel_rfl) (F.pleachref27_Both.at K))
noncomputable def F.pleachref27_Both.j1110001.B (c0 : (List TFact) → (List TFact) → (Int) → (Int) → (Bool) → (List TFact) → Option ((List TFact))) (c1 : (TFact) → (TFact) → Option (Bool)) (a0 : List TFact) (a1 : List TFact) (x0 : Int) (x1 : Int) (x2 : List TFact) : Option ((List TFact)) :=
    (bif (x1 == (a1.length : Int)) then (c0 a0 a1 x0 x1 true x2) else (bif (decide (x0 < (a0.length : Int))) then (guardK (decide (0 ≤ x1) && decide (x1 < (a1.length : Int))) (guardK (decide (0 ≤ x0) && decide (x0 < (a0.length : Int))) ((c1 ((rd sFact a1 x1.toNat).1, ((rd sFact a1 x1.toNat).2).1, (((rd sFact a1 x1.toNat).2).2).1, (((rd sFact a1 x1.toNat).2).2).2) ((rd sFact a0 x0.toNat).1, ((rd sFact a0 x0.toNat).2).1, (((rd sFact a0 x0.toNat).2).2).1, (((rd sFact a0 x0.toNat).2).2).2)).bind fun t0 => (c0 a0 a1 x0 x1 (!t0) x2)))) else (c0 a0 a1 x0 x1 false x2)))
theorem F.pleachref27_Both.j1110001.eq K n0 a0 a1 x0 x1 x2 : F.pleachref27_Both.j1110001 K n0 a0 a1 x0 x1 x2 = F.pleachref27_Both.j1110001.B (F.pleachref27_Both.j1110001001 K n0) (F.pleachref27_Less K) a0 a1 x0 x1 x2 := (F.pleachref27_Both.in_eq K [1, 1, 1, 0, 0, 0, 1] [n0] (F.pleachref27_Both.j1110001.st a0 a1 x0 x1 x2)).trans ((show ∀ H, F.pleachref27_Both.in K H [1, 1, 1, 0, 0, 0, 1] [n0] (F.pleachref27_Both.j1110001.st a0 a1 x0 x1 x2) = F.pleachref27_Both.j1110001.B (fun a0 a1 x0 x1 x2 x3 => H [1, 1, 1, 0, 0, 0, 1, 0, 0, 1] [n0] (F.pleachref27_Both.j1110001001.st a0 a1 x0 x1 x2 x3)) (F.pleachref27_Less K) a0 a1 x0 x1 x2 from by intro H; kernel_rfl) (F.pleachref27_Both.at K))
noncomputable def F.pleachref27_Both.j1110001001.B (c0 : (TFact) → (TFact) → Option (Bool)) (c1 : (List TFact) → (List TFact) → (Int) → (Int) → (Bool) → (List TFact) → Option ((List TFact))) (c2 : (List TFact) → (List TFact) → (Int) → (Int) → (List TFact) → Option ((List TFact))) (a0 : List TFact) (a1 : List TFact) (x0 : Int) (x1 : Int) (x2 : Bool) (x3 : List TFact) : Option ((List TFact)) :=
    (bif x2 then (guardK (decide (0 ≤ x0) && decide (x0 < (a0.length : Int))) (guardK (decide (x3.length + ([((rd sFact a0 x0.toNat).1, ((rd sFact a0 x0.toNat).2).1, (((rd sFact a0 x0.toNat).2).2).1, (⟨#[]⟩ : ByteArray))]).length ≤ nmax)) (bif (decide (x1 < (a1.length : Int))) then (guardK (decide (0 ≤ x0) && decide (x0 < (a0.length : Int))) (guardK (decide (0 ≤ x1) && decide (x1 < (a1.length : Int))) ((c0 ((rd sFact a0 x0.toNat).1, ((rd sFact a0 x0.toNat).2).1, (((rd sFact a0 x0.toNat).2).2).1, (((rd sFact a0 x0.toNat).2).2).2) ((rd sFact a1 x1.toNat).1, ((rd sFact a1 x1.toNat).2).1, (((rd sFact a1 x1.toNat).2).2).1, (((rd sFact a1 x1.toNat).2).2).2)).bind fun t1 => (c1 a0 a1 x0 x1 (!t1) (x3 ++ [((rd sFact a0 x0.toNat).1, ((rd sFact a0 x0.toNat).2).1, (((rd sFact a0 x0.toNat).2).2).1, (⟨#[]⟩ : ByteArray))]))))) else (c1 a0 a1 x0 x1 false (x3 ++ [((rd sFact a0 x0.toNat).1, ((rd sFact a0 x0.toNat).2).1, (((rd sFact a0 x0.toNat).2).2).1, (⟨#[]⟩ : ByteArray))]))))) else (c2 a0 a1 x0 x1 x3))
theorem F.pleachref27_Both.j1110001001.eq K n0 a0 a1 x0 x1 x2 x3 : F.pleachref27_Both.j1110001001 K n0 a0 a1 x0 x1 x2 x3 = F.pleachref27_Both.j1110001001.B (F.pleachref27_Less K) (F.pleachref27_Both.j1110001001011101 K n0) (F.pleachref27_Both.j111000101 K n0) a0 a1 x0 x1 x2 x3 := (F.pleachref27_Both.in_eq K [1, 1, 1, 0, 0, 0, 1, 0, 0, 1] [n0] (F.pleachref27_Both.j1110001001.st a0 a1 x0 x1 x2 x3)).trans ((show ∀ H, F.pleachref27_Both.in K H [1, 1, 1, 0, 0, 0, 1, 0, 0, 1] [n0] (F.pleachref27_Both.j1110001001.st a0 a1 x0 x1 x2 x3) = F.pleachref27_Both.j1110001001.B (F.pleachref27_Less K) (fun a0 a1 x0 x1 x2 x3 => H [1, 1, 1, 0, 0, 0, 1, 0, 0, 1, 0, 1, 1, 1, 0, 1] [n0] (F.pleachref27_Both.j1110001001011101.st a0 a1 x0 x1 x2 x3)) (fun a0 a1 x0 x1 x2 => H [1, 1, 1, 0, 0, 0, 1, 0, 1] [n0] (F.pleachref27_Both.j111000101.st a0 a1 x0 x1 x2)) a0 a1 x0 x1 x2 x3 from by intro H; kernel_rfl) (F.pleachref27_Both.at K))
noncomputable def F.pleachref27_Both.j1110001001011101.B (c0 : (List TFact) → (List TFact) → (Int) → (Int) → (List TFact) → Option ((List TFact))) (a0 : List TFact) (a1 : List TFact) (x0 : Int) (x1 : Int) (x2 : Bool) (x3 : List TFact) : Option ((List TFact)) :=
    (bif x2 then (c0 a0 a1 x0 (w64 (x1 + 1)) x3) else (c0 a0 a1 x0 x1 x3))
theorem F.pleachref27_Both.j1110001001011101.eq K n0 a0 a1 x0 x1 x2 x3 : F.pleachref27_Both.j1110001001011101 K n0 a0 a1 x0 x1 x2 x3 = F.pleachref27_Both.j1110001001011101.B (F.pleachref27_Both.j111000100101111 K n0) a0 a1 x0 x1 x2 x3 := (F.pleachref27_Both.in_eq K [1, 1, 1, 0, 0, 0, 1, 0, 0, 1, 0, 1, 1, 1, 0, 1] [n0] (F.pleachref27_Both.j1110001001011101.st a0 a1 x0 x1 x2 x3)).trans ((show ∀ H, F.pleachref27_Both.in K H [1, 1, 1, 0, 0, 0, 1, 0, 0, 1, 0, 1, 1, 1, 0, 1] [n0] (F.pleachref27_Both.j1110001001011101.st a0 a1 x0 x1 x2 x3) = F.pleachref27_Both.j1110001001011101.B (fun a0 a1 x0 x1 x2 => H [1, 1, 1, 0, 0, 0, 1, 0, 0, 1, 0, 1, 1, 1, 1] [n0] (F.pleachref27_Both.j111000100101111.st a0 a1 x0 x1 x2)) a0 a1 x0 x1 x2 x3 from by intro H; kernel_rfl) (F.pleachref27_Both.at K))
noncomputable def F.pleachref27_Both.j111000100101111.B (c0 : (List TFact) → (List TFact) → (Int) → (Int) → (List TFact) → Option ((List TFact))) (a0 : List TFact) (a1 : List TFact) (x0 : Int) (x1 : Int) (x2 : List TFact) : Option ((List TFact)) :=
    (c0 a0 a1 (w64 (x0 + 1)) x1 x2)
theorem F.pleachref27_Both.j111000100101111.eq K n0 a0 a1 x0 x1 x2 : F.pleachref27_Both.j111000100101111 K n0 a0 a1 x0 x1 x2 = F.pleachref27_Both.j111000100101111.B (F.pleachref27_Both.l11100 K n0) a0 a1 x0 x1 x2 := (F.pleachref27_Both.in_eq K [1, 1, 1, 0, 0, 0, 1, 0, 0, 1, 0, 1, 1, 1, 1] [n0] (F.pleachref27_Both.j111000100101111.st a0 a1 x0 x1 x2)).trans ((show ∀ H, F.pleachref27_Both.in K H [1, 1, 1, 0, 0, 0, 1, 0, 0, 1, 0, 1, 1, 1, 1] [n0] (F.pleachref27_Both.j111000100101111.st a0 a1 x0 x1 x2) = F.pleachref27_Both.j111000100101111.B (fun a0 a1 x0 x1 x2 => H [1, 1, 1, 0, 0] [n0] (F.pleachref27_Both.l11100.st a0 a1 x0 x1 x2)) a0 a1 x0 x1 x2 from by intro H; kernel_rfl) (F.pleachref27_Both.at K))
noncomputable def F.pleachref27_Both.j111000101.B (c0 : (List TFact) → (List TFact) → (Int) → (Int) → (List TFact) → Option ((List TFact))) (a0 : List TFact) (a1 : List TFact) (x0 : Int) (x1 : Int) (x2 : List TFact) : Option ((List TFact)) :=
    (guardK (decide (0 ≤ x1) && decide (x1 < (a1.length : Int))) (guardK (decide (x2.length + ([((rd sFact a1 x1.toNat).1, ((rd sFact a1 x1.toNat).2).1, (((rd sFact a1 x1.toNat).2).2).1, (⟨#[]⟩ : ByteArray))]).length ≤ nmax)) (c0 a0 a1 x0 (w64 (x1 + 1)) (x2 ++ [((rd sFact a1 x1.toNat).1, ((rd sFact a1 x1.toNat).2).1, (((rd sFact a1 x1.toNat).2).2).1, (⟨#[]⟩ : ByteArray))]))))
theorem F.pleachref27_Both.j111000101.eq K n0 a0 a1 x0 x1 x2 : F.pleachref27_Both.j111000101 K n0 a0 a1 x0 x1 x2 = F.pleachref27_Both.j111000101.B (F.pleachref27_Both.l11100 K n0) a0 a1 x0 x1 x2 := (F.pleachref27_Both.in_eq K [1, 1, 1, 0, 0, 0, 1, 0, 1] [n0] (F.pleachref27_Both.j111000101.st a0 a1 x0 x1 x2)).trans ((show ∀ H, F.pleachref27_Both.in K H [1, 1, 1, 0, 0, 0, 1, 0, 1] [n0] (F.pleachref27_Both.j111000101.st a0 a1 x0 x1 x2) = F.pleachref27_Both.j111000101.B (fun a0 a1 x0 x1 x2 => H [1, 1, 1, 0, 0] [n0] (F.pleachref27_Both.l11100.st a0 a1 x0 x1 x2)) a0 a1 x0 x1 x2 from by intro H; kernel_rfl) (F.pleachref27_Both.at K))
noncomputable def F.pleachref27_Both.B (c0 : (List TFact) → (List TFact) → (Int) → (Int) → (List TFact) → Option ((List TFact))) (a0 : List TFact) (a1 : List TFact) : Option ((List TFact)) :=
    (c0 a0 a1 0 0 ([]))
theorem F.pleachref27_Both.eq K a0 a1 : F.pleachref27_Both (K + 1) a0 a1 = F.pleachref27_Both.B (F.pleachref27_Both.l11100 K K) a0 a1 := (F.pleachref27_Both.in_main K a0 a1).trans ((show ∀ H, F.pleachref27_Both.in K H [] [] ⟨slots [.sc (.list sFact a0 false), .sc (.list sFact a1 false)] 0, []⟩ = F.pleachref27_Both.B (fun a0 a1 x0 x1 x2 => H [1, 1, 1, 0, 0] [K] (F.pleachref27_Both.l11100.st a0 a1 x0 x1 x2)) a0 a1 from by intro H; kernel_rfl) (F.pleachref27_Both.at K))
noncomputable def V.pleachref27_Both.l11100 (a0 : List TFact) (a1 : List TFact) (x0 : Int) (x1 : Int) (x2 : List TFact) := lim fun v => F.pleachref27_Both.l11100 (v 0) (v 1) a0 a1 x0 x1 x2
noncomputable def V.pleachref27_Both.j11100001 (a0 : List TFact) (a1 : List TFact) (x0 : Int) (x1 : Int) (x2 : Bool) (x3 : List TFact) := lim fun v => F.pleachref27_Both.j11100001 (v 0) (v 1) a0 a1 x0 x1 x2 x3
noncomputable def V.pleachref27_Both.j1110001 (a0 : List TFact) (a1 : List TFact) (x0 : Int) (x1 : Int) (x2 : List TFact) := lim fun v => F.pleachref27_Both.j1110001 (v 0) (v 1) a0 a1 x0 x1 x2
noncomputable def V.pleachref27_Both.j1110001001 (a0 : List TFact) (a1 : List TFact) (x0 : Int) (x1 : Int) (x2 : Bool) (x3 : List TFact) := lim fun v => F.pleachref27_Both.j1110001001 (v 0) (v 1) a0 a1 x0 x1 x2 x3
noncomputable def V.pleachref27_Both.j1110001001011101 (a0 : List TFact) (a1 : List TFact) (x0 : Int) (x1 : Int) (x2 : Bool) (x3 : List TFact) := lim fun v => F.pleachref27_Both.j1110001001011101 (v 0) (v 1) a0 a1 x0 x1 x2 x3
noncomputable def V.pleachref27_Both.j111000100101111 (a0 : List TFact) (a1 : List TFact) (x0 : Int) (x1 : Int) (x2 : List TFact) := lim fun v => F.pleachref27_Both.j111000100101111 (v 0) (v 1) a0 a1 x0 x1 x2
noncomputable def V.pleachref27_Both.j111000101 (a0 : List TFact) (a1 : List TFact) (x0 : Int) (x1 : Int) (x2 : List TFact) := lim fun v => F.pleachref27_Both.j111000101 (v 0) (v 1) a0 a1 x0 x1 x2
noncomputable def V.pleachref27_Both (a0 : List TFact) (a1 : List TFact) := lim fun v => F.pleachref27_Both (v 0) a0 a1
theorem V.pleachref27_Both.l11100.of a0 a1 x0 x1 x2 {r} (h : F.pleachref27_Both.l11100.B V.pleachref27_Both.j11100001 a0 a1 x0 x1 x2 = some r) : V.pleachref27_Both.l11100 a0 a1 x0 x1 x2 = some r :=
  App.to (App.step 1 (fun v => F.pleachref27_Both.l11100.eq (v 0) (v 1) a0 a1 x0 x1 x2) (by unfold F.pleachref27_Both.l11100.B; repeat' first | exact App.val | exact App.no | exact App.lim | apply App.cond | apply App.guard | apply App.meet | apply App.ite | refine App.bind ?_ fun _ => ?_)) h
theorem V.pleachref27_Both.j11100001.of a0 a1 x0 x1 x2 x3 {r} (h : F.pleachref27_Both.j11100001.B V.pleachref27_Both.j1110001 a0 a1 x0 x1 x2 x3 = some r) : V.pleachref27_Both.j11100001 a0 a1 x0 x1 x2 x3 = some r :=
  App.to (App.same (fun v => F.pleachref27_Both.j11100001.eq (v 0) (v 1) a0 a1 x0 x1 x2 x3) (by unfold F.pleachref27_Both.j11100001.B; repeat' first | exact App.val | exact App.no | exact App.lim | apply App.cond | apply App.guard | apply App.meet | apply App.ite | refine App.bind ?_ fun _ => ?_)) h
theorem V.pleachref27_Both.j1110001.of a0 a1 x0 x1 x2 {r} (h : F.pleachref27_Both.j1110001.B V.pleachref27_Both.j1110001001 V.pleachref27_Less a0 a1 x0 x1 x2 = some r) : V.pleachref27_Both.j1110001 a0 a1 x0 x1 x2 = some r :=
  App.to (App.same (fun v => F.pleachref27_Both.j1110001.eq (v 0) (v 1) a0 a1 x0 x1 x2) (by unfold F.pleachref27_Both.j1110001.B; repeat' first | exact App.val | exact App.no | exact App.lim | apply App.cond | apply App.guard | apply App.meet | apply App.ite | refine App.bind ?_ fun _ => ?_)) h
theorem V.pleachref27_Both.j1110001001.of a0 a1 x0 x1 x2 x3 {r} (h : F.pleachref27_Both.j1110001001.B V.pleachref27_Less V.pleachref27_Both.j1110001001011101 V.pleachref27_Both.j111000101 a0 a1 x0 x1 x2 x3 = some r) : V.pleachref27_Both.j1110001001 a0 a1 x0 x1 x2 x3 = some r :=
  App.to (App.same (fun v => F.pleachref27_Both.j1110001001.eq (v 0) (v 1) a0 a1 x0 x1 x2 x3) (by unfold F.pleachref27_Both.j1110001001.B; repeat' first | exact App.val | exact App.no | exact App.lim | apply App.cond | apply App.guard | apply App.meet | apply App.ite | refine App.bind ?_ fun _ => ?_)) h
theorem V.pleachref27_Both.j1110001001011101.of a0 a1 x0 x1 x2 x3 {r} (h : F.pleachref27_Both.j1110001001011101.B V.pleachref27_Both.j111000100101111 a0 a1 x0 x1 x2 x3 = some r) : V.pleachref27_Both.j1110001001011101 a0 a1 x0 x1 x2 x3 = some r :=
  App.to (App.same (fun v => F.pleachref27_Both.j1110001001011101.eq (v 0) (v 1) a0 a1 x0 x1 x2 x3) (by unfold F.pleachref27_Both.j1110001001011101.B; repeat' first | exact App.val | exact App.no | exact App.lim | apply App.cond | apply App.guard | apply App.meet | apply App.ite | refine App.bind ?_ fun _ => ?_)) h
theorem V.pleachref27_Both.j111000100101111.of a0 a1 x0 x1 x2 {r} (h : F.pleachref27_Both.j111000100101111.B V.pleachref27_Both.l11100 a0 a1 x0 x1 x2 = some r) : V.pleachref27_Both.j111000100101111 a0 a1 x0 x1 x2 = some r :=
  App.to (App.same (fun v => F.pleachref27_Both.j111000100101111.eq (v 0) (v 1) a0 a1 x0 x1 x2) (by unfold F.pleachref27_Both.j111000100101111.B; repeat' first | exact App.val | exact App.no | exact App.lim | apply App.cond | apply App.guard | apply App.meet | apply App.ite | refine App.bind ?_ fun _ => ?_)) h
theorem V.pleachref27_Both.j111000101.of a0 a1 x0 x1 x2 {r} (h : F.pleachref27_Both.j111000101.B V.pleachref27_Both.l11100 a0 a1 x0 x1 x2 = some r) : V.pleachref27_Both.j111000101 a0 a1 x0 x1 x2 = some r :=
  App.to (App.same (fun v => F.pleachref27_Both.j111000101.eq (v 0) (v 1) a0 a1 x0 x1 x2) (by unfold F.pleachref27_Both.j111000101.B; repeat' first | exact App.val | exact App.no | exact App.lim | apply App.cond | apply App.guard | apply App.meet | apply App.ite | refine App.bind ?_ fun _ => ?_)) h
theorem V.pleachref27_Both.of a0 a1 {r} (h : F.pleachref27_Both.B V.pleachref27_Both.l11100 a0 a1 = some r) : V.pleachref27_Both a0 a1 = some r :=
  App.to (App.step 0 (fun v => F.pleachref27_Both.eq (v 0) a0 a1) (by unfold F.pleachref27_Both.B; repeat' first | exact App.val | exact App.no | exact App.lim | exact (App.enter 1 App.lim) | apply App.cond | apply App.guard | apply App.meet | apply App.ite | refine App.bind ?_ fun _ => ?_)) h
noncomputable def F.pleachref27_Value (K : Nat) (a0 : List TFact) (a1 : TFact) : Option (ByteArray × Bool) := evFn Try.prog sg K 63 [.sc (.list sFact a0 false), .agg [.val (.int .i64 a1.1), .val (.string a1.2.1), .val (.string a1.2.2.1), .val (.string a1.2.2.2)]] []
noncomputable def F.pleachref27_Value.at (K : Nat) (p ns : List Nat) (s : St) : Option (ByteArray × Bool) := atFn Try.prog sg K 63 0 p ns s
noncomputable def F.pleachref27_Value.in (K : Nat) (H : List Nat → List Nat → St → Option (ByteArray × Bool)) (p ns : List Nat) (s : St) : Option (ByteArray × Bool) := inFn Try.prog sg K 63 0 [] H p ns s
theorem F.pleachref27_Value.in_eq K p ns s : F.pleachref27_Value.at K p ns s = F.pleachref27_Value.in K (F.pleachref27_Value.at K) p ns s := atFn_eq (P := Try.prog) (sg := sg) (K := K) (f := 63) (m := 0) [] p ns s
theorem F.pleachref27_Value.in_main K a0 a1 : F.pleachref27_Value (K + 1) a0 a1 = F.pleachref27_Value.in K (F.pleachref27_Value.at K) [] [] ⟨slots [.sc (.list sFact a0 false), .agg [.val (.int .i64 a1.1), .val (.string a1.2.1), .val (.string a1.2.2.1), .val (.string a1.2.2.2)]] 0, []⟩ := evFn_eq (P := Try.prog) (sg := sg) (K := K) (f := 63) (args := [.sc (.list sFact a0 false), .agg [.val (.int .i64 a1.1), .val (.string a1.2.1), .val (.string a1.2.2.1), .val (.string a1.2.2.2)]]) (σ := []) [] (by kernel_rfl)
def F.pleachref27_Value.l1010.st (a0 : List TFact) (a1 : TFact) (x0 : Int) : St := ⟨[(3, .one (.sc (.ref 0 0))), (8, vL sFact a0), (9, vI (a0.length : Int)), (10, vI x0)], [.cells 41 [.val (.int .i64 a1.1), .val (.string a1.2.1), .val (.string a1.2.2.1), .val (.string a1.2.2.2)]]⟩
noncomputable def F.pleachref27_Value.l1010 (K n0 : Nat) (a0 : List TFact) (a1 : TFact) (x0 : Int) := F.pleachref27_Value.at K [1, 0, 1, 0] [n0] (F.pleachref27_Value.l1010.st a0 a1 x0)
noncomputable def F.pleachref27_Value.l1010.B (c0 : (List TFact) → (TFact) → (Int) → Option (ByteArray × Bool)) (a0 : List TFact) (a1 : TFact) (x0 : Int) : Option (ByteArray × Bool) :=
    (bif (decide (x0 < (a0.length : Int))) then (guardK (decide (0 ≤ x0) && decide (x0 < (a0.length : Int))) (bif ((rd sFact a0 x0.toNat).1 == a1.1) then (bif (strEq (((rd sFact a0 x0.toNat).2).1) a1.2.1) then (bif (strEq ((((rd sFact a0 x0.toNat).2).2).1) a1.2.2.1) then (some ((((rd sFact a0 x0.toNat).2).2).2, true)) else (c0 a0 a1 (w64 (x0 + 1)))) else (c0 a0 a1 (w64 (x0 + 1)))) else (c0 a0 a1 (w64 (x0 + 1))))) else (some ((⟨#[]⟩ : ByteArray), false)))
theorem F.pleachref27_Value.l1010.eq K n0 a0 a1 x0 : F.pleachref27_Value.l1010 K (n0 + 1) a0 a1 x0 = F.pleachref27_Value.l1010.B (F.pleachref27_Value.l1010 K n0) a0 a1 x0 := (F.pleachref27_Value.in_eq K [1, 0, 1, 0] [n0 + 1] (F.pleachref27_Value.l1010.st a0 a1 x0)).trans ((show ∀ H, F.pleachref27_Value.in K H [1, 0, 1, 0] [n0 + 1] (F.pleachref27_Value.l1010.st a0 a1 x0) = F.pleachref27_Value.l1010.B (fun a0 a1 x0 => H [1, 0, 1, 0] [n0] (F.pleachref27_Value.l1010.st a0 a1 x0)) a0 a1 x0 from by intro H; kernel_rfl) (F.pleachref27_Value.at K))
noncomputable def F.pleachref27_Value.B (c0 : (List TFact) → (TFact) → (Int) → Option (ByteArray × Bool)) (a0 : List TFact) (a1 : TFact) : Option (ByteArray × Bool) :=
    (c0 a0 a1 0)
theorem F.pleachref27_Value.eq K a0 a1 : F.pleachref27_Value (K + 1) a0 a1 = F.pleachref27_Value.B (F.pleachref27_Value.l1010 K K) a0 a1 := (F.pleachref27_Value.in_main K a0 a1).trans ((show ∀ H, F.pleachref27_Value.in K H [] [] ⟨slots [.sc (.list sFact a0 false), .agg [.val (.int .i64 a1.1), .val (.string a1.2.1), .val (.string a1.2.2.1), .val (.string a1.2.2.2)]] 0, []⟩ = F.pleachref27_Value.B (fun a0 a1 x0 => H [1, 0, 1, 0] [K] (F.pleachref27_Value.l1010.st a0 a1 x0)) a0 a1 from by intro H; kernel_rfl) (F.pleachref27_Value.at K))
noncomputable def V.pleachref27_Value.l1010 (a0 : List TFact) (a1 : TFact) (x0 : Int) := lim fun v => F.pleachref27_Value.l1010 (v 0) (v 1) a0 a1 x0
noncomputable def V.pleachref27_Value (a0 : List TFact) (a1 : TFact) := lim fun v => F.pleachref27_Value (v 0) a0 a1
theorem V.pleachref27_Value.l1010.of a0 a1 x0 {r} (h : F.pleachref27_Value.l1010.B V.pleachref27_Value.l1010 a0 a1 x0 = some r) : V.pleachref27_Value.l1010 a0 a1 x0 = some r :=
  App.to (App.step 1 (fun v => F.pleachref27_Value.l1010.eq (v 0) (v 1) a0 a1 x0) (by unfold F.pleachref27_Value.l1010.B; repeat' first | exact App.val | exact App.no | exact App.lim | apply App.cond | apply App.guard | apply App.meet | apply App.ite | refine App.bind ?_ fun _ => ?_)) h
theorem V.pleachref27_Value.of a0 a1 {r} (h : F.pleachref27_Value.B V.pleachref27_Value.l1010 a0 a1 = some r) : V.pleachref27_Value a0 a1 = some r :=
  App.to (App.step 0 (fun v => F.pleachref27_Value.eq (v 0) a0 a1) (by unfold F.pleachref27_Value.B; repeat' first | exact App.val | exact App.no | exact App.lim | exact (App.enter 1 App.lim) | apply App.cond | apply App.guard | apply App.meet | apply App.ite | refine App.bind ?_ fun _ => ?_)) h
noncomputable def F.pleachref27_Diff (K : Nat) (a0 : List TFact) (a1 : List TFact) : Option ((List TChange)) := evFn Try.prog sg K 22 [.sc (.list sFact a0 false), .sc (.list sFact a1 false)] []
noncomputable def F.pleachref27_Diff.at (K : Nat) (p ns : List Nat) (s : St) : Option ((List TChange)) := atFn Try.prog sg K 22 0 p ns s
noncomputable def F.pleachref27_Diff.in (K : Nat) (H : List Nat → List Nat → St → Option ((List TChange))) (p ns : List Nat) (s : St) : Option ((List TChange)) := inFn Try.prog sg K 22 0 [] H p ns s
theorem F.pleachref27_Diff.in_eq K p ns s : F.pleachref27_Diff.at K p ns s = F.pleachref27_Diff.in K (F.pleachref27_Diff.at K) p ns s := atFn_eq (P := Try.prog) (sg := sg) (K := K) (f := 22) (m := 0) [] p ns s
theorem F.pleachref27_Diff.in_main K a0 a1 : F.pleachref27_Diff (K + 1) a0 a1 = F.pleachref27_Diff.in K (F.pleachref27_Diff.at K) [] [] ⟨slots [.sc (.list sFact a0 false), .sc (.list sFact a1 false)] 0, []⟩ := evFn_eq (P := Try.prog) (sg := sg) (K := K) (f := 22) (args := [.sc (.list sFact a0 false), .sc (.list sFact a1 false)]) (σ := []) [] (by kernel_rfl)
def F.pleachref27_Diff.l11010.st (a0 : List TFact) (a1 : List TFact) (x0 : Int) (x1 : Int) (x2 : List TChange) (x3 : List TFact) : St := ⟨[(0, vL sFact a0), (1, vL sFact a1), (5, .one (.sc (.own 0 none))), (14, .one (.sc (.own 1 none))), (15, vI x0), (16, vI x1)], [.elems sChange x2, .elems sFact x3]⟩
noncomputable def F.pleachref27_Diff.l11010 (K n0 : Nat) (a0 : List TFact) (a1 : List TFact) (x0 : Int) (x1 : Int) (x2 : List TChange) (x3 : List TFact) := F.pleachref27_Diff.at K [1, 1, 0, 1, 0] [n0] (F.pleachref27_Diff.l11010.st a0 a1 x0 x1 x2 x3)
noncomputable def F.pleachref27_Diff.l11010.B (c0 : (List TFact) → (TFact) → Option (ByteArray × Bool)) (c1 : (List TFact) → (List TFact) → (Int) → (Int) → (List TChange) → (List TFact) → Option ((List TChange))) (a0 : List TFact) (a1 : List TFact) (x0 : Int) (x1 : Int) (x2 : List TChange) (x3 : List TFact) : Option ((List TChange)) :=
    (bif (decide (x1 < x0)) then (guardK (decide (0 ≤ x1) && decide (x1 < (x3.length : Int))) ((c0 a0 ((rd sFact x3 x1.toNat).1, ((rd sFact x3 x1.toNat).2).1, (((rd sFact x3 x1.toNat).2).2).1, (((rd sFact x3 x1.toNat).2).2).2)).bind fun t1 => ((c0 a1 ((rd sFact x3 x1.toNat).1, ((rd sFact x3 x1.toNat).2).1, (((rd sFact x3 x1.toNat).2).2).1, (((rd sFact x3 x1.toNat).2).2).2)).bind fun t2 => (bif (!(t1.2 == t2.2)) then (guardK (decide (x2.length + ([((rd sFact x3 x1.toNat).1, ((rd sFact x3 x1.toNat).2).1, (((rd sFact x3 x1.toNat).2).2).1, t1.2, t2.2, t1.1, t2.1)]).length ≤ nmax)) (c1 a0 a1 x0 (w64 (x1 + 1)) (x2 ++ [((rd sFact x3 x1.toNat).1, ((rd sFact x3 x1.toNat).2).1, (((rd sFact x3 x1.toNat).2).2).1, t1.2, t2.2, t1.1, t2.1)]) x3)) else (bif (!strEq t1.1 t2.1) then (guardK (decide (x2.length + ([((rd sFact x3 x1.toNat).1, ((rd sFact x3 x1.toNat).2).1, (((rd sFact x3 x1.toNat).2).2).1, t1.2, t2.2, t1.1, t2.1)]).length ≤ nmax)) (c1 a0 a1 x0 (w64 (x1 + 1)) (x2 ++ [((rd sFact x3 x1.toNat).1, ((rd sFact x3 x1.toNat).2).1, (((rd sFact x3 x1.toNat).2).2).1, t1.2, t2.2, t1.1, t2.1)]) x3)) else (c1 a0 a1 x0 (w64 (x1 + 1)) x2 x3)))))) else (some x2))
theorem F.pleachref27_Diff.l11010.eq K n0 a0 a1 x0 x1 x2 x3 : F.pleachref27_Diff.l11010 K (n0 + 1) a0 a1 x0 x1 x2 x3 = F.pleachref27_Diff.l11010.B (F.pleachref27_Value K) (F.pleachref27_Diff.l11010 K n0) a0 a1 x0 x1 x2 x3 := (F.pleachref27_Diff.in_eq K [1, 1, 0, 1, 0] [n0 + 1] (F.pleachref27_Diff.l11010.st a0 a1 x0 x1 x2 x3)).trans ((show ∀ H, F.pleachref27_Diff.in K H [1, 1, 0, 1, 0] [n0 + 1] (F.pleachref27_Diff.l11010.st a0 a1 x0 x1 x2 x3) = F.pleachref27_Diff.l11010.B (F.pleachref27_Value K) (fun a0 a1 x0 x1 x2 x3 => H [1, 1, 0, 1, 0] [n0] (F.pleachref27_Diff.l11010.st a0 a1 x0 x1 x2 x3)) a0 a1 x0 x1 x2 x3 from by intro H; kernel_rfl) (F.pleachref27_Diff.at K))
noncomputable def F.pleachref27_Diff.B (c0 : (List TFact) → (List TFact) → Option ((List TFact))) (c1 : (List TFact) → (List TFact) → (Int) → (Int) → (List TChange) → (List TFact) → Option ((List TChange))) (a0 : List TFact) (a1 : List TFact) : Option ((List TChange)) :=
    ((c0 a0 a1).bind fun t0 => (c1 a0 a1 (t0.length : Int) 0 ([]) t0))
theorem F.pleachref27_Diff.eq K a0 a1 : F.pleachref27_Diff (K + 1) a0 a1 = F.pleachref27_Diff.B (F.pleachref27_Both K) (F.pleachref27_Diff.l11010 K K) a0 a1 := (F.pleachref27_Diff.in_main K a0 a1).trans ((show ∀ H, F.pleachref27_Diff.in K H [] [] ⟨slots [.sc (.list sFact a0 false), .sc (.list sFact a1 false)] 0, []⟩ = F.pleachref27_Diff.B (F.pleachref27_Both K) (fun a0 a1 x0 x1 x2 x3 => H [1, 1, 0, 1, 0] [K] (F.pleachref27_Diff.l11010.st a0 a1 x0 x1 x2 x3)) a0 a1 from by intro H; kernel_rfl) (F.pleachref27_Diff.at K))
noncomputable def V.pleachref27_Diff.l11010 (a0 : List TFact) (a1 : List TFact) (x0 : Int) (x1 : Int) (x2 : List TChange) (x3 : List TFact) := lim fun v => F.pleachref27_Diff.l11010 (v 0) (v 1) a0 a1 x0 x1 x2 x3
noncomputable def V.pleachref27_Diff (a0 : List TFact) (a1 : List TFact) := lim fun v => F.pleachref27_Diff (v 0) a0 a1
theorem V.pleachref27_Diff.l11010.of a0 a1 x0 x1 x2 x3 {r} (h : F.pleachref27_Diff.l11010.B V.pleachref27_Value V.pleachref27_Diff.l11010 a0 a1 x0 x1 x2 x3 = some r) : V.pleachref27_Diff.l11010 a0 a1 x0 x1 x2 x3 = some r :=
  App.to (App.step 1 (fun v => F.pleachref27_Diff.l11010.eq (v 0) (v 1) a0 a1 x0 x1 x2 x3) (by unfold F.pleachref27_Diff.l11010.B; repeat' first | exact App.val | exact App.no | exact App.lim | apply App.cond | apply App.guard | apply App.meet | apply App.ite | refine App.bind ?_ fun _ => ?_)) h
theorem V.pleachref27_Diff.of a0 a1 {r} (h : F.pleachref27_Diff.B V.pleachref27_Both V.pleachref27_Diff.l11010 a0 a1 = some r) : V.pleachref27_Diff a0 a1 = some r :=
  App.to (App.step 0 (fun v => F.pleachref27_Diff.eq (v 0) a0 a1) (by unfold F.pleachref27_Diff.B; repeat' first | exact App.val | exact App.no | exact App.lim | exact (App.enter 1 App.lim) | apply App.cond | apply App.guard | apply App.meet | apply App.ite | refine App.bind ?_ fun _ => ?_)) h
noncomputable def F.pleachref27_SameChanges (K : Nat) (a0 : List TChange) (a1 : List TChange) : Option (Bool) := evFn Try.prog sg K 20 [.sc (.list sChange a0 false), .sc (.list sChange a1 false)] []
noncomputable def F.pleachref27_SameChanges.at (K : Nat) (p ns : List Nat) (s : St) : Option (Bool) := atFn Try.prog sg K 20 0 p ns s
noncomputable def F.pleachref27_SameChanges.in (K : Nat) (H : List Nat → List Nat → St → Option (Bool)) (p ns : List Nat) (s : St) : Option (Bool) := inFn Try.prog sg K 20 0 [] H p ns s
theorem F.pleachref27_SameChanges.in_eq K p ns s : F.pleachref27_SameChanges.at K p ns s = F.pleachref27_SameChanges.in K (F.pleachref27_SameChanges.at K) p ns s := atFn_eq (P := Try.prog) (sg := sg) (K := K) (f := 20) (m := 0) [] p ns s
theorem F.pleachref27_SameChanges.in_main K a0 a1 : F.pleachref27_SameChanges (K + 1) a0 a1 = F.pleachref27_SameChanges.in K (F.pleachref27_SameChanges.at K) [] [] ⟨slots [.sc (.list sChange a0 false), .sc (.list sChange a1 false)] 0, []⟩ := evFn_eq (P := Try.prog) (sg := sg) (K := K) (f := 20) (args := [.sc (.list sChange a0 false), .sc (.list sChange a1 false)]) (σ := []) [] (by kernel_rfl)
def F.pleachref27_SameChanges.l11010.st (a0 : List TChange) (a1 : List TChange) (x0 : Int) : St := ⟨[(0, vL sChange a0), (1, vL sChange a1), (12, vI (a0.length : Int)), (13, vI x0)], []⟩
noncomputable def F.pleachref27_SameChanges.l11010 (K n0 : Nat) (a0 : List TChange) (a1 : List TChange) (x0 : Int) := F.pleachref27_SameChanges.at K [1, 1, 0, 1, 0] [n0] (F.pleachref27_SameChanges.l11010.st a0 a1 x0)
noncomputable def F.pleachref27_SameChanges.l11010.B (c0 : (List TChange) → (List TChange) → (Int) → Option (Bool)) (a0 : List TChange) (a1 : List TChange) (x0 : Int) : Option (Bool) :=
    (bif (decide (x0 < (a0.length : Int))) then (guardK (decide (0 ≤ x0) && decide (x0 < (a0.length : Int))) (guardK (decide (0 ≤ x0) && decide (x0 < (a1.length : Int))) (bif (!(((rd sChange a0 x0.toNat).1 == (rd sChange a1 x0.toNat).1) && ((strEq (((rd sChange a0 x0.toNat).2).1) (((rd sChange a1 x0.toNat).2).1)) && ((strEq ((((rd sChange a0 x0.toNat).2).2).1) ((((rd sChange a1 x0.toNat).2).2).1)) && ((((((rd sChange a0 x0.toNat).2).2).2).1 == ((((rd sChange a1 x0.toNat).2).2).2).1) && (((((((rd sChange a0 x0.toNat).2).2).2).2).1 == (((((rd sChange a1 x0.toNat).2).2).2).2).1) && ((strEq (((((((rd sChange a0 x0.toNat).2).2).2).2).2).1) (((((((rd sChange a1 x0.toNat).2).2).2).2).2).1)) && ((strEq (((((((rd sChange a0 x0.toNat).2).2).2).2).2).2) (((((((rd sChange a1 x0.toNat).2).2).2).2).2).2)) && true)))))))) then (some false) else (c0 a0 a1 (w64 (x0 + 1)))))) else (some true))
theorem F.pleachref27_SameChanges.l11010.eq K n0 a0 a1 x0 : F.pleachref27_SameChanges.l11010 K (n0 + 1) a0 a1 x0 = F.pleachref27_SameChanges.l11010.B (F.pleachref27_SameChanges.l11010 K n0) a0 a1 x0 := (F.pleachref27_SameChanges.in_eq K [1, 1, 0, 1, 0] [n0 + 1] (F.pleachref27_SameChanges.l11010.st a0 a1 x0)).trans ((show ∀ H, F.pleachref27_SameChanges.in K H [1, 1, 0, 1, 0] [n0 + 1] (F.pleachref27_SameChanges.l11010.st a0 a1 x0) = F.pleachref27_SameChanges.l11010.B (fun a0 a1 x0 => H [1, 1, 0, 1, 0] [n0] (F.pleachref27_SameChanges.l11010.st a0 a1 x0)) a0 a1 x0 from by intro H; kernel_rfl) (F.pleachref27_SameChanges.at K))
noncomputable def F.pleachref27_SameChanges.B (c0 : (List TChange) → (List TChange) → (Int) → Option (Bool)) (a0 : List TChange) (a1 : List TChange) : Option (Bool) :=
    (bif ((a0.length : Int) != (a1.length : Int)) then (some false) else (c0 a0 a1 0))
theorem F.pleachref27_SameChanges.eq K a0 a1 : F.pleachref27_SameChanges (K + 1) a0 a1 = F.pleachref27_SameChanges.B (F.pleachref27_SameChanges.l11010 K K) a0 a1 := (F.pleachref27_SameChanges.in_main K a0 a1).trans ((show ∀ H, F.pleachref27_SameChanges.in K H [] [] ⟨slots [.sc (.list sChange a0 false), .sc (.list sChange a1 false)] 0, []⟩ = F.pleachref27_SameChanges.B (fun a0 a1 x0 => H [1, 1, 0, 1, 0] [K] (F.pleachref27_SameChanges.l11010.st a0 a1 x0)) a0 a1 from by intro H; kernel_rfl) (F.pleachref27_SameChanges.at K))
noncomputable def V.pleachref27_SameChanges.l11010 (a0 : List TChange) (a1 : List TChange) (x0 : Int) := lim fun v => F.pleachref27_SameChanges.l11010 (v 0) (v 1) a0 a1 x0
noncomputable def V.pleachref27_SameChanges (a0 : List TChange) (a1 : List TChange) := lim fun v => F.pleachref27_SameChanges (v 0) a0 a1
theorem V.pleachref27_SameChanges.l11010.of a0 a1 x0 {r} (h : F.pleachref27_SameChanges.l11010.B V.pleachref27_SameChanges.l11010 a0 a1 x0 = some r) : V.pleachref27_SameChanges.l11010 a0 a1 x0 = some r :=
  App.to (App.step 1 (fun v => F.pleachref27_SameChanges.l11010.eq (v 0) (v 1) a0 a1 x0) (by unfold F.pleachref27_SameChanges.l11010.B; repeat' first | exact App.val | exact App.no | exact App.lim | apply App.cond | apply App.guard | apply App.meet | apply App.ite | refine App.bind ?_ fun _ => ?_)) h
theorem V.pleachref27_SameChanges.of a0 a1 {r} (h : F.pleachref27_SameChanges.B V.pleachref27_SameChanges.l11010 a0 a1 = some r) : V.pleachref27_SameChanges a0 a1 = some r :=
  App.to (App.step 0 (fun v => F.pleachref27_SameChanges.eq (v 0) a0 a1) (by unfold F.pleachref27_SameChanges.B; repeat' first | exact App.val | exact App.no | exact App.lim | exact (App.enter 1 App.lim) | apply App.cond | apply App.guard | apply App.meet | apply App.ite | refine App.bind ?_ fun _ => ?_)) h
noncomputable def F.facts_Apply (K : Nat) (a0 : List TFact) (a1 : List TChange) : Option ((List TFact)) := evFn Try.prog sg K 24 [.sc (.list sFact a0 false), .sc (.list sChange a1 false)] []
noncomputable def F.facts_Apply.at (K : Nat) (p ns : List Nat) (s : St) : Option ((List TFact)) := atFn Try.prog sg K 24 0 p ns s
noncomputable def F.facts_Apply.in (K : Nat) (H : List Nat → List Nat → St → Option ((List TFact))) (p ns : List Nat) (s : St) : Option ((List TFact)) := inFn Try.prog sg K 24 0 [] H p ns s
theorem F.facts_Apply.in_eq K p ns s : F.facts_Apply.at K p ns s = F.facts_Apply.in K (F.facts_Apply.at K) p ns s := atFn_eq (P := Try.prog) (sg := sg) (K := K) (f := 24) (m := 0) [] p ns s
theorem F.facts_Apply.in_main K a0 a1 : F.facts_Apply (K + 1) a0 a1 = F.facts_Apply.in K (F.facts_Apply.at K) [] [] ⟨slots [.sc (.list sFact a0 false), .sc (.list sChange a1 false)] 0, []⟩ := evFn_eq (P := Try.prog) (sg := sg) (K := K) (f := 24) (args := [.sc (.list sFact a0 false), .sc (.list sChange a1 false)]) (σ := []) [] (by kernel_rfl)
def F.facts_Apply.l11010.st (a0 : List TFact) (a1 : List TChange) (x0 : List TFact) (x1 : Int) (x2 : List TFact) : St := ⟨[(0, vL sFact x0), (5, .one (.sc (.own 0 none))), (9, vL sChange a1), (10, vI (a1.length : Int)), (11, vI x1)], [.elems sFact x2]⟩
noncomputable def F.facts_Apply.l11010 (K n0 : Nat) (a0 : List TFact) (a1 : List TChange) (x0 : List TFact) (x1 : Int) (x2 : List TFact) := F.facts_Apply.at K [1, 1, 0, 1, 0] [n0] (F.facts_Apply.l11010.st a0 a1 x0 x1 x2)
def F.facts_Apply.l11010011001100.st (a0 : List TFact) (a1 : List TChange) (x0 : List TFact) (x1 : Int) (x2 : List TFact) (x3 : Int) (x4 : ByteArray) (x5 : ByteArray) (x6 : Bool) (x7 : Bool) (x8 : ByteArray) (x9 : ByteArray) (x10 : Int) (x11 : ByteArray) (x12 : ByteArray) (x13 : ByteArray) : St := ⟨[(0, vL sFact x0), (5, .one (.sc (.own 0 none))), (7, .one (.sc (.ref 1 0))), (8, .one (.sc (.ref 2 0))), (9, vL sChange a1), (10, vI (a1.length : Int)), (11, vI x1)], [.elems sFact x2, .cells 38 [.val (.int .i64 x3), .val (.string x4), .val (.string x5), .val (.bool x6), .val (.bool x7), .val (.string x8), .val (.string x9)], .cells 41 [.val (.int .i64 x10), .val (.string x11), .val (.string x12), .val (.string x13)]]⟩
noncomputable def F.facts_Apply.l11010011001100 (K n0 n1 : Nat) (a0 : List TFact) (a1 : List TChange) (x0 : List TFact) (x1 : Int) (x2 : List TFact) (x3 : Int) (x4 : ByteArray) (x5 : ByteArray) (x6 : Bool) (x7 : Bool) (x8 : ByteArray) (x9 : ByteArray) (x10 : Int) (x11 : ByteArray) (x12 : ByteArray) (x13 : ByteArray) := F.facts_Apply.at K [1, 1, 0, 1, 0, 0, 1, 1, 0, 0, 1, 1, 0, 0] [n0, n1] (F.facts_Apply.l11010011001100.st a0 a1 x0 x1 x2 x3 x4 x5 x6 x7 x8 x9 x10 x11 x12 x13)
noncomputable def F.facts_Apply.l11010.B (c0 : (List TFact) → (List TChange) → (List TFact) → (Int) → (List TFact) → (Int) → (ByteArray) → (ByteArray) → (Bool) → (Bool) → (ByteArray) → (ByteArray) → (Int) → (ByteArray) → (ByteArray) → (ByteArray) → Option ((List TFact))) (a0 : List TFact) (a1 : List TChange) (x0 : List TFact) (x1 : Int) (x2 : List TFact) : Option ((List TFact)) :=
    (bif (decide (x1 < (a1.length : Int))) then (guardK (decide (0 ≤ x1) && decide (x1 < (a1.length : Int))) (c0 a0 a1 x0 x1 x2 ((rd sChange a1 x1.toNat).1) (((rd sChange a1 x1.toNat).2).1) ((((rd sChange a1 x1.toNat).2).2).1) (((((rd sChange a1 x1.toNat).2).2).2).1) ((((((rd sChange a1 x1.toNat).2).2).2).2).1) (((((((rd sChange a1 x1.toNat).2).2).2).2).2).1) (((((((rd sChange a1 x1.toNat).2).2).2).2).2).2) ((rd sChange a1 x1.toNat).1) (((rd sChange a1 x1.toNat).2).1) ((((rd sChange a1 x1.toNat).2).2).1) (((((((rd sChange a1 x1.toNat).2).2).2).2).2).2))) else (guardK (decide (x2.length + x0.length ≤ nmax)) (some (x2 ++ x0))))
theorem F.facts_Apply.l11010.eq K n0 a0 a1 x0 x1 x2 : F.facts_Apply.l11010 K (n0 + 1) a0 a1 x0 x1 x2 = F.facts_Apply.l11010.B (F.facts_Apply.l11010011001100 K n0 K) a0 a1 x0 x1 x2 := (F.facts_Apply.in_eq K [1, 1, 0, 1, 0] [n0 + 1] (F.facts_Apply.l11010.st a0 a1 x0 x1 x2)).trans ((show ∀ H, F.facts_Apply.in K H [1, 1, 0, 1, 0] [n0 + 1] (F.facts_Apply.l11010.st a0 a1 x0 x1 x2) = F.facts_Apply.l11010.B (fun a0 a1 x0 x1 x2 x3 x4 x5 x6 x7 x8 x9 x10 x11 x12 x13 => H [1, 1, 0, 1, 0, 0, 1, 1, 0, 0, 1, 1, 0, 0] [n0, K] (F.facts_Apply.l11010011001100.st a0 a1 x0 x1 x2 x3 x4 x5 x6 x7 x8 x9 x10 x11 x12 x13)) a0 a1 x0 x1 x2 from by intro H; kernel_rfl) (F.facts_Apply.at K))
noncomputable def F.facts_Apply.l11010011001100.B (c0 : (TFact) → (TFact) → Option (Int)) (c1 : (List TFact) → (List TChange) → (List TFact) → (Int) → (List TFact) → (Int) → (ByteArray) → (ByteArray) → (Bool) → (Bool) → (ByteArray) → (ByteArray) → (Int) → (ByteArray) → (ByteArray) → (ByteArray) → Option ((List TFact))) (c2 : (List TFact) → (List TChange) → (List TFact) → (Int) → (List TFact) → Option ((List TFact))) (a0 : List TFact) (a1 : List TChange) (x0 : List TFact) (x1 : Int) (x2 : List TFact) (x3 : Int) (x4 : ByteArray) (x5 : ByteArray) (x6 : Bool) (x7 : Bool) (x8 : ByteArray) (x9 : ByteArray) (x10 : Int) (x11 : ByteArray) (x12 : ByteArray) (x13 : ByteArray) : Option ((List TFact)) :=
    (bif (decide ((x0.length : Int) > 0)) then (guardK (decide (0 < (x0.length : Int))) ((c0 ((rd sFact x0 0).1, ((rd sFact x0 0).2).1, (((rd sFact x0 0).2).2).1, (((rd sFact x0 0).2).2).2) (x10, x11, x12, x13)).bind fun t0 => (bif (decide (t0 < 0)) then (guardK (decide (0 < (x0.length : Int))) (guardK (decide (1 ≤ (x0.length : Int)) && decide ((x0.length : Int) ≤ (x0.length : Int))) (guardK (decide (x2.length + ([((rd sFact x0 0).1, ((rd sFact x0 0).2).1, (((rd sFact x0 0).2).2).1, (((rd sFact x0 0).2).2).2)]).length ≤ nmax)) (c1 a0 a1 ((x0.take ((x0.length : Int).toNat)).drop 1) x1 (x2 ++ [((rd sFact x0 0).1, ((rd sFact x0 0).2).1, (((rd sFact x0 0).2).2).1, (((rd sFact x0 0).2).2).2)]) x3 x4 x5 x6 x7 x8 x9 x10 x11 x12 x13)))) else (bif (decide ((x0.length : Int) > 0)) then (guardK (decide (0 < (x0.length : Int))) ((c0 ((rd sFact x0 0).1, ((rd sFact x0 0).2).1, (((rd sFact x0 0).2).2).1, (((rd sFact x0 0).2).2).2) (x10, x11, x12, x13)).bind fun t1 => (bif (t1 == 0) then (guardK (decide (1 ≤ (x0.length : Int)) && decide ((x0.length : Int) ≤ (x0.length : Int))) (bif x7 then (guardK (decide (x2.length + ([(x10, x11, x12, x13)]).length ≤ nmax)) (c2 a0 a1 ((x0.take ((x0.length : Int).toNat)).drop 1) (w64 (x1 + 1)) (x2 ++ [(x10, x11, x12, x13)]))) else (c2 a0 a1 ((x0.take ((x0.length : Int).toNat)).drop 1) (w64 (x1 + 1)) x2))) else (bif x7 then (guardK (decide (x2.length + ([(x10, x11, x12, x13)]).length ≤ nmax)) (c2 a0 a1 x0 (w64 (x1 + 1)) (x2 ++ [(x10, x11, x12, x13)]))) else (c2 a0 a1 x0 (w64 (x1 + 1)) x2))))) else (bif x7 then (guardK (decide (x2.length + ([(x10, x11, x12, x13)]).length ≤ nmax)) (c2 a0 a1 x0 (w64 (x1 + 1)) (x2 ++ [(x10, x11, x12, x13)]))) else (c2 a0 a1 x0 (w64 (x1 + 1)) x2)))))) else (bif (decide ((x0.length : Int) > 0)) then (guardK (decide (0 < (x0.length : Int))) ((c0 ((rd sFact x0 0).1, ((rd sFact x0 0).2).1, (((rd sFact x0 0).2).2).1, (((rd sFact x0 0).2).2).2) (x10, x11, x12, x13)).bind fun t2 => (bif (t2 == 0) then (guardK (decide (1 ≤ (x0.length : Int)) && decide ((x0.length : Int) ≤ (x0.length : Int))) (bif x7 then (guardK (decide (x2.length + ([(x10, x11, x12, x13)]).length ≤ nmax)) (c2 a0 a1 ((x0.take ((x0.length : Int).toNat)).drop 1) (w64 (x1 + 1)) (x2 ++ [(x10, x11, x12, x13)]))) else (c2 a0 a1 ((x0.take ((x0.length : Int).toNat)).drop 1) (w64 (x1 + 1)) x2))) else (bif x7 then (guardK (decide (x2.length + ([(x10, x11, x12, x13)]).length ≤ nmax)) (c2 a0 a1 x0 (w64 (x1 + 1)) (x2 ++ [(x10, x11, x12, x13)]))) else (c2 a0 a1 x0 (w64 (x1 + 1)) x2))))) else (bif x7 then (guardK (decide (x2.length + ([(x10, x11, x12, x13)]).length ≤ nmax)) (c2 a0 a1 x0 (w64 (x1 + 1)) (x2 ++ [(x10, x11, x12, x13)]))) else (c2 a0 a1 x0 (w64 (x1 + 1)) x2))))
theorem F.facts_Apply.l11010011001100.eq K n0 n1 a0 a1 x0 x1 x2 x3 x4 x5 x6 x7 x8 x9 x10 x11 x12 x13 : F.facts_Apply.l11010011001100 K n0 (n1 + 1) a0 a1 x0 x1 x2 x3 x4 x5 x6 x7 x8 x9 x10 x11 x12 x13 = F.facts_Apply.l11010011001100.B (F.facts_Compare K) (F.facts_Apply.l11010011001100 K n0 n1) (F.facts_Apply.l11010 K n0) a0 a1 x0 x1 x2 x3 x4 x5 x6 x7 x8 x9 x10 x11 x12 x13 := (F.facts_Apply.in_eq K [1, 1, 0, 1, 0, 0, 1, 1, 0, 0, 1, 1, 0, 0] [n0, n1 + 1] (F.facts_Apply.l11010011001100.st a0 a1 x0 x1 x2 x3 x4 x5 x6 x7 x8 x9 x10 x11 x12 x13)).trans ((show ∀ H, F.facts_Apply.in K H [1, 1, 0, 1, 0, 0, 1, 1, 0, 0, 1, 1, 0, 0] [n0, n1 + 1] (F.facts_Apply.l11010011001100.st a0 a1 x0 x1 x2 x3 x4 x5 x6 x7 x8 x9 x10 x11 x12 x13) = F.facts_Apply.l11010011001100.B (F.facts_Compare K) (fun a0 a1 x0 x1 x2 x3 x4 x5 x6 x7 x8 x9 x10 x11 x12 x13 => H [1, 1, 0, 1, 0, 0, 1, 1, 0, 0, 1, 1, 0, 0] [n0, n1] (F.facts_Apply.l11010011001100.st a0 a1 x0 x1 x2 x3 x4 x5 x6 x7 x8 x9 x10 x11 x12 x13)) (fun a0 a1 x0 x1 x2 => H [1, 1, 0, 1, 0] [n0] (F.facts_Apply.l11010.st a0 a1 x0 x1 x2)) a0 a1 x0 x1 x2 x3 x4 x5 x6 x7 x8 x9 x10 x11 x12 x13 from by intro H; kernel_rfl) (F.facts_Apply.at K))
noncomputable def F.facts_Apply.B (c0 : (List TFact) → (List TChange) → (List TFact) → (Int) → (List TFact) → Option ((List TFact))) (a0 : List TFact) (a1 : List TChange) : Option ((List TFact)) :=
    (c0 a0 a1 a0 0 ([]))
theorem F.facts_Apply.eq K a0 a1 : F.facts_Apply (K + 1) a0 a1 = F.facts_Apply.B (F.facts_Apply.l11010 K K) a0 a1 := (F.facts_Apply.in_main K a0 a1).trans ((show ∀ H, F.facts_Apply.in K H [] [] ⟨slots [.sc (.list sFact a0 false), .sc (.list sChange a1 false)] 0, []⟩ = F.facts_Apply.B (fun a0 a1 x0 x1 x2 => H [1, 1, 0, 1, 0] [K] (F.facts_Apply.l11010.st a0 a1 x0 x1 x2)) a0 a1 from by intro H; kernel_rfl) (F.facts_Apply.at K))
noncomputable def V.facts_Apply.l11010 (a0 : List TFact) (a1 : List TChange) (x0 : List TFact) (x1 : Int) (x2 : List TFact) := lim fun v => F.facts_Apply.l11010 (v 0) (v 1) a0 a1 x0 x1 x2
noncomputable def V.facts_Apply.l11010011001100 (a0 : List TFact) (a1 : List TChange) (x0 : List TFact) (x1 : Int) (x2 : List TFact) (x3 : Int) (x4 : ByteArray) (x5 : ByteArray) (x6 : Bool) (x7 : Bool) (x8 : ByteArray) (x9 : ByteArray) (x10 : Int) (x11 : ByteArray) (x12 : ByteArray) (x13 : ByteArray) := lim fun v => F.facts_Apply.l11010011001100 (v 0) (v 1) (v 2) a0 a1 x0 x1 x2 x3 x4 x5 x6 x7 x8 x9 x10 x11 x12 x13
noncomputable def V.facts_Apply (a0 : List TFact) (a1 : List TChange) := lim fun v => F.facts_Apply (v 0) a0 a1
theorem V.facts_Apply.l11010.of a0 a1 x0 x1 x2 {r} (h : F.facts_Apply.l11010.B V.facts_Apply.l11010011001100 a0 a1 x0 x1 x2 = some r) : V.facts_Apply.l11010 a0 a1 x0 x1 x2 = some r :=
  App.to (App.step 1 (fun v => F.facts_Apply.l11010.eq (v 0) (v 1) a0 a1 x0 x1 x2) (by unfold F.facts_Apply.l11010.B; repeat' first | exact App.val | exact App.no | exact App.lim | exact (App.enter 2 App.lim) | apply App.cond | apply App.guard | apply App.meet | apply App.ite | refine App.bind ?_ fun _ => ?_)) h
theorem V.facts_Apply.l11010011001100.of a0 a1 x0 x1 x2 x3 x4 x5 x6 x7 x8 x9 x10 x11 x12 x13 {r} (h : F.facts_Apply.l11010011001100.B V.facts_Compare V.facts_Apply.l11010011001100 V.facts_Apply.l11010 a0 a1 x0 x1 x2 x3 x4 x5 x6 x7 x8 x9 x10 x11 x12 x13 = some r) : V.facts_Apply.l11010011001100 a0 a1 x0 x1 x2 x3 x4 x5 x6 x7 x8 x9 x10 x11 x12 x13 = some r :=
  App.to (App.step 2 (fun v => F.facts_Apply.l11010011001100.eq (v 0) (v 1) (v 2) a0 a1 x0 x1 x2 x3 x4 x5 x6 x7 x8 x9 x10 x11 x12 x13) (by unfold F.facts_Apply.l11010011001100.B; repeat' first | exact App.val | exact App.no | exact App.lim | apply App.cond | apply App.guard | apply App.meet | apply App.ite | refine App.bind ?_ fun _ => ?_)) h
theorem V.facts_Apply.of a0 a1 {r} (h : F.facts_Apply.B V.facts_Apply.l11010 a0 a1 = some r) : V.facts_Apply a0 a1 = some r :=
  App.to (App.step 0 (fun v => F.facts_Apply.eq (v 0) a0 a1) (by unfold F.facts_Apply.B; repeat' first | exact App.val | exact App.no | exact App.lim | exact (App.enter 1 App.lim) | apply App.cond | apply App.guard | apply App.meet | apply App.ite | refine App.bind ?_ fun _ => ?_)) h
noncomputable def F.pleachref27_Apply (K : Nat) (a0 : List TFact) (a1 : List TChange) : Option ((List TFact)) := evFn Try.prog sg K 25 [.sc (.list sFact a0 false), .sc (.list sChange a1 false)] []
noncomputable def F.pleachref27_Apply.at (K : Nat) (p ns : List Nat) (s : St) : Option ((List TFact)) := atFn Try.prog sg K 25 0 p ns s
noncomputable def F.pleachref27_Apply.in (K : Nat) (H : List Nat → List Nat → St → Option ((List TFact))) (p ns : List Nat) (s : St) : Option ((List TFact)) := inFn Try.prog sg K 25 0 [] H p ns s
theorem F.pleachref27_Apply.in_eq K p ns s : F.pleachref27_Apply.at K p ns s = F.pleachref27_Apply.in K (F.pleachref27_Apply.at K) p ns s := atFn_eq (P := Try.prog) (sg := sg) (K := K) (f := 25) (m := 0) [] p ns s
theorem F.pleachref27_Apply.in_main K a0 a1 : F.pleachref27_Apply (K + 1) a0 a1 = F.pleachref27_Apply.in K (F.pleachref27_Apply.at K) [] [] ⟨slots [.sc (.list sFact a0 false), .sc (.list sChange a1 false)] 0, []⟩ := evFn_eq (P := Try.prog) (sg := sg) (K := K) (f := 25) (args := [.sc (.list sFact a0 false), .sc (.list sChange a1 false)]) (σ := []) [] (by kernel_rfl)
def F.pleachref27_Apply.l11010.st (a0 : List TFact) (a1 : List TChange) (x0 : Int) (x1 : List TFact) : St := ⟨[(0, vL sFact a0), (1, vL sChange a1), (5, .one (.sc (.own 0 none))), (15, vL sChange a1), (16, vI (a1.length : Int)), (17, vI x0)], [.elems sFact x1]⟩
noncomputable def F.pleachref27_Apply.l11010 (K n0 : Nat) (a0 : List TFact) (a1 : List TChange) (x0 : Int) (x1 : List TFact) := F.pleachref27_Apply.at K [1, 1, 0, 1, 0] [n0] (F.pleachref27_Apply.l11010.st a0 a1 x0 x1)
def F.pleachref27_Apply.l1111010.st (a0 : List TFact) (a1 : List TChange) (x0 : Int) (x1 : Int) (x2 : List TFact) (x3 : List TFact) : St := ⟨[(0, vL sFact a0), (1, vL sChange a1), (8, .one (.sc (.own 0 none))), (34, .one (.sc (.own 1 none))), (35, vI x0), (36, vI x1)], [.elems sFact x2, .elems sFact x3]⟩
noncomputable def F.pleachref27_Apply.l1111010 (K n0 : Nat) (a0 : List TFact) (a1 : List TChange) (x0 : Int) (x1 : Int) (x2 : List TFact) (x3 : List TFact) := F.pleachref27_Apply.at K [1, 1, 1, 1, 0, 1, 0] [n0] (F.pleachref27_Apply.l1111010.st a0 a1 x0 x1 x2 x3)
def F.pleachref27_Apply.l11110100110011010.st (a0 : List TFact) (a1 : List TChange) (x0 : ByteArray) (x1 : Bool) (x2 : Int) (x3 : Int) (x4 : Int) (x5 : List TFact) (x6 : Int) (x7 : ByteArray) (x8 : ByteArray) (x9 : ByteArray) (x10 : List TFact) : St := ⟨[(0, vL sFact a0), (1, vL sChange a1), (8, .one (.sc (.own 0 none))), (10, .one (.sc (.ref 1 0))), (11, vS x0), (12, vB x1), (34, .one (.sc (.own 2 none))), (35, vI x2), (36, vI x3), (46, vL sChange a1), (47, vI (a1.length : Int)), (48, vI x4)], [.elems sFact x5, .cells 41 [.val (.int .i64 x6), .val (.string x7), .val (.string x8), .val (.string x9)], .elems sFact x10]⟩
noncomputable def F.pleachref27_Apply.l11110100110011010 (K n0 n1 : Nat) (a0 : List TFact) (a1 : List TChange) (x0 : ByteArray) (x1 : Bool) (x2 : Int) (x3 : Int) (x4 : Int) (x5 : List TFact) (x6 : Int) (x7 : ByteArray) (x8 : ByteArray) (x9 : ByteArray) (x10 : List TFact) := F.pleachref27_Apply.at K [1, 1, 1, 1, 0, 1, 0, 0, 1, 1, 0, 0, 1, 1, 0, 1, 0] [n0, n1] (F.pleachref27_Apply.l11110100110011010.st a0 a1 x0 x1 x2 x3 x4 x5 x6 x7 x8 x9 x10)
noncomputable def F.pleachref27_Apply.l11010.B (c0 : (List TFact) → (List TChange) → (Int) → (List TFact) → Option ((List TFact))) (c1 : (List TFact) → (List TFact) → Option ((List TFact))) (c2 : (List TFact) → (List TChange) → (Int) → (Int) → (List TFact) → (List TFact) → Option ((List TFact))) (a0 : List TFact) (a1 : List TChange) (x0 : Int) (x1 : List TFact) : Option ((List TFact)) :=
    (bif (decide (x0 < (a1.length : Int))) then (guardK (decide (0 ≤ x0) && decide (x0 < (a1.length : Int))) (guardK (decide (x1.length + ([((rd sChange a1 x0.toNat).1, ((rd sChange a1 x0.toNat).2).1, (((rd sChange a1 x0.toNat).2).2).1, (⟨#[]⟩ : ByteArray))]).length ≤ nmax)) (c0 a0 a1 (w64 (x0 + 1)) (x1 ++ [((rd sChange a1 x0.toNat).1, ((rd sChange a1 x0.toNat).2).1, (((rd sChange a1 x0.toNat).2).2).1, (⟨#[]⟩ : ByteArray))])))) else ((c1 a0 x1).bind fun t0 => (c2 a0 a1 (t0.length : Int) 0 ([]) t0)))
theorem F.pleachref27_Apply.l11010.eq K n0 a0 a1 x0 x1 : F.pleachref27_Apply.l11010 K (n0 + 1) a0 a1 x0 x1 = F.pleachref27_Apply.l11010.B (F.pleachref27_Apply.l11010 K n0) (F.pleachref27_Both K) (F.pleachref27_Apply.l1111010 K K) a0 a1 x0 x1 := (F.pleachref27_Apply.in_eq K [1, 1, 0, 1, 0] [n0 + 1] (F.pleachref27_Apply.l11010.st a0 a1 x0 x1)).trans ((show ∀ H, F.pleachref27_Apply.in K H [1, 1, 0, 1, 0] [n0 + 1] (F.pleachref27_Apply.l11010.st a0 a1 x0 x1) = F.pleachref27_Apply.l11010.B (fun a0 a1 x0 x1 => H [1, 1, 0, 1, 0] [n0] (F.pleachref27_Apply.l11010.st a0 a1 x0 x1)) (F.pleachref27_Both K) (fun a0 a1 x0 x1 x2 x3 => H [1, 1, 1, 1, 0, 1, 0] [K] (F.pleachref27_Apply.l1111010.st a0 a1 x0 x1 x2 x3)) a0 a1 x0 x1 from by intro H; kernel_rfl) (F.pleachref27_Apply.at K))
noncomputable def F.pleachref27_Apply.l1111010.B (c0 : (List TFact) → (TFact) → Option (ByteArray × Bool)) (c1 : (List TFact) → (List TChange) → (ByteArray) → (Bool) → (Int) → (Int) → (Int) → (List TFact) → (Int) → (ByteArray) → (ByteArray) → (ByteArray) → (List TFact) → Option ((List TFact))) (a0 : List TFact) (a1 : List TChange) (x0 : Int) (x1 : Int) (x2 : List TFact) (x3 : List TFact) : Option ((List TFact)) :=
    (bif (decide (x1 < x0)) then (guardK (decide (0 ≤ x1) && decide (x1 < (x3.length : Int))) ((c0 a0 ((rd sFact x3 x1.toNat).1, ((rd sFact x3 x1.toNat).2).1, (((rd sFact x3 x1.toNat).2).2).1, (((rd sFact x3 x1.toNat).2).2).2)).bind fun t1 => (c1 a0 a1 t1.1 t1.2 x0 x1 0 x2 ((rd sFact x3 x1.toNat).1) (((rd sFact x3 x1.toNat).2).1) ((((rd sFact x3 x1.toNat).2).2).1) ((((rd sFact x3 x1.toNat).2).2).2) x3))) else (some x2))
theorem F.pleachref27_Apply.l1111010.eq K n0 a0 a1 x0 x1 x2 x3 : F.pleachref27_Apply.l1111010 K (n0 + 1) a0 a1 x0 x1 x2 x3 = F.pleachref27_Apply.l1111010.B (F.pleachref27_Value K) (F.pleachref27_Apply.l11110100110011010 K n0 K) a0 a1 x0 x1 x2 x3 := (F.pleachref27_Apply.in_eq K [1, 1, 1, 1, 0, 1, 0] [n0 + 1] (F.pleachref27_Apply.l1111010.st a0 a1 x0 x1 x2 x3)).trans ((show ∀ H, F.pleachref27_Apply.in K H [1, 1, 1, 1, 0, 1, 0] [n0 + 1] (F.pleachref27_Apply.l1111010.st a0 a1 x0 x1 x2 x3) = F.pleachref27_Apply.l1111010.B (F.pleachref27_Value K) (fun a0 a1 x0 x1 x2 x3 x4 x5 x6 x7 x8 x9 x10 => H [1, 1, 1, 1, 0, 1, 0, 0, 1, 1, 0, 0, 1, 1, 0, 1, 0] [n0, K] (F.pleachref27_Apply.l11110100110011010.st a0 a1 x0 x1 x2 x3 x4 x5 x6 x7 x8 x9 x10)) a0 a1 x0 x1 x2 x3 from by intro H; kernel_rfl) (F.pleachref27_Apply.at K))
noncomputable def F.pleachref27_Apply.l11110100110011010.B (c0 : (List TFact) → (List TChange) → (ByteArray) → (Bool) → (Int) → (Int) → (Int) → (List TFact) → (Int) → (ByteArray) → (ByteArray) → (ByteArray) → (List TFact) → Option ((List TFact))) (c1 : (List TFact) → (List TChange) → (Int) → (Int) → (List TFact) → (List TFact) → Option ((List TFact))) (a0 : List TFact) (a1 : List TChange) (x0 : ByteArray) (x1 : Bool) (x2 : Int) (x3 : Int) (x4 : Int) (x5 : List TFact) (x6 : Int) (x7 : ByteArray) (x8 : ByteArray) (x9 : ByteArray) (x10 : List TFact) : Option ((List TFact)) :=
    (bif (decide (x4 < (a1.length : Int))) then (guardK (decide (0 ≤ x4) && decide (x4 < (a1.length : Int))) (bif ((rd sChange a1 x4.toNat).1 == x6) then (bif (strEq (((rd sChange a1 x4.toNat).2).1) x7) then (bif (strEq ((((rd sChange a1 x4.toNat).2).2).1) x8) then (c0 a0 a1 (((((((rd sChange a1 x4.toNat).2).2).2).2).2).2) ((((((rd sChange a1 x4.toNat).2).2).2).2).1) x2 x3 (w64 (x4 + 1)) x5 x6 x7 x8 x9 x10) else (c0 a0 a1 x0 x1 x2 x3 (w64 (x4 + 1)) x5 x6 x7 x8 x9 x10)) else (c0 a0 a1 x0 x1 x2 x3 (w64 (x4 + 1)) x5 x6 x7 x8 x9 x10)) else (c0 a0 a1 x0 x1 x2 x3 (w64 (x4 + 1)) x5 x6 x7 x8 x9 x10))) else (bif x1 then (guardK (decide (x5.length + ([(x6, x7, x8, x0)]).length ≤ nmax)) (c1 a0 a1 x2 (w64 (x3 + 1)) (x5 ++ [(x6, x7, x8, x0)]) x10)) else (c1 a0 a1 x2 (w64 (x3 + 1)) x5 x10)))
theorem F.pleachref27_Apply.l11110100110011010.eq K n0 n1 a0 a1 x0 x1 x2 x3 x4 x5 x6 x7 x8 x9 x10 : F.pleachref27_Apply.l11110100110011010 K n0 (n1 + 1) a0 a1 x0 x1 x2 x3 x4 x5 x6 x7 x8 x9 x10 = F.pleachref27_Apply.l11110100110011010.B (F.pleachref27_Apply.l11110100110011010 K n0 n1) (F.pleachref27_Apply.l1111010 K n0) a0 a1 x0 x1 x2 x3 x4 x5 x6 x7 x8 x9 x10 := (F.pleachref27_Apply.in_eq K [1, 1, 1, 1, 0, 1, 0, 0, 1, 1, 0, 0, 1, 1, 0, 1, 0] [n0, n1 + 1] (F.pleachref27_Apply.l11110100110011010.st a0 a1 x0 x1 x2 x3 x4 x5 x6 x7 x8 x9 x10)).trans ((show ∀ H, F.pleachref27_Apply.in K H [1, 1, 1, 1, 0, 1, 0, 0, 1, 1, 0, 0, 1, 1, 0, 1, 0] [n0, n1 + 1] (F.pleachref27_Apply.l11110100110011010.st a0 a1 x0 x1 x2 x3 x4 x5 x6 x7 x8 x9 x10) = F.pleachref27_Apply.l11110100110011010.B (fun a0 a1 x0 x1 x2 x3 x4 x5 x6 x7 x8 x9 x10 => H [1, 1, 1, 1, 0, 1, 0, 0, 1, 1, 0, 0, 1, 1, 0, 1, 0] [n0, n1] (F.pleachref27_Apply.l11110100110011010.st a0 a1 x0 x1 x2 x3 x4 x5 x6 x7 x8 x9 x10)) (fun a0 a1 x0 x1 x2 x3 => H [1, 1, 1, 1, 0, 1, 0] [n0] (F.pleachref27_Apply.l1111010.st a0 a1 x0 x1 x2 x3)) a0 a1 x0 x1 x2 x3 x4 x5 x6 x7 x8 x9 x10 from by intro H; kernel_rfl) (F.pleachref27_Apply.at K))
noncomputable def F.pleachref27_Apply.B (c0 : (List TFact) → (List TChange) → (Int) → (List TFact) → Option ((List TFact))) (a0 : List TFact) (a1 : List TChange) : Option ((List TFact)) :=
    (c0 a0 a1 0 ([]))
theorem F.pleachref27_Apply.eq K a0 a1 : F.pleachref27_Apply (K + 1) a0 a1 = F.pleachref27_Apply.B (F.pleachref27_Apply.l11010 K K) a0 a1 := (F.pleachref27_Apply.in_main K a0 a1).trans ((show ∀ H, F.pleachref27_Apply.in K H [] [] ⟨slots [.sc (.list sFact a0 false), .sc (.list sChange a1 false)] 0, []⟩ = F.pleachref27_Apply.B (fun a0 a1 x0 x1 => H [1, 1, 0, 1, 0] [K] (F.pleachref27_Apply.l11010.st a0 a1 x0 x1)) a0 a1 from by intro H; kernel_rfl) (F.pleachref27_Apply.at K))
noncomputable def V.pleachref27_Apply.l11010 (a0 : List TFact) (a1 : List TChange) (x0 : Int) (x1 : List TFact) := lim fun v => F.pleachref27_Apply.l11010 (v 0) (v 1) a0 a1 x0 x1
noncomputable def V.pleachref27_Apply.l1111010 (a0 : List TFact) (a1 : List TChange) (x0 : Int) (x1 : Int) (x2 : List TFact) (x3 : List TFact) := lim fun v => F.pleachref27_Apply.l1111010 (v 0) (v 1) a0 a1 x0 x1 x2 x3
noncomputable def V.pleachref27_Apply.l11110100110011010 (a0 : List TFact) (a1 : List TChange) (x0 : ByteArray) (x1 : Bool) (x2 : Int) (x3 : Int) (x4 : Int) (x5 : List TFact) (x6 : Int) (x7 : ByteArray) (x8 : ByteArray) (x9 : ByteArray) (x10 : List TFact) := lim fun v => F.pleachref27_Apply.l11110100110011010 (v 0) (v 1) (v 2) a0 a1 x0 x1 x2 x3 x4 x5 x6 x7 x8 x9 x10
noncomputable def V.pleachref27_Apply (a0 : List TFact) (a1 : List TChange) := lim fun v => F.pleachref27_Apply (v 0) a0 a1
theorem V.pleachref27_Apply.l11010.of a0 a1 x0 x1 {r} (h : F.pleachref27_Apply.l11010.B V.pleachref27_Apply.l11010 V.pleachref27_Both V.pleachref27_Apply.l1111010 a0 a1 x0 x1 = some r) : V.pleachref27_Apply.l11010 a0 a1 x0 x1 = some r :=
  App.to (App.step 1 (fun v => F.pleachref27_Apply.l11010.eq (v 0) (v 1) a0 a1 x0 x1) (by unfold F.pleachref27_Apply.l11010.B; repeat' first | exact App.val | exact App.no | exact App.lim | exact (App.enter 1 App.lim) | apply App.cond | apply App.guard | apply App.meet | apply App.ite | refine App.bind ?_ fun _ => ?_)) h
theorem V.pleachref27_Apply.l1111010.of a0 a1 x0 x1 x2 x3 {r} (h : F.pleachref27_Apply.l1111010.B V.pleachref27_Value V.pleachref27_Apply.l11110100110011010 a0 a1 x0 x1 x2 x3 = some r) : V.pleachref27_Apply.l1111010 a0 a1 x0 x1 x2 x3 = some r :=
  App.to (App.step 1 (fun v => F.pleachref27_Apply.l1111010.eq (v 0) (v 1) a0 a1 x0 x1 x2 x3) (by unfold F.pleachref27_Apply.l1111010.B; repeat' first | exact App.val | exact App.no | exact App.lim | exact (App.enter 2 App.lim) | apply App.cond | apply App.guard | apply App.meet | apply App.ite | refine App.bind ?_ fun _ => ?_)) h
theorem V.pleachref27_Apply.l11110100110011010.of a0 a1 x0 x1 x2 x3 x4 x5 x6 x7 x8 x9 x10 {r} (h : F.pleachref27_Apply.l11110100110011010.B V.pleachref27_Apply.l11110100110011010 V.pleachref27_Apply.l1111010 a0 a1 x0 x1 x2 x3 x4 x5 x6 x7 x8 x9 x10 = some r) : V.pleachref27_Apply.l11110100110011010 a0 a1 x0 x1 x2 x3 x4 x5 x6 x7 x8 x9 x10 = some r :=
  App.to (App.step 2 (fun v => F.pleachref27_Apply.l11110100110011010.eq (v 0) (v 1) (v 2) a0 a1 x0 x1 x2 x3 x4 x5 x6 x7 x8 x9 x10) (by unfold F.pleachref27_Apply.l11110100110011010.B; repeat' first | exact App.val | exact App.no | exact App.lim | apply App.cond | apply App.guard | apply App.meet | apply App.ite | refine App.bind ?_ fun _ => ?_)) h
theorem V.pleachref27_Apply.of a0 a1 {r} (h : F.pleachref27_Apply.B V.pleachref27_Apply.l11010 a0 a1 = some r) : V.pleachref27_Apply a0 a1 = some r :=
  App.to (App.step 0 (fun v => F.pleachref27_Apply.eq (v 0) a0 a1) (by unfold F.pleachref27_Apply.B; repeat' first | exact App.val | exact App.no | exact App.lim | exact (App.enter 1 App.lim) | apply App.cond | apply App.guard | apply App.meet | apply App.ite | refine App.bind ?_ fun _ => ?_)) h
noncomputable def F.pleachref27_Same (K : Nat) (a0 : List TFact) (a1 : List TFact) : Option (Bool) := evFn Try.prog sg K 15 [.sc (.list sFact a0 false), .sc (.list sFact a1 false)] []
noncomputable def F.pleachref27_Same.at (K : Nat) (p ns : List Nat) (s : St) : Option (Bool) := atFn Try.prog sg K 15 0 p ns s
noncomputable def F.pleachref27_Same.in (K : Nat) (H : List Nat → List Nat → St → Option (Bool)) (p ns : List Nat) (s : St) : Option (Bool) := inFn Try.prog sg K 15 0 [] H p ns s
theorem F.pleachref27_Same.in_eq K p ns s : F.pleachref27_Same.at K p ns s = F.pleachref27_Same.in K (F.pleachref27_Same.at K) p ns s := atFn_eq (P := Try.prog) (sg := sg) (K := K) (f := 15) (m := 0) [] p ns s
theorem F.pleachref27_Same.in_main K a0 a1 : F.pleachref27_Same (K + 1) a0 a1 = F.pleachref27_Same.in K (F.pleachref27_Same.at K) [] [] ⟨slots [.sc (.list sFact a0 false), .sc (.list sFact a1 false)] 0, []⟩ := evFn_eq (P := Try.prog) (sg := sg) (K := K) (f := 15) (args := [.sc (.list sFact a0 false), .sc (.list sFact a1 false)]) (σ := []) [] (by kernel_rfl)
def F.pleachref27_Same.l11010.st (a0 : List TFact) (a1 : List TFact) (x0 : Int) : St := ⟨[(0, vL sFact a0), (1, vL sFact a1), (12, vI (a0.length : Int)), (13, vI x0)], []⟩
noncomputable def F.pleachref27_Same.l11010 (K n0 : Nat) (a0 : List TFact) (a1 : List TFact) (x0 : Int) := F.pleachref27_Same.at K [1, 1, 0, 1, 0] [n0] (F.pleachref27_Same.l11010.st a0 a1 x0)
noncomputable def F.pleachref27_Same.l11010.B (c0 : (List TFact) → (List TFact) → (Int) → Option (Bool)) (a0 : List TFact) (a1 : List TFact) (x0 : Int) : Option (Bool) :=
    (bif (decide (x0 < (a0.length : Int))) then (guardK (decide (0 ≤ x0) && decide (x0 < (a0.length : Int))) (guardK (decide (0 ≤ x0) && decide (x0 < (a1.length : Int))) (bif (!(((rd sFact a0 x0.toNat).1 == (rd sFact a1 x0.toNat).1) && ((strEq (((rd sFact a0 x0.toNat).2).1) (((rd sFact a1 x0.toNat).2).1)) && ((strEq ((((rd sFact a0 x0.toNat).2).2).1) ((((rd sFact a1 x0.toNat).2).2).1)) && ((strEq ((((rd sFact a0 x0.toNat).2).2).2) ((((rd sFact a1 x0.toNat).2).2).2)) && true))))) then (some false) else (c0 a0 a1 (w64 (x0 + 1)))))) else (some true))
theorem F.pleachref27_Same.l11010.eq K n0 a0 a1 x0 : F.pleachref27_Same.l11010 K (n0 + 1) a0 a1 x0 = F.pleachref27_Same.l11010.B (F.pleachref27_Same.l11010 K n0) a0 a1 x0 := (F.pleachref27_Same.in_eq K [1, 1, 0, 1, 0] [n0 + 1] (F.pleachref27_Same.l11010.st a0 a1 x0)).trans ((show ∀ H, F.pleachref27_Same.in K H [1, 1, 0, 1, 0] [n0 + 1] (F.pleachref27_Same.l11010.st a0 a1 x0) = F.pleachref27_Same.l11010.B (fun a0 a1 x0 => H [1, 1, 0, 1, 0] [n0] (F.pleachref27_Same.l11010.st a0 a1 x0)) a0 a1 x0 from by intro H; kernel_rfl) (F.pleachref27_Same.at K))
noncomputable def F.pleachref27_Same.B (c0 : (List TFact) → (List TFact) → (Int) → Option (Bool)) (a0 : List TFact) (a1 : List TFact) : Option (Bool) :=
    (bif ((a0.length : Int) != (a1.length : Int)) then (some false) else (c0 a0 a1 0))
theorem F.pleachref27_Same.eq K a0 a1 : F.pleachref27_Same (K + 1) a0 a1 = F.pleachref27_Same.B (F.pleachref27_Same.l11010 K K) a0 a1 := (F.pleachref27_Same.in_main K a0 a1).trans ((show ∀ H, F.pleachref27_Same.in K H [] [] ⟨slots [.sc (.list sFact a0 false), .sc (.list sFact a1 false)] 0, []⟩ = F.pleachref27_Same.B (fun a0 a1 x0 => H [1, 1, 0, 1, 0] [K] (F.pleachref27_Same.l11010.st a0 a1 x0)) a0 a1 from by intro H; kernel_rfl) (F.pleachref27_Same.at K))
noncomputable def V.pleachref27_Same.l11010 (a0 : List TFact) (a1 : List TFact) (x0 : Int) := lim fun v => F.pleachref27_Same.l11010 (v 0) (v 1) a0 a1 x0
noncomputable def V.pleachref27_Same (a0 : List TFact) (a1 : List TFact) := lim fun v => F.pleachref27_Same (v 0) a0 a1
theorem V.pleachref27_Same.l11010.of a0 a1 x0 {r} (h : F.pleachref27_Same.l11010.B V.pleachref27_Same.l11010 a0 a1 x0 = some r) : V.pleachref27_Same.l11010 a0 a1 x0 = some r :=
  App.to (App.step 1 (fun v => F.pleachref27_Same.l11010.eq (v 0) (v 1) a0 a1 x0) (by unfold F.pleachref27_Same.l11010.B; repeat' first | exact App.val | exact App.no | exact App.lim | apply App.cond | apply App.guard | apply App.meet | apply App.ite | refine App.bind ?_ fun _ => ?_)) h
theorem V.pleachref27_Same.of a0 a1 {r} (h : F.pleachref27_Same.B V.pleachref27_Same.l11010 a0 a1 = some r) : V.pleachref27_Same a0 a1 = some r :=
  App.to (App.step 0 (fun v => F.pleachref27_Same.eq (v 0) a0 a1) (by unfold F.pleachref27_Same.B; repeat' first | exact App.val | exact App.no | exact App.lim | exact (App.enter 1 App.lim) | apply App.cond | apply App.guard | apply App.meet | apply App.ite | refine App.bind ?_ fun _ => ?_)) h
noncomputable def F.pleachlaw27_FactsDiff (K : Nat) (a0 : List TFact) (a1 : List TFact) (a2 : List TChange) : Option (Bool) := evFn Try.prog sg K 4 [.sc (.list sFact a0 false), .sc (.list sFact a1 false), .sc (.list sChange a2 false)] []
noncomputable def F.pleachlaw27_FactsDiff.at (K : Nat) (p ns : List Nat) (s : St) : Option (Bool) := atFn Try.prog sg K 4 0 p ns s
noncomputable def F.pleachlaw27_FactsDiff.in (K : Nat) (H : List Nat → List Nat → St → Option (Bool)) (p ns : List Nat) (s : St) : Option (Bool) := inFn Try.prog sg K 4 0 [] H p ns s
theorem F.pleachlaw27_FactsDiff.in_eq K p ns s : F.pleachlaw27_FactsDiff.at K p ns s = F.pleachlaw27_FactsDiff.in K (F.pleachlaw27_FactsDiff.at K) p ns s := atFn_eq (P := Try.prog) (sg := sg) (K := K) (f := 4) (m := 0) [] p ns s
theorem F.pleachlaw27_FactsDiff.in_main K a0 a1 a2 : F.pleachlaw27_FactsDiff (K + 1) a0 a1 a2 = F.pleachlaw27_FactsDiff.in K (F.pleachlaw27_FactsDiff.at K) [] [] ⟨slots [.sc (.list sFact a0 false), .sc (.list sFact a1 false), .sc (.list sChange a2 false)] 0, []⟩ := evFn_eq (P := Try.prog) (sg := sg) (K := K) (f := 4) (args := [.sc (.list sFact a0 false), .sc (.list sFact a1 false), .sc (.list sChange a2 false)]) (σ := []) [] (by kernel_rfl)
def F.pleachlaw27_FactsDiff.l111010.st (a0 : List TFact) (a1 : List TFact) (a2 : List TChange) (x0 : Int) : St := ⟨[(0, vL sFact a0), (2, vL sChange a2), (7, vI x0)], []⟩
noncomputable def F.pleachlaw27_FactsDiff.l111010 (K n0 : Nat) (a0 : List TFact) (a1 : List TFact) (a2 : List TChange) (x0 : Int) := F.pleachlaw27_FactsDiff.at K [1, 1, 1, 0, 1, 0] [n0] (F.pleachlaw27_FactsDiff.l111010.st a0 a1 a2 x0)
noncomputable def F.pleachlaw27_FactsDiff.l111010.B (c0 : (TFact) → (TFact) → Option (Bool)) (c1 : Option (Bool)) (c2 : (List TFact) → (List TFact) → (List TChange) → (Int) → Option (Bool)) (c3 : (List TFact) → (List TChange) → Option ((List TFact))) (c4 : (List TFact) → (List TChange) → Option ((List TFact))) (c5 : (List TFact) → (List TFact) → Option (Bool)) (a0 : List TFact) (a1 : List TFact) (a2 : List TChange) (x0 : Int) : Option (Bool) :=
    (bif (decide (x0 < (a2.length : Int))) then (guardK (decide (0 ≤ (w64 (x0 - 1))) && decide ((w64 (x0 - 1)) < (a2.length : Int))) (guardK (decide (0 ≤ x0) && decide (x0 < (a2.length : Int))) (meet ((c0 ((rd sChange a2 ((w64 (x0 - 1)).toNat)).1, ((rd sChange a2 ((w64 (x0 - 1)).toNat)).2).1, (((rd sChange a2 ((w64 (x0 - 1)).toNat)).2).2).1, (⟨#[]⟩ : ByteArray)) ((rd sChange a2 x0.toNat).1, ((rd sChange a2 x0.toNat).2).1, (((rd sChange a2 x0.toNat).2).2).1, (⟨#[]⟩ : ByteArray))).bind fun t12 => (bif (!t12) then ((c1).bind fun t13 => (some t13)) else (c2 a0 a1 a2 (w64 (x0 + 1))))) ((c0 ((rd sChange a2 ((w64 (x0 - 1)).toNat)).1, ((rd sChange a2 ((w64 (x0 - 1)).toNat)).2).1, (((rd sChange a2 ((w64 (x0 - 1)).toNat)).2).2).1, (⟨#[]⟩ : ByteArray)) ((rd sChange a2 x0.toNat).1, ((rd sChange a2 x0.toNat).2).1, (((rd sChange a2 x0.toNat).2).2).1, (⟨#[]⟩ : ByteArray))).bind fun t14 => (bif (!t14) then ((c1).bind fun t15 => (some t15)) else (c2 a0 a1 a2 (w64 (x0 + 1)))))))) else ((c3 a0 a2).bind fun t16 => ((c4 a0 a2).bind fun t17 => ((c5 t16 t17).bind fun t18 => (bif t18 then ((c1).bind fun t19 => (some t19)) else (some false))))))
theorem F.pleachlaw27_FactsDiff.l111010.eq K n0 a0 a1 a2 x0 : F.pleachlaw27_FactsDiff.l111010 K (n0 + 1) a0 a1 a2 x0 = F.pleachlaw27_FactsDiff.l111010.B (F.pleachref27_Less K) (F.pleachlaw27_awake K) (F.pleachlaw27_FactsDiff.l111010 K n0) (F.facts_Apply K) (F.pleachref27_Apply K) (F.pleachref27_Same K) a0 a1 a2 x0 := (F.pleachlaw27_FactsDiff.in_eq K [1, 1, 1, 0, 1, 0] [n0 + 1] (F.pleachlaw27_FactsDiff.l111010.st a0 a1 a2 x0)).trans ((show ∀ H, F.pleachlaw27_FactsDiff.in K H [1, 1, 1, 0, 1, 0] [n0 + 1] (F.pleachlaw27_FactsDiff.l111010.st a0 a1 a2 x0) = F.pleachlaw27_FactsDiff.l111010.B (F.pleachref27_Less K) (F.pleachlaw27_awake K) (fun a0 a1 a2 x0 => H [1, 1, 1, 0, 1, 0] [n0] (F.pleachlaw27_FactsDiff.l111010.st a0 a1 a2 x0)) (F.facts_Apply K) (F.pleachref27_Apply K) (F.pleachref27_Same K) a0 a1 a2 x0 from by intro H; kernel_rfl) (F.pleachlaw27_FactsDiff.at K))
noncomputable def F.pleachlaw27_FactsDiff.B (c0 : (List TFact) → Option (Bool)) (c1 : Option (Bool)) (c2 : (List TFact) → Option (Bool)) (c3 : (List TFact) → (List TFact) → Option ((List TChange))) (c4 : (List TFact) → (List TFact) → Option ((List TChange))) (c5 : (List TChange) → (List TChange) → Option (Bool)) (c6 : (List TFact) → (List TFact) → (List TChange) → (Int) → Option (Bool)) (a0 : List TFact) (a1 : List TFact) (a2 : List TChange) : Option (Bool) :=
    ((c0 a0).bind fun t0 => (bif (!t0) then ((c1).bind fun t1 => (some t1)) else ((c0 a1).bind fun t2 => (bif (!t2) then ((c1).bind fun t3 => (some t3)) else ((c2 a0).bind fun t4 => (bif (!t4) then ((c1).bind fun t5 => (some t5)) else ((c2 a1).bind fun t6 => (bif (!t6) then ((c1).bind fun t7 => (some t7)) else (bif (decide ((a2.length : Int) > 60)) then ((c1).bind fun t8 => (some t8)) else ((c3 a0 a1).bind fun t9 => ((c4 a0 a1).bind fun t10 => ((c5 t9 t10).bind fun t11 => (bif (!t11) then (some false) else (c6 a0 a1 a2 1))))))))))))))
theorem F.pleachlaw27_FactsDiff.eq K a0 a1 a2 : F.pleachlaw27_FactsDiff (K + 1) a0 a1 a2 = F.pleachlaw27_FactsDiff.B (F.pleachref27_Few K) (F.pleachlaw27_awake K) (F.pleachref27_Rises K) (F.facts_Diff K) (F.pleachref27_Diff K) (F.pleachref27_SameChanges K) (F.pleachlaw27_FactsDiff.l111010 K K) a0 a1 a2 := (F.pleachlaw27_FactsDiff.in_main K a0 a1 a2).trans ((show ∀ H, F.pleachlaw27_FactsDiff.in K H [] [] ⟨slots [.sc (.list sFact a0 false), .sc (.list sFact a1 false), .sc (.list sChange a2 false)] 0, []⟩ = F.pleachlaw27_FactsDiff.B (F.pleachref27_Few K) (F.pleachlaw27_awake K) (F.pleachref27_Rises K) (F.facts_Diff K) (F.pleachref27_Diff K) (F.pleachref27_SameChanges K) (fun a0 a1 a2 x0 => H [1, 1, 1, 0, 1, 0] [K] (F.pleachlaw27_FactsDiff.l111010.st a0 a1 a2 x0)) a0 a1 a2 from by intro H; kernel_rfl) (F.pleachlaw27_FactsDiff.at K))
noncomputable def V.pleachlaw27_FactsDiff.l111010 (a0 : List TFact) (a1 : List TFact) (a2 : List TChange) (x0 : Int) := lim fun v => F.pleachlaw27_FactsDiff.l111010 (v 0) (v 1) a0 a1 a2 x0
noncomputable def V.pleachlaw27_FactsDiff (a0 : List TFact) (a1 : List TFact) (a2 : List TChange) := lim fun v => F.pleachlaw27_FactsDiff (v 0) a0 a1 a2
theorem V.pleachlaw27_FactsDiff.l111010.of a0 a1 a2 x0 {r} (h : F.pleachlaw27_FactsDiff.l111010.B V.pleachref27_Less V.pleachlaw27_awake V.pleachlaw27_FactsDiff.l111010 V.facts_Apply V.pleachref27_Apply V.pleachref27_Same a0 a1 a2 x0 = some r) : V.pleachlaw27_FactsDiff.l111010 a0 a1 a2 x0 = some r :=
  App.to (App.step 1 (fun v => F.pleachlaw27_FactsDiff.l111010.eq (v 0) (v 1) a0 a1 a2 x0) (by unfold F.pleachlaw27_FactsDiff.l111010.B; repeat' first | exact App.val | exact App.no | exact App.lim | apply App.cond | apply App.guard | apply App.meet | apply App.ite | refine App.bind ?_ fun _ => ?_)) h
theorem V.pleachlaw27_FactsDiff.of a0 a1 a2 {r} (h : F.pleachlaw27_FactsDiff.B V.pleachref27_Few V.pleachlaw27_awake V.pleachref27_Rises V.facts_Diff V.pleachref27_Diff V.pleachref27_SameChanges V.pleachlaw27_FactsDiff.l111010 a0 a1 a2 = some r) : V.pleachlaw27_FactsDiff a0 a1 a2 = some r :=
  App.to (App.step 0 (fun v => F.pleachlaw27_FactsDiff.eq (v 0) a0 a1 a2) (by unfold F.pleachlaw27_FactsDiff.B; repeat' first | exact App.val | exact App.no | exact App.lim | exact (App.enter 1 App.lim) | apply App.cond | apply App.guard | apply App.meet | apply App.ite | refine App.bind ?_ fun _ => ?_)) h
end Go.Proofs.Ytdblhdpnllckhaa.AE
end
section
set_option linter.unusedVariables false
set_option linter.unusedSimpArgs false
namespace Go.Proofs.Ytdblhdpnllckhaa.AE
open Go

theorem w64_id {x : Int} (h0 : -9223372036854775808 ≤ x) (h1 : x ≤ 9223372036854775807) : w64 x = x := by
  show IntKind.i64.wrap x = x
  simp [IntKind.wrap, IntKind.bits, IntKind.signed]
  omega
theorem w64_up {i n : Nat} (h : i < n) (hn : n ≤ 140737488351232) : w64 ((i : Int) + 1) = ((i + 1 : Nat) : Int) := by rw [w64_id (by omega) (by omega)]; omega
theorem w64_dn {i n : Nat} (h : i < n) (hn : n ≤ 140737488351232) (h0 : 0 < i) : w64 ((i : Int) - 1) = ((i - 1 : Nat) : Int) := by rw [w64_id (by omega) (by omega)]; omega

theorem guard_tt {α : Type} (a : Option α) : guardK true a = a := rfl
theorem guard_of {α : Type} {g : Bool} {a : Option α} (h : g = true) : guardK g a = a := by rw [h]; rfl
theorem guard_dec {α : Type} {p : Prop} [Decidable p] {a : Option α} (h : p) : guardK (decide p) a = a := guard_of (decide_eq_true h)
/-- Inside a row. -/
theorem guard_in {α : Type} {i n : Nat} {a : Option α} (h : i < n) : guardK (decide (0 ≤ (i : Int)) && decide ((i : Int) < (n : Int))) a = a := guard_of (by simp [h])
theorem if_in {α : Type} {i n : Nat} {a b : α} (h : i < n) : (bif decide ((i : Int) < (n : Int)) then a else b) = a := by simp [h]
theorem if_out {α : Type} {i n : Nat} {a b : α} (h : n ≤ i) : (bif decide ((i : Int) < (n : Int)) then a else b) = b := by simp [Nat.not_lt.2 h]
theorem if_yes {α : Type} {p : Prop} [Decidable p] {a b : α} (h : p) : (bif decide p then a else b) = a := by simp [h]
theorem if_no {α : Type} {p : Prop} [Decidable p] {a b : α} (h : ¬ p) : (bif decide p then a else b) = b := by simp [h]
theorem nat_cast (i : Nat) : ((i : Nat) : Int).toNat = i := rfl
theorem meet_self {α : Type} (a : Option α) : meet a a = a := by unfold meet; simp
theorem data_len (s : ByteArray) : s.data.toList.length = s.size := by rw [Array.length_toList]; rfl
theorem toList_size (s : ByteArray) : s.toList.length = s.size := by rw [ByteArray.toList_eq]; exact data_len s
theorem toList_nil {s : ByteArray} : s.toList = [] ↔ s.size = 0 := by
  rw [← toList_size, List.length_eq_zero_iff]
theorem bytes_ext {s t : ByteArray} (h : s.toList = t.toList) : s = t := by
  rw [ByteArray.toList_eq, ByteArray.toList_eq] at h
  have : s.data = t.data := by rwa [← Array.toList_inj]
  cases s; cases t; simp_all
theorem strEq_iff {s t : ByteArray} : strEq s t = true ↔ s = t := by
  unfold strEq
  rw [beq_iff_eq]
  exact ⟨bytes_ext, fun h => by rw [h]⟩
theorem strEq_self (s : ByteArray) : strEq s s = true := strEq_iff.2 rfl
theorem strEq_no {s t : ByteArray} (h : s ≠ t) : strEq s t = false := by
  cases hb : strEq s t with
  | false => rfl
  | true => exact absurd (strEq_iff.1 hb) h
/-! ### The order of texts -/

theorem less_leq : ∀ x y : List UInt8, (Op.bytesLess x y || x == y) = !(Op.bytesLess y x)
  | [], [] => by simp [Op.bytesLess]
  | [], b :: y => by simp [Op.bytesLess]
  | a :: x, [] => by simp [Op.bytesLess]
  | a :: x, b :: y => by
    have ih := less_leq x y
    by_cases h1 : a < b
    · have h2 : ¬ b < a := by simp only [UInt8.lt_iff_toNat_lt] at *; omega
      have h3 : ¬ b = a := by rintro rfl; simp at h1
      simp [Op.bytesLess, h1, h2, h3]
    · by_cases h2 : b < a
      · have h3 : ¬ b = a := by rintro rfl; simp at h2
        have h4 : ¬ a = b := fun h => h3 h.symm
        simp [Op.bytesLess, h1, h2, h4]
      · have h3 : a = b := by
          apply UInt8.toNat_inj.1
          simp only [UInt8.lt_iff_toNat_lt] at *
          omega
        subst h3
        simp [Op.bytesLess, h1] at ih ⊢
        exact ih
theorem less_irr : ∀ x : List UInt8, Op.bytesLess x x = false
  | [] => rfl
  | a :: x => by
    have : ¬ a < a := by simp
    simp [Op.bytesLess, less_irr x, this]
theorem less_trans : ∀ x y z : List UInt8, Op.bytesLess x y = true → Op.bytesLess y z = true → Op.bytesLess x z = true
  | _, [], _, h, _ => by simp [Op.bytesLess] at h
  | _, _ :: _, [], _, h => by simp [Op.bytesLess] at h
  | [], b :: y, c :: z, _, _ => rfl
  | a :: x, b :: y, c :: z, h1, h2 => by
    simp only [Op.bytesLess, Bool.or_eq_true, Bool.and_eq_true, decide_eq_true_eq, beq_iff_eq] at h1 h2 ⊢
    rcases h1 with h1 | ⟨rfl, h1⟩
    · rcases h2 with h2 | ⟨rfl, h2⟩
      · left; simp only [UInt8.lt_iff_toNat_lt] at *; omega
      · exact .inl h1
    · rcases h2 with h2 | ⟨rfl, h2⟩
      · exact .inl h2
      · exact .inr ⟨rfl, less_trans x y z h1 h2⟩
/-- Of two texts one is less, or they are the same. -/
theorem lt_or (a b : ByteArray) : (strLt a b || strEq a b) = !strLt b a := less_leq a.toList b.toList
theorem lt_irr (a : ByteArray) : strLt a a = false := less_irr a.toList
theorem lt_trans {a b c : ByteArray} (h : strLt a b = true) (g : strLt b c = true) : strLt a c = true := less_trans _ _ _ h g
theorem lt_asymm {a b : ByteArray} (h : strLt a b = true) : strLt b a = false := by
  cases hb : strLt b a with
  | false => rfl
  | true => have := lt_trans h hb; rw [lt_irr] at this; cases this
theorem lt_total {a b : ByteArray} (h : strLt a b = false) (hn : a ≠ b) : strLt b a = true := by
  have := lt_or a b
  rw [h, strEq_no hn] at this
  cases hb : strLt b a with
  | true => rfl
  | false => rw [hb] at this; simp at this
theorem size_zero {s : ByteArray} (h : s.size = 0) : s = (⟨#[]⟩ : ByteArray) := by
  apply bytes_ext
  rw [toList_nil.2 h]
  exact (toList_nil.2 rfl).symm
theorem strEq_nil (s : ByteArray) : strEq s (⟨#[]⟩ : ByteArray) = (s.size == 0) := by
  rw [Bool.eq_iff_iff, strEq_iff]
  simp only [beq_iff_eq]
  exact ⟨fun h => by rw [h]; rfl, size_zero⟩
theorem rd_get {e : Sh} {l : List (den e)} {i : Nat} (h : i < l.length) : rd e l i = l[i] := by
  simp [rd, List.getD_eq_getElem?_getD, List.getElem?_eq_getElem h]
theorem rd_mem {e : Sh} {l : List (den e)} {i : Nat} (h : i < l.length) : rd e l i ∈ l := by rw [rd_get h]; exact List.getElem_mem h
theorem drop_rd {e : Sh} {l : List (den e)} {i : Nat} (h : i < l.length) : l.drop i = rd e l i :: l.drop (i + 1) := by rw [rd_get h]; exact List.drop_eq_getElem_cons h
theorem take_rd {e : Sh} {l : List (den e)} {i : Nat} (h : i < l.length) : l.take (i + 1) = l.take i ++ [rd e l i] := by
  rw [rd_get h, List.take_add_one, List.getElem?_eq_getElem h]; rfl

/-- A loop that ends at the first place at which the step tells something; else what is told at the end. -/
def scanG {α : Type} (step : Nat → Option α) (fin : α) : Nat → Nat → α
  | 0, _ => fin
  | d + 1, i => match step i with
    | some r => r
    | none => scanG step fin d (i + 1)
abbrev scanI (step : Nat → Option Int) : Nat → Nat → Int := scanG step 0
theorem scanG_succ {α : Type} (step : Nat → Option α) (fin : α) (d i : Nat) : scanG step fin (d + 1) i = (step i).getD (scanG step fin d (i + 1)) := by
  show (match step i with | some r => r | none => scanG step fin d (i + 1)) = _
  cases step i <;> rfl
theorem scanI_succ (step : Nat → Option Int) (d i : Nat) : scanI step (d + 1) i = (step i).getD (scanI step d (i + 1)) := scanG_succ step 0 d i
end Go.Proofs.Ytdblhdpnllckhaa.AE
end
section
set_option linter.unusedVariables false
set_option linter.unusedSimpArgs false
namespace Go.Proofs.Ytdblhdpnllckhaa.AE
open Go

def okc (c : Int) : Bool := (decide (97 ≤ c) && decide (c ≤ 122)) || (decide (48 ≤ c) && decide (c ≤ 57)) || c == 45
theorem name_fits_ok (c : Int) : V.name_fits c = some (okc c) := by
  refine V.name_fits.of _ ?_
  unfold F.name_fits.B okc
  by_cases a1 : c ≥ 97 <;> by_cases a2 : c ≤ 122 <;> by_cases a3 : c ≥ 48 <;> by_cases a4 : c ≤ 57 <;> simp [Bool.cond_eq_ite, a1, a2, a3, a4] <;> omega
/-- From place i on, d bytes, all fit. -/
def okFrom (s : ByteArray) : Nat → Nat → Bool
  | 0, _ => true
  | d + 1, i => okc (byteAt s i) && okFrom s d (i + 1)
def nameB (s : ByteArray) : Bool := decide (1 ≤ s.size) && decide (s.size ≤ 12) && okFrom s s.size 0

theorem name_Check_l (s : ByteArray) (hs : s.size ≤ 140737488351232) : ∀ d i : Nat, i + d = s.size → V.name_Check.l11010 s (i : Int) = some (if okFrom s d i then 0 else 2)
  | 0, i, h => by
    refine V.name_Check.l11010.of _ _ ?_
    unfold F.name_Check.l11010.B
    rw [if_out (by omega)]
    simp [okFrom]
  | d + 1, i, h => by
    refine V.name_Check.l11010.of _ _ ?_
    unfold F.name_Check.l11010.B
    rw [if_in (by omega), guard_in (by omega), name_fits_ok, Option.bind_some, w64_up (show i < s.size by omega) hs, name_Check_l s hs d (i + 1) (by omega)]
    cases hc : okc (byteAt s (i : Int)) <;> simp [okFrom, hc]
theorem name_Check_ok (s : ByteArray) (hs : s.size ≤ 140737488351232) : V.name_Check s = some (if nameB s then 0 else 2) := by
  refine V.name_Check.of _ ?_
  unfold F.name_Check.B
  rw [strEq_nil]
  have := name_Check_l s hs s.size 0 (by omega)
  rw [show (0 : Int) = ((0 : Nat) : Int) from rfl, this]
  by_cases h0 : s.size = 0
  · simp [Bool.cond_eq_ite, h0, nameB]
  · by_cases h2 : s.size ≤ 12
    · have h1 : 1 ≤ s.size := by omega
      have h3 : ¬ (s.size : Int) > 12 := by omega
      simp [Bool.cond_eq_ite, h0, h1, h2, h3, nameB]
    · have h3 : (s.size : Int) > 12 := by omega
      simp [Bool.cond_eq_ite, h0, h2, h3, nameB]

def valueB (v : TValue) : Bool := (v.1 == 1 && (v.2.1 == 0 || v.2.1 == 1) && v.2.2.size == 0) || (v.1 == 2 && v.2.2.size == 0) || (v.1 == 3 && v.2.1 == 0 && decide (v.2.2.size ≤ 64))
theorem value_Check_ok (v : TValue) : V.value_Check v = some (if valueB v then 0 else 2) := by
  refine V.value_Check.of _ ?_
  obtain ⟨a, b, s⟩ := v
  unfold F.value_Check.B valueB
  simp only [strEq_nil]
  by_cases a1 : a = 1
  · subst a1
    by_cases b0 : b = 0 <;> by_cases b1 : b = 1 <;> by_cases s0 : s.size = 0 <;> simp [Bool.cond_eq_ite, b0, b1, s0]
  · by_cases a2 : a = 2
    · subst a2
      by_cases s0 : s.size = 0 <;> simp [Bool.cond_eq_ite, s0]
    · by_cases a3 : a = 3
      · subst a3
        by_cases b0 : b = 0 <;> by_cases s0 : s.size ≤ 64 <;> simp [Bool.cond_eq_ite, b0, s0] <;> omega
      · simp [Bool.cond_eq_ite, a1, a2, a3]
/-! ### Rows that rise -/

def okProps (l : List TProp) : Prop := l.length ≤ 140737488351232 ∧ ∀ p ∈ l, p.1.size ≤ 140737488351232 ∧ p.2.2.2.size ≤ 140737488351232 ∧ -9223372036854775808 ≤ p.2.2.1 ∧ p.2.2.1 ≤ 9223372036854775807
def okTexts (l : List ByteArray) : Prop := l.length ≤ 140737488351232 ∧ ∀ s ∈ l, s.size ≤ 140737488351232
def propStep (l : List TProp) (i : Nat) : Option Int :=
  if (nameB (rd sProp l i).1 && valueB (rd sProp l i).2) = false then some 2
  else if 0 < i ∧ strLt (rd sProp l (i - 1)).1 (rd sProp l i).1 = false then some 4 else none
def textStep (l : List ByteArray) (i : Nat) : Option Int :=
  if nameB (rd .str l i) = false then some 2
  else if 0 < i ∧ strLt (rd .str l (i - 1)) (rd .str l i) = false then some 4 else none
def propsN (l : List TProp) : Int := if l.length > 8 then 5 else scanI (propStep l) l.length 0
def rowN (l : List ByteArray) : Int := scanI (textStep l) l.length 0
def restN (labels : List ByteArray) (props : List TProp) : Int := if labels.length > 8 then 5 else if rowN labels = 0 then propsN props else rowN labels

theorem CheckProps_l (l : List TProp) (hl : okProps l) : ∀ d i : Nat, i + d = l.length → V.elem_CheckProps.l11010 l (i : Int) = some (scanI (propStep l) d i)
  | 0, i, h => by
    refine V.elem_CheckProps.l11010.of _ _ ?_
    unfold F.elem_CheckProps.l11010.B
    rw [if_out (by omega)]
    rfl
  | d + 1, i, h => by
    refine V.elem_CheckProps.l11010.of _ _ ?_
    unfold F.elem_CheckProps.l11010.B
    have hi : i < l.length := by omega
    rw [if_in hi, guard_in hi]
    simp only [nat_cast, name_Check_ok _ (hl.2 _ (rd_mem (e := sProp) hi)).1, Option.bind_some, value_Check_ok, w64_up hi hl.1, CheckProps_l l hl d (i + 1) (by omega)]
    rw [scanI_succ]
    unfold propStep
    cases hn : nameB (rd sProp l i).1 with
    | false => simp
    | true =>
      cases hv : valueB (rd sProp l i).2 with
      | false => simp [hv]
      | true =>
        by_cases h0 : 0 < i
        · rw [w64_dn hi hl.1 h0, guard_in (show i - 1 < l.length by omega), nat_cast]
          cases hless : strLt (rd sProp l (i - 1)).1 (rd sProp l i).1 <;> simp [hless, hv, h0]
        · have h0 : i = 0 := by omega
          subst h0
          simp [hv]
theorem CheckProps_ok (l : List TProp) (hl : okProps l) : V.elem_CheckProps l = some (propsN l) := by
  refine V.elem_CheckProps.of _ ?_
  unfold F.elem_CheckProps.B propsN
  have := CheckProps_l l hl l.length 0 (by omega)
  rw [show (0 : Int) = ((0 : Nat) : Int) from rfl, this]
  by_cases h : l.length > 8
  · rw [if_yes (by omega), if_pos h]
  · rw [if_no (by omega), if_neg h]
theorem Row_l (l : List ByteArray) (hl : okTexts l) : ∀ d i : Nat, i + d = l.length → V.name_Row.l1010 l (i : Int) = some (scanI (textStep l) d i)
  | 0, i, h => by
    refine V.name_Row.l1010.of _ _ ?_
    unfold F.name_Row.l1010.B
    rw [if_out (by omega)]
    rfl
  | d + 1, i, h => by
    refine V.name_Row.l1010.of _ _ ?_
    unfold F.name_Row.l1010.B
    have hi : i < l.length := by omega
    rw [if_in hi, guard_in hi]
    simp only [nat_cast, name_Check_ok _ (hl.2 _ (rd_mem (e := .str) hi)), Option.bind_some, w64_up hi hl.1, Row_l l hl d (i + 1) (by omega)]
    rw [scanI_succ]
    unfold textStep
    cases hn : nameB (rd .str l i) with
    | false => simp
    | true =>
      by_cases h0 : 0 < i
      · rw [w64_dn hi hl.1 h0, guard_in (show i - 1 < l.length by omega), nat_cast]
        cases hless : strLt (rd .str l (i - 1)) (rd .str l i) <;> simp [hless, h0]
      · have h0 : i = 0 := by omega
        subst h0
        simp
theorem Row_ok (l : List ByteArray) (hl : okTexts l) : V.name_Row l = some (rowN l) := by
  refine V.name_Row.of _ ?_
  unfold F.name_Row.B rowN
  exact Row_l l hl l.length 0 (by omega)
theorem rest_ok (a : List ByteArray) (l : List TProp) (ha : okTexts a) (hl : okProps l) : V.elem_rest a l = some (restN a l) := by
  refine V.elem_rest.of _ _ ?_
  unfold F.elem_rest.B restN
  rw [Row_ok a ha, CheckProps_ok l hl]
  by_cases h : a.length > 8
  · rw [if_yes (by omega), if_pos h]
  · rw [if_no (by omega), if_neg h]
    by_cases h0 : rowN a = 0 <;> simp [Bool.cond_eq_ite, h0]
end Go.Proofs.Ytdblhdpnllckhaa.AE
end
section
set_option linter.unusedVariables false
set_option linter.unusedSimpArgs false
namespace Go.Proofs.Ytdblhdpnllckhaa.AE
open Go

end Go.Proofs.Ytdblhdpnllckhaa.AE
end
section
set_option linter.unusedVariables false
set_option linter.unusedSimpArgs false
namespace Go.Proofs.Ytdblhdpnllckhaa.AE
open Go

theorem scanI_zero {step : Nat → Option Int} (hs : ∀ i r, step i = some r → r ≠ 0) : ∀ d i, scanI step d i = 0 → ∀ j, i ≤ j → j < i + d → step j = none
  | 0, i, _, j, h1, h2 => by omega
  | d + 1, i, h, j, h1, h2 => by
    rw [scanI_succ] at h
    cases hq : step i with
    | some r => rw [hq] at h; exact absurd h (hs i r hq)
    | none =>
      rw [hq] at h
      by_cases hij : j = i
      · rw [hij]; exact hq
      · exact scanI_zero hs d (i + 1) h j (by omega) (by omega)
theorem propStep_ne (l : List TProp) (i : Nat) (r : Int) (h : propStep l i = some r) : r ≠ 0 := by
  unfold propStep at h
  split at h
  · injection h with h; omega
  · split at h
    · injection h with h; omega
    · cases h
theorem textStep_ne (l : List ByteArray) (i : Nat) (r : Int) (h : textStep l i = some r) : r ≠ 0 := by
  unfold textStep at h
  split at h
  · injection h with h; omega
  · split at h
    · injection h with h; omega
    · cases h
theorem nameB_size {s : ByteArray} (h : nameB s = true) : 1 ≤ s.size ∧ s.size ≤ 12 := by
  unfold nameB at h
  simp at h
  exact ⟨h.1.1, h.1.2⟩
theorem textStep_none {l : List ByteArray} {i : Nat} (h : textStep l i = none) : nameB (rd .str l i) = true ∧ (0 < i → strLt (rd .str l (i - 1)) (rd .str l i) = true) := by
  unfold textStep at h
  split at h
  · cases h
  · rename_i h1
    split at h
    · cases h
    · rename_i h2
      refine ⟨by simpa using h1, fun h0 => ?_⟩
      cases hq : strLt (rd .str l (i - 1)) (rd .str l i) with
      | true => rfl
      | false => exact absurd ⟨h0, hq⟩ h2
theorem propStep_none {l : List TProp} {i : Nat} (h : propStep l i = none) : nameB (rd sProp l i).1 = true ∧ valueB (rd sProp l i).2 = true ∧ (0 < i → strLt (rd sProp l (i - 1)).1 (rd sProp l i).1 = true) := by
  unfold propStep at h
  split at h
  · cases h
  · rename_i h1
    split at h
    · cases h
    · rename_i h2
      have h3 : nameB (rd sProp l i).1 = true ∧ valueB (rd sProp l i).2 = true := by simpa using h1
      refine ⟨h3.1, h3.2, fun h0 => ?_⟩
      cases hq : strLt (rd sProp l (i - 1)).1 (rd sProp l i).1 with
      | true => rfl
      | false => exact absurd ⟨h0, hq⟩ h2
/-- What a row of names, of properties that may be is. -/
theorem rowN_zero {l : List ByteArray} (h : rowN l = 0) {i : Nat} (hi : i < l.length) : nameB (rd .str l i) = true ∧ (0 < i → strLt (rd .str l (i - 1)) (rd .str l i) = true) :=
  textStep_none (scanI_zero (textStep_ne l) l.length 0 h i (by omega) (by omega))
theorem propsN_len {l : List TProp} (h : propsN l = 0) : l.length ≤ 8 := by
  unfold propsN at h
  split at h
  · omega
  · omega
theorem propsN_zero {l : List TProp} (h : propsN l = 0) {i : Nat} (hi : i < l.length) : nameB (rd sProp l i).1 = true ∧ valueB (rd sProp l i).2 = true ∧ (0 < i → strLt (rd sProp l (i - 1)).1 (rd sProp l i).1 = true) := by
  have h8 := propsN_len h
  unfold propsN at h
  rw [if_neg (by omega)] at h
  exact propStep_none (scanI_zero (propStep_ne l) l.length 0 h i (by omega) (by omega))
theorem restN_zero {a : List ByteArray} {l : List TProp} (h : restN a l = 0) : a.length ≤ 8 ∧ rowN a = 0 ∧ propsN l = 0 := by
  unfold restN at h
  split at h
  · omega
  · split at h
    · rename_i h1 h2
      exact ⟨by omega, h2, h⟩
    · rename_i h1 h2
      exact absurd h h2

/-- Labels and properties are as few and short as they may be. -/
structure Short (a : List ByteArray) (l : List TProp) : Prop where
  na : a.length ≤ 8
  nl : l.length ≤ 8
  ta : ∀ i, i < a.length → (rd .str a i).size ≤ 12
  tl : ∀ i, i < l.length → (rd sProp l i).1.size ≤ 12
theorem Short.of {a : List ByteArray} {l : List TProp} (h : restN a l = 0) : Short a l := by
  obtain ⟨h1, h2, h3⟩ := restN_zero h
  exact ⟨h1, propsN_len h3, fun i hi => (nameB_size (rowN_zero h2 hi).1).2, fun i hi => (nameB_size (propsN_zero h3 hi).1).2⟩
/-! ### Nodes and edges -/

structure okNode (n : TNode) : Prop where
  id : n.1.size ≤ 140737488351232
  la : okTexts n.2.1
  pr : okProps n.2.2
def nodeN (n : TNode) : Int := if nameB n.1 then restN n.2.1 n.2.2 else 2
theorem CheckNode_ok (n : TNode) (h : okNode n) : V.elem_CheckNode n = some (nodeN n) := by
  refine V.elem_CheckNode.of _ ?_
  unfold F.elem_CheckNode.B nodeN
  rw [name_Check_ok _ h.id, Option.bind_some, rest_ok _ _ h.la h.pr]
  cases nameB n.1 <;> simp
end Go.Proofs.Ytdblhdpnllckhaa.AE
end
section
set_option linter.unusedVariables false
set_option linter.unusedSimpArgs false
set_option maxRecDepth 20000
namespace Go.Proofs.Ytdblhdpnllckhaa.AE
open Go

def lessF (a b : TFact) : Bool := bif a.1 != b.1 then decide (a.1 < b.1) else bif !strEq a.2.1 b.2.1 then strLt a.2.1 b.2.1 else strLt a.2.2.1 b.2.2.1
def cmpF (a b : TFact) : Int := if lessF a b then -1 else if lessF b a then 1 else 0

theorem Less_ok (a b : TFact) : V.pleachref27_Less a b = some (lessF a b) := by
  refine V.pleachref27_Less.of a b ?_
  unfold F.pleachref27_Less.B lessF
  cases a.1 != b.1 <;> cases strEq a.2.1 b.2.1 <;> rfl

theorem CompareString_ok (a b : ByteArray) : V.bytealg_CompareString a b = some (cmpS a b) := V.bytealg_CompareString.of a b rfl
theorem stringsCompare_ok (a b : ByteArray) : V.strings_Compare a b = some (cmpS a b) := by
  refine V.strings_Compare.of a b ?_
  unfold F.strings_Compare.B
  rw [CompareString_ok, Option.bind_some]
def cmpI (a b : Int) : Int := if a < b then -1 else if b < a then 1 else 0
theorem cmpCompareInt_ok (a b : Int) : V.cmp_Compare_int a b = some (cmpI a b) := by
  have nan : ∀ x : Int, V.cmp_isNaN_int x = some false := fun x => V.cmp_isNaN_int.of x (by unfold F.cmp_isNaN_int.B; simp)
  refine V.cmp_Compare_int.of a b ?_
  unfold F.cmp_Compare_int.B cmpI
  rw [nan, nan, Option.bind_some, Option.bind_some]
  by_cases h : a < b
  · simp [h]
  · by_cases g : b < a <;> simp [h, g]
theorem cmpOr_ok (x y z : Int) : V.cmp_Or_int [x, y, z] = some (if x ≠ 0 then x else if y ≠ 0 then y else z) := by
  refine V.cmp_Or_int.of _ ?_
  unfold F.cmp_Or_int.B
  refine V.cmp_Or_int.l11010.of _ _ ?_
  unfold F.cmp_Or_int.l11010.B
  by_cases hx : x = 0
  · subst hx
    have e1 : w64 (0 + 1) = 1 := by rw [w64_id (by omega) (by omega)]; rfl
    simp only [e1]
    simp [rd, guardK]
    refine V.cmp_Or_int.l11010.of _ _ ?_
    unfold F.cmp_Or_int.l11010.B
    by_cases hy : y = 0
    · subst hy
      have e2 : w64 (1 + 1) = 2 := by rw [w64_id (by omega) (by omega)]; rfl
      simp only [e2]
      simp [rd, guardK]
      refine V.cmp_Or_int.l11010.of _ _ ?_
      unfold F.cmp_Or_int.l11010.B
      by_cases hz : z = 0
      · subst hz
        have e3 : w64 (2 + 1) = 3 := by rw [w64_id (by omega) (by omega)]; rfl
        simp only [e3]
        simp [rd, guardK]
        refine V.cmp_Or_int.l11010.of _ _ ?_
        unfold F.cmp_Or_int.l11010.B
        simp
      · simp [rd, guardK, hz, Bool.cond_eq_ite]
    · simp [rd, guardK, hy, Bool.cond_eq_ite]
  · simp [rd, guardK, hx, Bool.cond_eq_ite]

theorem cmpS_self (a : ByteArray) : cmpS a a = 0 := by simp [cmpS, lt_irr]
theorem cmpS_lt {a b : ByteArray} (h : strLt a b = true) : cmpS a b = -1 := by simp [cmpS, h]
theorem cmpS_gt {a b : ByteArray} (h : strLt b a = true) : cmpS a b = 1 := by simp [cmpS, h, lt_asymm h]
theorem cmpS_ne {a b : ByteArray} (h : a ≠ b) : (strLt a b = true ∧ cmpS a b = -1) ∨ (strLt b a = true ∧ strLt a b = false ∧ cmpS a b = 1) := by
  cases hl : strLt a b with
  | true => exact .inl ⟨rfl, cmpS_lt hl⟩
  | false => have := lt_total hl h; exact .inr ⟨this, rfl, cmpS_gt this⟩

theorem lessF_irr (a : TFact) : lessF a a = false := by simp [lessF, strEq_self, lt_irr]

theorem Compare_ok (a b : TFact) : V.facts_Compare a b = some (cmpF a b) := by
  refine V.facts_Compare.of a b ?_
  unfold F.facts_Compare.B
  rw [cmpCompareInt_ok, Option.bind_some, stringsCompare_ok, Option.bind_some, stringsCompare_ok, Option.bind_some, cmpOr_ok, Option.bind_some]
  refine congrArg some ?_
  unfold cmpF lessF cmpI
  by_cases h1 : a.1 = b.1
  · rw [h1]
    by_cases h2 : a.2.1 = b.2.1
    · rw [h2, cmpS_self]
      by_cases h3 : a.2.2.1 = b.2.2.1
      · rw [h3, cmpS_self]; simp [strEq_self, lt_irr]
      · rcases cmpS_ne h3 with ⟨g1, g2⟩ | ⟨g1, g2, g3⟩
        · simp [strEq_self, g1, g2]
        · simp [strEq_self, g1, g2, g3]
    · have h2' : b.2.1 ≠ a.2.1 := fun e => h2 e.symm
      rcases cmpS_ne h2 with ⟨g1, g2⟩ | ⟨g1, g2, g3⟩
      · simp [strEq_no h2, strEq_no h2', g1, g2]
      · simp [strEq_no h2, strEq_no h2', g1, g2, g3]
  · have h1' : ¬ b.1 = a.1 := fun e => h1 e.symm
    by_cases h4 : a.1 < b.1
    · simp [h1, h4]
    · have h5 : b.1 < a.1 := by omega
      simp [h1, h1', h4, h5]

theorem cmpF_lt {a b : TFact} : cmpF a b < 0 ↔ lessF a b = true := by
  unfold cmpF
  cases lessF a b <;> cases lessF b a <;> simp

/-- Do they rise from a place on? -/
def riseF (l : List TFact) : Nat → Nat → Bool
  | 0, _ => true
  | d + 1, i => lessF (rd sFact l (i - 1)) (rd sFact l i) && riseF l d (i + 1)
def rises (l : List TFact) : Bool := riseF l (l.length - 1) 1

theorem Rises_l (l : List TFact) (hs : l.length ≤ 140737488351232) : ∀ d i : Nat, i + d = l.length → 1 ≤ i → V.pleachref27_Rises.l1010 l (i : Int) = some (riseF l d i)
  | 0, i, h, h1 => by
    refine V.pleachref27_Rises.l1010.of _ _ ?_
    unfold F.pleachref27_Rises.l1010.B
    rw [if_out (by omega)]
    rfl
  | d + 1, i, h, h1 => by
    have hi : i < l.length := by omega
    have ih := Rises_l l hs d (i + 1) (by omega) (by omega)
    refine V.pleachref27_Rises.l1010.of _ _ ?_
    unfold F.pleachref27_Rises.l1010.B
    rw [if_in hi, w64_dn hi hs (by omega), guard_in (by omega : i - 1 < l.length), guard_in hi, nat_cast, nat_cast, Less_ok, Option.bind_some, w64_up hi hs, ih]
    simp only [riseF]
    show (bif !lessF (rd sFact l (i - 1)) (rd sFact l i) then some false else some (riseF l d (i + 1))) = _
    cases lessF (rd sFact l (i - 1)) (rd sFact l i) <;> rfl

theorem Rises_ok (l : List TFact) (hs : l.length ≤ 140737488351232) : V.pleachref27_Rises l = some (rises l) := by
  refine V.pleachref27_Rises.of _ ?_
  unfold F.pleachref27_Rises.B rises
  rcases Nat.eq_zero_or_pos l.length with h | h
  · rw [show l.length - 1 = 0 by omega]
    refine V.pleachref27_Rises.l1010.of _ _ ?_
    unfold F.pleachref27_Rises.l1010.B
    rw [if_no (by omega)]
    rfl
  · exact Rises_l l hs (l.length - 1) 1 (by omega) (by omega)

end Go.Proofs.Ytdblhdpnllckhaa.AE
end
section
set_option linter.unusedVariables false
set_option linter.unusedSimpArgs false
set_option maxRecDepth 20000
namespace Go.Proofs.Ytdblhdpnllckhaa.AE
open Go

theorem Few27_l (l : List TFact) (hl : l.length ≤ 140737488351232) : ∀ (d i : Nat) (n : Int), i + d = l.length → ∃ r, V.pleachref27_Few.l11010 l n (i : Int) = some r ∧ (r = true → l.length ≤ 120)
  | 0, i, n, h => by
    have B := fun {r} => V.pleachref27_Few.l11010.of l n (i : Int) (r := r)
    unfold F.pleachref27_Few.l11010.B at B
    rw [if_out (by omega)] at B
    by_cases hm : (l.length : Int) ≤ 120
    · exact ⟨_, B (by rw [if_yes hm]), fun _ => by omega⟩
    · exact ⟨false, B (by rw [if_no hm]), fun h => by cases h⟩
  | d + 1, i, n, h => by
    have B := fun {r} => V.pleachref27_Few.l11010.of l n (i : Int) (r := r)
    unfold F.pleachref27_Few.l11010.B at B
    have hi : i < l.length := by omega
    rw [if_in hi, guard_in hi, guard_in hi, guard_in hi, w64_up hi hl] at B
    by_cases hm : (i : Int) ≤ 120
    · rw [if_yes hm] at B
      generalize w64 _ = n' at B
      obtain ⟨r, h1, h2⟩ := Few27_l l hl d (i + 1) n' (by omega)
      exact ⟨r, B h1, h2⟩
    · rw [if_no hm] at B
      by_cases hm : (l.length : Int) ≤ 120
      · exact ⟨_, B (by rw [if_yes hm]), fun _ => by omega⟩
      · exact ⟨false, B (by rw [if_no hm]), fun h => by cases h⟩

theorem Few27_ok (l : List TFact) (hl : l.length ≤ 140737488351232) : ∃ r, V.pleachref27_Few l = some r ∧ (r = true → l.length ≤ 120) := by
  obtain ⟨r, h1, h2⟩ := Few27_l l hl l.length 0 0 (by omega)
  exact ⟨r, V.pleachref27_Few.of l (by unfold F.pleachref27_Few.B; exact h1), h2⟩

end Go.Proofs.Ytdblhdpnllckhaa.AE
end
section
set_option linter.unusedVariables false
set_option linter.unusedSimpArgs false
set_option maxRecDepth 20000
namespace Go.Proofs.Ytdblhdpnllckhaa.AE
open Go

theorem lessF_asymm {a b : TFact} (h : lessF a b = true) : lessF b a = false := by
  unfold lessF at h ⊢
  by_cases h1 : a.1 = b.1
  · have h1' : b.1 = a.1 := h1.symm
    rw [h1] at h ⊢
    simp only [bne_self_eq_false, cond_false] at h ⊢
    by_cases h2 : a.2.1 = b.2.1
    · rw [h2] at h ⊢
      simp only [strEq_self, Bool.not_true, cond_false] at h ⊢
      exact lt_asymm h
    · have h2' : b.2.1 ≠ a.2.1 := fun e => h2 e.symm
      simp only [strEq_no h2, strEq_no h2', Bool.not_false, cond_true] at h ⊢
      exact lt_asymm h
  · have h1' : b.1 ≠ a.1 := fun e => h1 e.symm
    have e1 : (a.1 != b.1) = true := by simpa using h1
    have e2 : (b.1 != a.1) = true := by simpa using h1'
    rw [e1] at h
    rw [e2]
    simp only [cond_true, decide_eq_true_eq, decide_eq_false_iff_not] at h ⊢
    omega

def keyF (a : TFact) : Int × ByteArray × ByteArray := (a.1, a.2.1, a.2.2.1)
def sameK (a b : TFact) : Bool := a.1 == b.1 && (strEq a.2.1 b.2.1 && strEq a.2.2.1 b.2.2.1)
theorem sameK_iff {a b : TFact} : sameK a b = true ↔ keyF a = keyF b := by
  unfold sameK keyF
  simp [strEq_iff]

theorem lessF_key {a b c d : TFact} (h : keyF a = keyF c) (g : keyF b = keyF d) : lessF a b = lessF c d := by
  unfold keyF at h g
  simp only [Prod.mk.injEq] at h g
  unfold lessF
  rw [h.1, h.2.1, h.2.2, g.1, g.2.1, g.2.2]
theorem lessF_cases {a b : TFact} : lessF a b = true ↔ a.1 < b.1 ∨ (a.1 = b.1 ∧ (strLt a.2.1 b.2.1 = true ∨ (a.2.1 = b.2.1 ∧ strLt a.2.2.1 b.2.2.1 = true))) := by
  unfold lessF
  by_cases h1 : a.1 = b.1
  · by_cases h2 : a.2.1 = b.2.1
    · simp [h1, h2, strEq_self, lt_irr]
    · have e : (!strEq a.2.1 b.2.1) = true := by rw [strEq_no h2]; rfl
      simp [h1, h2, e]
  · simp [h1]
theorem lessF_trans {a b c : TFact} (h : lessF a b = true) (g : lessF b c = true) : lessF a c = true := by
  rw [lessF_cases] at h g ⊢
  rcases h with h | ⟨h1, h⟩ <;> rcases g with g | ⟨g1, g⟩
  · exact .inl (by omega)
  · exact .inl (by omega)
  · exact .inl (by omega)
  · refine .inr ⟨by omega, ?_⟩
    rcases h with h | ⟨h2, h⟩ <;> rcases g with g | ⟨g2, g⟩
    · exact .inl (lt_trans h g)
    · exact .inl (g2 ▸ h)
    · exact .inl (h2 ▸ g)
    · exact .inr ⟨h2.trans g2, lt_trans h g⟩
theorem lessF_tri {a b : TFact} (h : lessF a b = false) (g : lessF b a = false) : keyF a = keyF b := by
  have h := Bool.eq_false_iff.1 h
  have g := Bool.eq_false_iff.1 g
  rw [Ne, lessF_cases] at h g
  simp only [not_or, not_and] at h g
  have e1 : a.1 = b.1 := by omega
  have h2 := h.2 e1
  have g2 := g.2 e1.symm
  have e2 : a.2.1 = b.2.1 := Classical.byContradiction fun n => by
    rcases cmpS_ne n with ⟨q, _⟩ | ⟨q, _⟩
    · exact h2.1 q
    · exact g2.1 q
  have e3 : a.2.2.1 = b.2.2.1 := Classical.byContradiction fun n => by
    rcases cmpS_ne n with ⟨q, _⟩ | ⟨q, _⟩
    · exact h2.2 e2 q
    · exact g2.2 e2.symm q
  simp [keyF, e1, e2, e3]
theorem lessF_nkey {a b : TFact} (h : lessF a b = true) : keyF a ≠ keyF b := fun e => by
  rw [lessF_key e rfl, lessF_irr] at h; cases h

/-- A row that rises. -/
def Rs : List TFact → Prop := List.Pairwise fun a b => lessF a b = true

def strip (f : TFact) : TFact := (f.1, f.2.1, f.2.2.1, (⟨#[]⟩ : ByteArray))
theorem strip_key (f : TFact) : keyF (strip f) = keyF f := rfl

/-- What two rows have. -/
def both : List TFact → List TFact → List TFact
  | [], b => b.map strip
  | x :: a, [] => strip x :: both a []
  | x :: a, y :: b => if lessF y x then strip y :: both (x :: a) b else if lessF x y then strip x :: both a (y :: b) else strip x :: both a b
termination_by a b => a.length + b.length

theorem both_mem : ∀ (a b : List TFact) (f : TFact), f ∈ both a b → ∃ z, (z ∈ a ∨ z ∈ b) ∧ keyF z = keyF f
  | [], b, f, h => by
    rw [both, List.mem_map] at h
    obtain ⟨z, hz, rfl⟩ := h
    exact ⟨z, .inr hz, rfl⟩
  | x :: a, [], f, h => by
    rw [both, List.mem_cons] at h
    rcases h with rfl | h
    · exact ⟨x, .inl (by simp), rfl⟩
    · obtain ⟨z, hz, e⟩ := both_mem a [] f h
      exact ⟨z, hz.imp (List.mem_cons_of_mem _) id, e⟩
  | x :: a, y :: b, f, h => by
    rw [both] at h
    split at h
    · rw [List.mem_cons] at h
      rcases h with rfl | h
      · exact ⟨y, .inr (by simp), rfl⟩
      · obtain ⟨z, hz, e⟩ := both_mem (x :: a) b f h
        exact ⟨z, hz.imp id (List.mem_cons_of_mem _), e⟩
    · split at h
      · rw [List.mem_cons] at h
        rcases h with rfl | h
        · exact ⟨x, .inl (by simp), rfl⟩
        · obtain ⟨z, hz, e⟩ := both_mem a (y :: b) f h
          exact ⟨z, hz.imp (List.mem_cons_of_mem _) id, e⟩
      · rw [List.mem_cons] at h
        rcases h with rfl | h
        · exact ⟨x, .inl (by simp), rfl⟩
        · obtain ⟨z, hz, e⟩ := both_mem a b f h
          exact ⟨z, hz.imp (List.mem_cons_of_mem _) (List.mem_cons_of_mem _), e⟩
termination_by a b => a.length + b.length

/-- What a row has for a key. -/
def valueOf : List TFact → TFact → ByteArray × Bool
  | [], _ => (⟨#[]⟩, false)
  | x :: l, f => if sameK x f then (x.2.2.2, true) else valueOf l f

theorem valueOf_none {l : List TFact} {f : TFact} (h : ∀ z ∈ l, keyF z ≠ keyF f) : valueOf l f = (⟨#[]⟩, false) := by
  induction l with
  | nil => rfl
  | cons x l ih =>
    have : sameK x f = false := Bool.eq_false_iff.2 fun e => h x (by simp) (sameK_iff.1 e)
    rw [valueOf, this]
    exact ih fun z hz => h z (by simp [hz])
theorem valueOf_skip {x : TFact} {l : List TFact} {f : TFact} (h : keyF x ≠ keyF f) : valueOf (x :: l) f = valueOf l f := by
  have : sameK x f = false := Bool.eq_false_iff.2 fun e => h (sameK_iff.1 e)
  rw [valueOf, this]; rfl
theorem valueOf_head {x : TFact} {l : List TFact} {f : TFact} (h : keyF x = keyF f) : valueOf (x :: l) f = (x.2.2.2, true) := by
  rw [valueOf, sameK_iff.2 h]; rfl

/-- What became of a fact. -/
def turnOf (a b : List TFact) (f : TFact) : Option TChange :=
  if (valueOf a f).2 ≠ (valueOf b f).2 ∨ (valueOf a f).1 ≠ (valueOf b f).1 then some (f.1, f.2.1, f.2.2.1, (valueOf a f).2, (valueOf b f).2, (valueOf a f).1, (valueOf b f).1) else none

def goneC (x : TFact) : TChange := (x.1, x.2.1, x.2.2.1, true, false, x.2.2.2, ⟨#[]⟩)
def comeC (x : TFact) : TChange := (x.1, x.2.1, x.2.2.1, false, true, ⟨#[]⟩, x.2.2.2)
def turnC (x y : TFact) : TChange := (x.1, x.2.1, x.2.2.1, true, true, x.2.2.2, y.2.2.2)

def diffP : List TFact → List TFact → List TChange
  | [], b => b.map comeC
  | x :: a, [] => goneC x :: diffP a []
  | x :: a, y :: b => if lessF x y then goneC x :: diffP a (y :: b) else if lessF y x then comeC y :: diffP (x :: a) b else if x.2.2.2 ≠ y.2.2.2 then turnC x y :: diffP a b else diffP a b
termination_by a b => a.length + b.length

theorem Rs.head {x : TFact} {l : List TFact} (h : Rs (x :: l)) {z : TFact} (hz : z ∈ l) : lessF x z = true := List.rel_of_pairwise_cons h hz
theorem Rs.tail {x : TFact} {l : List TFact} (h : Rs (x :: l)) : Rs l := List.Pairwise.of_cons h

theorem filterMap_same {α β : Type} {f g : α → Option β} : ∀ {l : List α}, (∀ x ∈ l, f x = g x) → l.filterMap f = l.filterMap g
  | [], _ => rfl
  | x :: l, h => by
    rw [List.filterMap_cons, List.filterMap_cons, h x (by simp), filterMap_same (l := l) fun z hz => h z (by simp [hz])]

theorem turnOf_gone {a b : List TFact} {x : TFact} (h : valueOf a (strip x) = (x.2.2.2, true)) (g : valueOf b (strip x) = (⟨#[]⟩, false)) : turnOf a b (strip x) = some (goneC x) := by
  unfold turnOf; rw [h, g]; simp [goneC, strip]
theorem turnOf_come {a b : List TFact} {x : TFact} (h : valueOf b (strip x) = (x.2.2.2, true)) (g : valueOf a (strip x) = (⟨#[]⟩, false)) : turnOf a b (strip x) = some (comeC x) := by
  unfold turnOf; rw [h, g]; simp [comeC, strip]

theorem diff_eq : ∀ (a b : List TFact), Rs a → Rs b → (both a b).filterMap (turnOf a b) = diffP a b
  | [], b, ha, hb => by
    rw [both, diffP, List.filterMap_map]
    induction b with
    | nil => rfl
    | cons y b ih =>
      have e : ((turnOf [] (y :: b)) ∘ strip) y = some (comeC y) := turnOf_come (valueOf_head rfl) rfl
      rw [List.filterMap_cons, e, List.map_cons]
      dsimp only
      rw [← ih hb.tail]
      congr 1
      refine filterMap_same fun z hz => ?_
      show turnOf [] (y :: b) (strip z) = turnOf [] b (strip z)
      unfold turnOf
      rw [valueOf_skip (f := strip z) (by rw [strip_key]; exact lessF_nkey (hb.head hz))]
  | x :: a, [], ha, hb => by
    rw [both, diffP, List.filterMap_cons, turnOf_gone (valueOf_head rfl) rfl]
    dsimp only
    rw [← diff_eq a [] ha.tail hb]
    congr 1
    refine filterMap_same fun f hf => ?_
    obtain ⟨z, hz, e⟩ := both_mem _ _ _ hf
    have hz : z ∈ a := by simpa using hz
    unfold turnOf
    rw [valueOf_skip (by rw [← e]; exact lessF_nkey (ha.head hz))]
  | x :: a, y :: b, ha, hb => by
    rw [both, diffP]
    by_cases h : lessF y x = true
    · have h' := lessF_asymm h
      rw [if_pos h, if_neg (by rw [h']; simp), if_pos h]
      have hx : ∀ z, z ∈ x :: a → lessF y z = true := fun z hz => by
        rcases List.mem_cons.1 hz with rfl | hz
        · exact h
        · exact lessF_trans h (ha.head hz)
      rw [List.filterMap_cons, turnOf_come (valueOf_head rfl) (valueOf_none fun z hz => (lessF_nkey (hx z hz)).symm)]
      dsimp only
      rw [← diff_eq (x :: a) b ha hb.tail]
      congr 1
      refine filterMap_same fun f hf => ?_
      obtain ⟨z, hz, e⟩ := both_mem _ _ _ hf
      unfold turnOf
      rw [valueOf_skip (x := y) (by rw [← e]; exact lessF_nkey (hz.elim (hx z) hb.head))]
    · by_cases g : lessF x y = true
      · rw [if_neg h, if_pos g, if_pos g]
        have hy : ∀ z, z ∈ y :: b → lessF x z = true := fun z hz => by
          rcases List.mem_cons.1 hz with rfl | hz
          · exact g
          · exact lessF_trans g (hb.head hz)
        rw [List.filterMap_cons, turnOf_gone (valueOf_head rfl) (valueOf_none fun z hz => (lessF_nkey (hy z hz)).symm)]
        dsimp only
        rw [← diff_eq a (y :: b) ha.tail hb]
        congr 1
        refine filterMap_same fun f hf => ?_
        obtain ⟨z, hz, e⟩ := both_mem _ _ _ hf
        unfold turnOf
        rw [valueOf_skip (x := x) (by rw [← e]; exact lessF_nkey (hz.elim ha.head (hy z)))]
      · have ek := lessF_tri (Bool.eq_false_iff.2 g) (Bool.eq_false_iff.2 h)
        rw [if_neg h, if_neg g, if_neg g, if_neg h]
        have rest : (both a b).filterMap (turnOf (x :: a) (y :: b)) = diffP a b := by
          rw [← diff_eq a b ha.tail hb.tail]
          refine filterMap_same fun f hf => ?_
          obtain ⟨z, hz, e⟩ := both_mem _ _ _ hf
          have hxz : lessF x z = true := hz.elim ha.head fun hz => by rw [lessF_key ek rfl]; exact hb.head hz
          unfold turnOf
          rw [valueOf_skip (x := x) (by rw [← e]; exact lessF_nkey hxz), valueOf_skip (x := y) (by rw [← e, ← ek]; exact lessF_nkey hxz)]
        rw [List.filterMap_cons, rest]
        have e1 : valueOf (x :: a) (strip x) = (x.2.2.2, true) := valueOf_head rfl
        have e2 : valueOf (y :: b) (strip x) = (y.2.2.2, true) := valueOf_head ek.symm
        by_cases hv : x.2.2.2 = y.2.2.2
        · have : turnOf (x :: a) (y :: b) (strip x) = none := by unfold turnOf; rw [e1, e2]; simp [hv]
          rw [this, if_neg (by simpa using hv)]
        · have : turnOf (x :: a) (y :: b) (strip x) = some (turnC x y) := by unfold turnOf; rw [e1, e2]; simp [hv, turnC, strip]
          rw [this, if_pos hv]
termination_by a b => a.length + b.length

end Go.Proofs.Ytdblhdpnllckhaa.AE
end
section
set_option linter.unusedVariables false
set_option linter.unusedSimpArgs false
set_option maxRecDepth 20000
namespace Go.Proofs.Ytdblhdpnllckhaa.AE
open Go

abbrev gA : TGraph := ([((⟨#[97]⟩ : ByteArray), [], [])], [])
abbrev fA : TFact := (1, (⟨#[97]⟩ : ByteArray), (⟨#[]⟩ : ByteArray), (⟨#[]⟩ : ByteArray))

theorem w64_one : w64 (0 + 1) = 1 := by rw [w64_id (by omega) (by omega)]; rfl

theorem awake_check : V.graph_Check gA = some 0 := by
  have hn : nodeN ((⟨#[97]⟩ : ByteArray), [], []) = 0 := by decide +kernel
  refine V.graph_Check.of gA ?_
  unfold F.graph_Check.B
  show V.graph_Check.l11010 gA 0 = some 0
  refine V.graph_Check.l11010.of _ _ ?_
  unfold F.graph_Check.l11010.B
  show guardK true ((V.elem_CheckNode ((⟨#[97]⟩ : ByteArray), [], [])).bind fun t0 => (bif (t0 != 0) then (some t0) else (bif (decide ((0 : Int) > 0)) then _ else V.graph_Check.l11010 gA (w64 (0 + 1))))) = some 0
  rw [guard_tt, CheckNode_ok _ (by refine ⟨by decide +kernel, ⟨by simp, by simp⟩, ⟨by simp, by simp⟩⟩), hn, Option.bind_some, w64_one]
  show V.graph_Check.l11010 gA 1 = some 0
  refine V.graph_Check.l11010.of _ _ ?_
  unfold F.graph_Check.l11010.B
  show V.graph_Check.l111010 gA 0 = some 0
  refine V.graph_Check.l111010.of _ _ ?_
  unfold F.graph_Check.l111010.B
  rfl

theorem awake_of : V.facts_of (⟨#[97]⟩ : ByteArray) 2 3 [] [] = some [] := by
  refine V.facts_of.of _ _ _ _ _ ?_
  unfold F.facts_of.B
  refine V.facts_of.l11010.of _ _ _ _ _ _ _ ?_
  unfold F.facts_of.l11010.B
  show V.facts_of.l111010 (⟨#[97]⟩ : ByteArray) 2 3 [] [] 0 [] = some []
  refine V.facts_of.l111010.of _ _ _ _ _ _ _ ?_
  unfold F.facts_of.l111010.B
  rfl

theorem awake_sort : V.slices_SortStableFunc_apiFactapiFact_f26 [fA] = some [fA] := by
  have hi : V.slices_insertionSortCmpFunc_apiFact_f26 [fA] 0 1 = some [fA] := by
    refine V.slices_insertionSortCmpFunc_apiFact_f26.of _ _ _ ?_
    unfold F.slices_insertionSortCmpFunc_apiFact_f26.B
    rw [w64_one]
    refine V.slices_insertionSortCmpFunc_apiFact_f26.l10.of _ _ _ _ _ ?_
    unfold F.slices_insertionSortCmpFunc_apiFact_f26.l10.B
    rfl
  have hs : V.slices_stableCmpFunc_apiFact_f26 [fA] 1 = some [fA] := by
    refine V.slices_stableCmpFunc_apiFact_f26.of _ _ ?_
    unfold F.slices_stableCmpFunc_apiFact_f26.B
    refine V.slices_stableCmpFunc_apiFact_f26.l1100.of _ _ _ _ _ ?_
    unfold F.slices_stableCmpFunc_apiFact_f26.l1100.B
    rw [if_no (by omega), hi, Option.bind_some]
    refine V.slices_stableCmpFunc_apiFact_f26.l11110.of _ _ _ _ ?_
    unfold F.slices_stableCmpFunc_apiFact_f26.l11110.B
    rfl
  refine V.slices_SortStableFunc_apiFactapiFact_f26.of _ ?_
  unfold F.slices_SortStableFunc_apiFactapiFact_f26.B
  show (V.slices_stableCmpFunc_apiFact_f26 [fA] 1).bind _ = _
  rw [hs, Option.bind_some]

theorem awake_Of : V.facts_Of gA = some [fA] := by
  refine V.facts_Of.of gA ?_
  unfold F.facts_Of.B
  show (V.graph_Check gA).bind _ = _
  rw [awake_check, Option.bind_some]
  show V.facts_Of.l111010 gA 0 [] = some [fA]
  refine V.facts_Of.l111010.of _ _ _ ?_
  unfold F.facts_Of.l111010.B
  show guardK true (guardK true ((V.facts_of (⟨#[97]⟩ : ByteArray) 2 3 [] []).bind fun t1 => guardK (decide (1 + t1.length ≤ nmax)) (V.facts_Of.l111010 gA (w64 (0 + 1)) ([fA] ++ t1)))) = some [fA]
  rw [guard_tt, guard_tt, awake_of, Option.bind_some, guard_dec (by decide), w64_one]
  show V.facts_Of.l111010 gA 1 [fA] = some [fA]
  refine V.facts_Of.l111010.of _ _ _ ?_
  unfold F.facts_Of.l111010.B
  show V.facts_Of.l1111010 gA 0 [fA] = some [fA]
  refine V.facts_Of.l1111010.of _ _ _ ?_
  unfold F.facts_Of.l1111010.B
  show (V.slices_SortStableFunc_apiFactapiFact_f26 [fA]).bind (fun t4 => some t4) = some [fA]
  rw [awake_sort, Option.bind_some]

theorem awake27 : V.pleachlaw27_awake = some true := by
  refine V.pleachlaw27_awake.of ?_
  unfold F.pleachlaw27_awake.B
  show (V.facts_Of gA).bind _ = _
  rw [awake_Of, Option.bind_some]
  show guardK true (some (((1 : Int) == 1) && (strEq (⟨#[97]⟩ : ByteArray) (⟨#[97]⟩ : ByteArray) && (strEq (⟨#[]⟩ : ByteArray) (⟨#[]⟩ : ByteArray) && (strEq (⟨#[]⟩ : ByteArray) (⟨#[]⟩ : ByteArray) && true))))) = _
  rw [guard_tt, strEq_self, strEq_self]; rfl

end Go.Proofs.Ytdblhdpnllckhaa.AE
end
section
set_option linter.unusedVariables false
set_option linter.unusedSimpArgs false
set_option maxRecDepth 20000
namespace Go.Proofs.Ytdblhdpnllckhaa.AE
open Go

theorem tail_take (y : TFact) (b : List TFact) : ((y :: b).take (((y :: b).length : Int).toNat)).drop 1 = b := by
  show ((y :: b).take (y :: b).length).drop 1 = b
  rw [List.take_length]; rfl
theorem change_ok (f : TFact) : V.facts_change f = some (f.1, f.2.1, f.2.2.1, false, false, (⟨#[]⟩ : ByteArray), (⟨#[]⟩ : ByteArray)) := V.facts_change.of f rfl
theorem nmax_big : 1000000 ≤ nmax := by decide
theorem pos_cons (y : TFact) (b : List TFact) : 0 < ((y :: b).length : Int) := by simp only [List.length_cons]; omega
theorem one_cons (y : TFact) (b : List TFact) : (decide (1 ≤ ((y :: b).length : Int)) && decide (((y :: b).length : Int) ≤ ((y :: b).length : Int))) = true := by
  have := pos_cons y b
  simp only [Bool.and_eq_true, decide_eq_true_eq]; omega
theorem ne_cons (y : TFact) (b : List TFact) : (((y :: b).length : Int) == 0) = false := by
  have := pos_cons y b
  rw [beq_eq_false_iff_ne]; omega

theorem cmpF_gt {a b : TFact} (h : lessF a b = false) : cmpF a b > 0 ↔ lessF b a = true := by
  unfold cmpF
  rw [h]
  cases lessF b a <;> simp

theorem Diff_l (A B : List TFact) : ∀ (a b : List TFact) (out : List TChange), out.length + a.length + b.length ≤ 100000 → V.facts_Diff.l1100 A B a b out = some (out ++ diffP a b)
  | [], [], out, h => by
    refine V.facts_Diff.l1100.of _ _ _ _ _ ?_
    unfold F.facts_Diff.l1100.B
    rw [if_no (by show ¬ w64 0 > 0; rw [w64_id (by omega) (by omega)]; omega)]
    rw [diffP]; simp
  | [], y :: b, out, h => by
    simp only [List.length_nil, List.length_cons] at h
    have ih := Diff_l A B [] b (out ++ [comeC y]) (by simp only [List.length_append, List.length_cons, List.length_nil]; omega)
    have hn := nmax_big
    refine V.facts_Diff.l1100.of _ _ _ _ _ ?_
    unfold F.facts_Diff.l1100.B
    rw [if_yes (by simp only [List.length_nil, List.length_cons]; rw [w64_id (by omega) (by omega)]; omega), show ((([] : List TFact).length : Int) == 0) = true from rfl, cond_true]
    rw [guard_dec (pos_cons y b), change_ok, Option.bind_some, guard_dec (pos_cons y b), guard_of (one_cons y b), guard_dec (by simp only [List.length_cons, List.length_nil]; omega), tail_take]
    refine (show _ = _ from ih).trans ?_
    have e : ∀ l : List TFact, diffP [] l = l.map comeC := fun l => by rw [diffP]
    rw [e, e, List.map_cons, List.append_assoc]; rfl
  | x :: a, [], out, h => by
    simp only [List.length_nil, List.length_cons] at h
    have ih := Diff_l A B a [] (out ++ [goneC x]) (by simp only [List.length_append, List.length_cons, List.length_nil]; omega)
    have hn := nmax_big
    refine V.facts_Diff.l1100.of _ _ _ _ _ ?_
    unfold F.facts_Diff.l1100.B
    rw [if_yes (by simp only [List.length_nil, List.length_cons]; rw [w64_id (by omega) (by omega)]; omega), ne_cons, cond_false, show ((([] : List TFact).length : Int) == 0) = true from rfl, cond_true]
    rw [guard_dec (pos_cons x a), change_ok, Option.bind_some, guard_dec (pos_cons x a), guard_of (one_cons x a), guard_dec (by simp only [List.length_cons, List.length_nil]; omega), tail_take]
    refine (show _ = _ from ih).trans ?_
    rw [diffP, List.append_assoc]; rfl
  | x :: a, y :: b, out, h => by
    simp only [List.length_cons] at h
    have hn := nmax_big
    refine V.facts_Diff.l1100.of _ _ _ _ _ ?_
    unfold F.facts_Diff.l1100.B
    rw [if_yes (by simp only [List.length_cons]; rw [w64_id (by omega) (by omega)]; omega), ne_cons, cond_false, ne_cons, cond_false, guard_dec (pos_cons x a), guard_dec (pos_cons y b)]
    rw [show V.facts_Compare ((rd sFact (x :: a) 0).1, ((rd sFact (x :: a) 0).2).1, (((rd sFact (x :: a) 0).2).2).1, (((rd sFact (x :: a) 0).2).2).2) ((rd sFact (y :: b) 0).1, ((rd sFact (y :: b) 0).2).1, (((rd sFact (y :: b) 0).2).2).1, (((rd sFact (y :: b) 0).2).2).2) = some (cmpF x y) from Compare_ok x y, Option.bind_some]
    by_cases hl : lessF x y = true
    · have ih := Diff_l A B a (y :: b) (out ++ [goneC x]) (by simp only [List.length_append, List.length_cons, List.length_nil]; omega)
      rw [if_yes (cmpF_lt.2 hl), guard_dec (pos_cons x a), change_ok, Option.bind_some, guard_dec (pos_cons x a), guard_of (one_cons x a), guard_dec (by simp only [List.length_cons, List.length_nil]; omega), tail_take]
      refine (show _ = _ from ih).trans ?_
      rw [diffP, if_pos hl, List.append_assoc]; rfl
    · have hl' := Bool.eq_false_iff.2 hl
      rw [if_no (mt cmpF_lt.1 hl)]
      by_cases hg : lessF y x = true
      · have ih := Diff_l A B (x :: a) b (out ++ [comeC y]) (by simp only [List.length_append, List.length_cons, List.length_nil]; omega)
        rw [if_yes ((cmpF_gt hl').2 hg), guard_dec (pos_cons y b), change_ok, Option.bind_some, guard_dec (pos_cons y b), guard_of (one_cons y b), guard_dec (by simp only [List.length_cons, List.length_nil]; omega), tail_take]
        refine (show _ = _ from ih).trans ?_
        rw [diffP, if_neg hl, if_pos hg, List.append_assoc]; rfl
      · rw [if_no (mt (cmpF_gt hl').1 hg), guard_dec (pos_cons x a), guard_dec (pos_cons y b)]
        have e0 : strEq ((((rd sFact (x :: a) 0).2).2).2) ((((rd sFact (y :: b) 0).2).2).2) = strEq x.2.2.2 y.2.2.2 := rfl
        rw [e0]
        by_cases hv : x.2.2.2 = y.2.2.2
        · have ih := Diff_l A B a b out (by omega)
          rw [show (!strEq x.2.2.2 y.2.2.2) = false by rw [hv, strEq_self]; rfl, cond_false]
          rw [guard_of (one_cons x a), guard_of (one_cons y b), tail_take, tail_take]
          rw [diffP, if_neg hl, if_neg hg, if_neg (by simpa using hv)]
          exact ih
        · have ih := Diff_l A B a b (out ++ [turnC x y]) (by simp only [List.length_append, List.length_cons, List.length_nil]; omega)
          rw [show (!strEq x.2.2.2 y.2.2.2) = true by rw [strEq_no hv]; rfl, cond_true]
          rw [guard_dec (pos_cons x a), change_ok, Option.bind_some, guard_dec (pos_cons x a), guard_dec (pos_cons y b), guard_dec (by simp only [List.length_cons, List.length_nil]; omega), guard_of (one_cons x a), guard_of (one_cons y b), tail_take, tail_take]
          refine (show _ = _ from ih).trans ?_
          rw [diffP, if_neg hl, if_neg hg, if_pos hv, List.append_assoc]; rfl
termination_by a b => a.length + b.length

theorem Diff_ok (a b : List TFact) (h : a.length + b.length ≤ 100000) : V.facts_Diff a b = some (diffP a b) := by
  refine V.facts_Diff.of a b ?_
  unfold F.facts_Diff.B
  exact Diff_l a b a b [] (by simpa using h)

theorem Value_l (l : List TFact) (f : TFact) (hl : l.length ≤ 140737488351232) : ∀ d i : Nat, i + d = l.length → V.pleachref27_Value.l1010 l f (i : Int) = some (valueOf (l.drop i) f)
  | 0, i, h => by
    refine V.pleachref27_Value.l1010.of _ _ _ ?_
    unfold F.pleachref27_Value.l1010.B
    rw [if_out (by omega), List.drop_eq_nil_of_le (by omega)]; rfl
  | d + 1, i, h => by
    have hi : i < l.length := by omega
    have ih := Value_l l f hl d (i + 1) (by omega)
    refine V.pleachref27_Value.l1010.of _ _ _ ?_
    unfold F.pleachref27_Value.l1010.B
    rw [if_in hi, guard_in hi, w64_up hi hl, ih, nat_cast, drop_rd (e := sFact) hi, valueOf]
    unfold sameK
    cases ((rd sFact l i).1 == f.1) <;> cases (strEq (rd sFact l i).2.1 f.2.1) <;> cases (strEq (rd sFact l i).2.2.1 f.2.2.1) <;> rfl

theorem Value_ok (l : List TFact) (f : TFact) (hl : l.length ≤ 140737488351232) : V.pleachref27_Value l f = some (valueOf l f) := by
  refine V.pleachref27_Value.of l f ?_
  unfold F.pleachref27_Value.B
  exact Value_l l f hl l.length 0 (by omega)

end Go.Proofs.Ytdblhdpnllckhaa.AE
end
section
set_option linter.unusedVariables false
set_option linter.unusedSimpArgs false
set_option maxRecDepth 20000
namespace Go.Proofs.Ytdblhdpnllckhaa.AE
open Go

section
variable {a b : List TFact}

theorem Both_next {i k : Nat} {out : List TFact} (hi : i < a.length) (ha : a.length ≤ 100000) {r : List TFact} (h : V.pleachref27_Both.l11100 a b ((i + 1 : Nat) : Int) (k : Int) out = some r) : V.pleachref27_Both.j111000100101111 a b (i : Int) (k : Int) out = some r := by
  refine V.pleachref27_Both.j111000100101111.of _ _ _ _ _ ?_
  unfold F.pleachref27_Both.j111000100101111.B
  rw [w64_up hi (by omega)]; exact h

theorem Both_a {i k : Nat} {out : List TFact} (hi : i < a.length) (ha : a.length ≤ 100000) (hb : b.length ≤ 100000) (ho : out.length ≤ 200000) {r : List TFact}
    (h0 : b.length ≤ k → V.pleachref27_Both.l11100 a b ((i + 1 : Nat) : Int) (k : Int) (out ++ [strip (rd sFact a i)]) = some r)
    (h1 : k < b.length → lessF (rd sFact a i) (rd sFact b k) = true → V.pleachref27_Both.l11100 a b ((i + 1 : Nat) : Int) (k : Int) (out ++ [strip (rd sFact a i)]) = some r)
    (h2 : k < b.length → lessF (rd sFact a i) (rd sFact b k) = false → V.pleachref27_Both.l11100 a b ((i + 1 : Nat) : Int) ((k + 1 : Nat) : Int) (out ++ [strip (rd sFact a i)]) = some r) :
    V.pleachref27_Both.j1110001001 a b (i : Int) (k : Int) true out = some r := by
  have hn := nmax_big
  refine V.pleachref27_Both.j1110001001.of _ _ _ _ _ _ ?_
  unfold F.pleachref27_Both.j1110001001.B
  rw [cond_true, guard_in hi, guard_dec (by simp only [List.length_cons, List.length_nil]; omega), nat_cast]
  by_cases hk : k < b.length
  · rw [if_in hk, guard_in hi, guard_in hk, nat_cast, Less_ok, Option.bind_some]
    show V.pleachref27_Both.j1110001001011101 a b (i : Int) (k : Int) (!lessF (rd sFact a i) (rd sFact b k)) (out ++ [strip (rd sFact a i)]) = some r
    refine V.pleachref27_Both.j1110001001011101.of _ _ _ _ _ _ ?_
    unfold F.pleachref27_Both.j1110001001011101.B
    by_cases hl : lessF (rd sFact a i) (rd sFact b k) = true
    · rw [hl]; exact Both_next hi ha (h1 hk hl)
    · rw [Bool.eq_false_iff.2 hl, w64_up hk (by omega)]
      exact Both_next (k := k + 1) hi ha (h2 hk (Bool.eq_false_iff.2 hl))
  · rw [if_out (by omega)]
    show V.pleachref27_Both.j1110001001011101 a b (i : Int) (k : Int) false (out ++ [strip (rd sFact a i)]) = some r
    refine V.pleachref27_Both.j1110001001011101.of _ _ _ _ _ _ ?_
    unfold F.pleachref27_Both.j1110001001011101.B
    exact Both_next hi ha (h0 (by omega))

theorem Both_b {i k : Nat} {out : List TFact} (hk : k < b.length) (hb : b.length ≤ 100000) (ho : out.length ≤ 200000) {r : List TFact}
    (h : V.pleachref27_Both.l11100 a b (i : Int) ((k + 1 : Nat) : Int) (out ++ [strip (rd sFact b k)]) = some r) : V.pleachref27_Both.j1110001001 a b (i : Int) (k : Int) false out = some r := by
  have hn := nmax_big
  refine V.pleachref27_Both.j1110001001.of _ _ _ _ _ _ ?_
  unfold F.pleachref27_Both.j1110001001.B
  rw [cond_false]
  refine V.pleachref27_Both.j111000101.of _ _ _ _ _ ?_
  unfold F.pleachref27_Both.j111000101.B
  rw [guard_in hk, guard_dec (by simp only [List.length_cons, List.length_nil]; omega), nat_cast, w64_up hk (by omega)]
  exact h

theorem Both_l (ha : a.length ≤ 100000) (hb : b.length ≤ 100000) : ∀ (n i k : Nat) (out : List TFact), (a.length - i) + (b.length - k) ≤ n → i ≤ a.length → k ≤ b.length → out.length + n ≤ 200000 → V.pleachref27_Both.l11100 a b (i : Int) (k : Int) out = some (out ++ both (a.drop i) (b.drop k)) := by
  intro n
  induction n with
  | zero =>
    intro i k out h hi hk ho
    refine V.pleachref27_Both.l11100.of _ _ _ _ _ ?_
    unfold F.pleachref27_Both.l11100.B
    rw [if_out (by omega), decide_eq_false (by omega)]
    refine V.pleachref27_Both.j11100001.of _ _ _ _ _ _ ?_
    unfold F.pleachref27_Both.j11100001.B
    rw [List.drop_eq_nil_of_le (by omega), List.drop_eq_nil_of_le (by omega), both]
    simp
  | succ n ih =>
    intro i k out h hi hk ho
    by_cases hz : (a.length - i) + (b.length - k) = 0
    · exact ih i k out (by omega) hi hk (by omega)
    have enter : V.pleachref27_Both.j1110001 a b (i : Int) (k : Int) out = some (out ++ both (a.drop i) (b.drop k)) → V.pleachref27_Both.l11100 a b (i : Int) (k : Int) out = some (out ++ both (a.drop i) (b.drop k)) := fun g => by
      have g2 : V.pleachref27_Both.j11100001 a b (i : Int) (k : Int) true out = some (out ++ both (a.drop i) (b.drop k)) := by
        refine V.pleachref27_Both.j11100001.of _ _ _ _ _ _ ?_
        unfold F.pleachref27_Both.j11100001.B
        exact g
      refine V.pleachref27_Both.l11100.of _ _ _ _ _ ?_
      unfold F.pleachref27_Both.l11100.B
      by_cases hi' : i < a.length
      · rw [if_in hi']; exact g2
      · rw [if_out (by omega), decide_eq_true (by omega)]; exact g2
    refine enter ?_
    refine V.pleachref27_Both.j1110001.of _ _ _ _ _ ?_
    unfold F.pleachref27_Both.j1110001.B
    by_cases hk' : k < b.length
    · rw [show ((k : Int) == (b.length : Int)) = false by rw [beq_eq_false_iff_ne]; omega, cond_false]
      by_cases hi' : i < a.length
      · rw [if_in hi', guard_in hk', guard_in hi', nat_cast, nat_cast, Less_ok, Option.bind_some, drop_rd (e := sFact) hi', drop_rd (e := sFact) hk']
        show V.pleachref27_Both.j1110001001 a b (i : Int) (k : Int) (!lessF (rd sFact b k) (rd sFact a i)) out = _
        rw [both]
        by_cases hg : lessF (rd sFact b k) (rd sFact a i) = true
        · rw [hg, if_pos rfl]
          refine Both_b hk' hb (by omega) ?_
          rw [ih i (k + 1) _ (by omega) hi (by omega) (by simp only [List.length_append, List.length_cons, List.length_nil]; omega), drop_rd (e := sFact) hi', List.append_assoc]; rfl
        · rw [Bool.eq_false_iff.2 hg]
          refine Both_a hi' ha hb (by omega) (fun h => by omega) (fun _ hl => ?_) (fun _ hl => ?_)
          · rw [hl, ih (i + 1) k _ (by omega) (by omega) hk (by simp only [List.length_append, List.length_cons, List.length_nil]; omega), drop_rd (e := sFact) hk', List.append_assoc]; rfl
          · rw [hl, ih (i + 1) (k + 1) _ (by omega) (by omega) (by omega) (by simp only [List.length_append, List.length_cons, List.length_nil]; omega), List.append_assoc]; rfl
      · rw [if_out (by omega), List.drop_eq_nil_of_le (by omega : a.length ≤ i), drop_rd (e := sFact) hk', both, List.map_cons]
        refine Both_b hk' hb (by omega) ?_
        rw [ih i (k + 1) _ (by omega) hi (by omega) (by simp only [List.length_append, List.length_cons, List.length_nil]; omega), List.drop_eq_nil_of_le (by omega : a.length ≤ i), both, List.append_assoc]; rfl
    · have hi' : i < a.length := by omega
      rw [show ((k : Int) == (b.length : Int)) = true by rw [beq_iff_eq]; omega, cond_true, List.drop_eq_nil_of_le (by omega : b.length ≤ k), drop_rd (e := sFact) hi', both]
      refine Both_a hi' ha hb (by omega) (fun _ => ?_) (fun h => by omega) (fun h => by omega)
      rw [ih (i + 1) k _ (by omega) (by omega) hk (by simp only [List.length_append, List.length_cons, List.length_nil]; omega), List.drop_eq_nil_of_le (by omega : b.length ≤ k), List.append_assoc]; rfl

theorem Both_ok (ha : a.length ≤ 100000) (hb : b.length ≤ 100000) : V.pleachref27_Both a b = some (both a b) := by
  refine V.pleachref27_Both.of a b ?_
  unfold F.pleachref27_Both.B
  have := Both_l ha hb _ 0 0 [] (Nat.le_refl _) (by omega) (by omega) (by simp; omega)
  simpa using this

theorem both_len : ∀ a b : List TFact, (both a b).length ≤ a.length + b.length
  | [], b => by rw [both]; simp
  | x :: a, [] => by have := both_len a []; rw [both]; simp only [List.length_cons, List.length_nil] at *; omega
  | x :: a, y :: b => by
    rw [both]
    split
    · have := both_len (x :: a) b; simp only [List.length_cons] at *; omega
    · split
      · have := both_len a (y :: b); simp only [List.length_cons] at *; omega
      · have := both_len a b; simp only [List.length_cons] at *; omega
termination_by a b => a.length + b.length

theorem refDiff_l (ha : a.length ≤ 100000) (hb : b.length ≤ 100000) (l : List TFact) (hl : l.length ≤ 200000) : ∀ (d i : Nat) (out : List TChange), i + d = l.length → out.length ≤ i → V.pleachref27_Diff.l11010 a b (l.length : Int) (i : Int) out l = some (out ++ (l.drop i).filterMap (turnOf a b))
  | 0, i, out, h, ho => by
    refine V.pleachref27_Diff.l11010.of _ _ _ _ _ _ ?_
    unfold F.pleachref27_Diff.l11010.B
    rw [if_out (by omega), List.drop_eq_nil_of_le (by omega)]; simp
  | d + 1, i, out, h, ho => by
    have hn := nmax_big
    have hi : i < l.length := by omega
    refine V.pleachref27_Diff.l11010.of _ _ _ _ _ _ ?_
    unfold F.pleachref27_Diff.l11010.B
    have eta : ((rd sFact l i).1, (rd sFact l i).2.1, (rd sFact l i).2.2.1, (rd sFact l i).2.2.2) = rd sFact l i := rfl
    rw [if_in hi, guard_in hi, nat_cast, eta, Value_ok _ _ (by omega), Option.bind_some, Value_ok _ _ (by omega), Option.bind_some, w64_up hi (by omega), drop_rd (e := sFact) hi]
    have yes : ∀ p : (valueOf a (rd sFact l i)).2 ≠ (valueOf b (rd sFact l i)).2 ∨ (valueOf a (rd sFact l i)).1 ≠ (valueOf b (rd sFact l i)).1, V.pleachref27_Diff.l11010 a b (l.length : Int) ((i + 1 : Nat) : Int) (out ++ [((rd sFact l i).1, (rd sFact l i).2.1, (rd sFact l i).2.2.1, (valueOf a (rd sFact l i)).2, (valueOf b (rd sFact l i)).2, (valueOf a (rd sFact l i)).1, (valueOf b (rd sFact l i)).1)]) l = some (out ++ (rd sFact l i :: l.drop (i + 1)).filterMap (turnOf a b)) := fun p => by
      have e : turnOf a b (rd sFact l i) = some ((rd sFact l i).1, (rd sFact l i).2.1, (rd sFact l i).2.2.1, (valueOf a (rd sFact l i)).2, (valueOf b (rd sFact l i)).2, (valueOf a (rd sFact l i)).1, (valueOf b (rd sFact l i)).1) := by unfold turnOf; rw [if_pos p]
      rw [refDiff_l ha hb l hl d (i + 1) _ (by omega) (by simp only [List.length_append, List.length_cons, List.length_nil]; omega), List.filterMap_cons_some e, List.append_assoc]; rfl
    by_cases h1 : (valueOf a (rd sFact l i)).2 = (valueOf b (rd sFact l i)).2
    · rw [show (!((valueOf a (rd sFact l i)).2 == (valueOf b (rd sFact l i)).2)) = false by rw [h1]; simp, cond_false]
      by_cases h2 : (valueOf a (rd sFact l i)).1 = (valueOf b (rd sFact l i)).1
      · rw [show (!strEq (valueOf a (rd sFact l i)).1 (valueOf b (rd sFact l i)).1) = false by rw [h2, strEq_self]; rfl, cond_false, refDiff_l ha hb l hl d (i + 1) out (by omega) (by omega)]
        have : turnOf a b (rd sFact l i) = none := by unfold turnOf; rw [if_neg (fun h => h.elim (fun q => q h1) (fun q => q h2))]
        rw [List.filterMap_cons_none this]
      · rw [show (!strEq (valueOf a (rd sFact l i)).1 (valueOf b (rd sFact l i)).1) = true by rw [strEq_no h2]; rfl, cond_true, guard_dec (by simp only [List.length_cons, List.length_nil]; omega)]
        exact yes (.inr h2)
    · rw [show (!((valueOf a (rd sFact l i)).2 == (valueOf b (rd sFact l i)).2)) = true by rw [Bool.not_eq_true', beq_eq_false_iff_ne]; exact h1, cond_true, guard_dec (by simp only [List.length_cons, List.length_nil]; omega)]
      exact yes (.inl h1)

theorem refDiff_ok (ha : a.length ≤ 50000) (hb : b.length ≤ 50000) (ra : Rs a) (rb : Rs b) : V.pleachref27_Diff a b = some (diffP a b) := by
  have hl := both_len a b
  refine V.pleachref27_Diff.of a b ?_
  unfold F.pleachref27_Diff.B
  rw [Both_ok (by omega) (by omega), Option.bind_some]
  have := refDiff_l (a := a) (b := b) (by omega) (by omega) (both a b) (by omega) (both a b).length 0 [] (by omega) (by simp)
  rw [← diff_eq a b ra rb]
  simpa using this

end
end Go.Proofs.Ytdblhdpnllckhaa.AE
end
section
set_option linter.unusedVariables false
set_option linter.unusedSimpArgs false
set_option maxRecDepth 20000
namespace Go.Proofs.Ytdblhdpnllckhaa.AE
open Go

theorem Same27_l (l : List TFact) (hl : l.length ≤ 140737488351232) : ∀ d i : Nat, i + d = l.length → V.pleachref27_Same.l11010 l l (i : Int) = some true
  | 0, i, h => by
    refine V.pleachref27_Same.l11010.of _ _ _ ?_
    unfold F.pleachref27_Same.l11010.B
    rw [if_out (by omega)]
  | d + 1, i, h => by
    have hi : i < l.length := by omega
    refine V.pleachref27_Same.l11010.of _ _ _ ?_
    unfold F.pleachref27_Same.l11010.B
    rw [if_in hi, guard_in hi, guard_in hi, w64_up hi hl, Same27_l l hl d (i + 1) (by omega), nat_cast, strEq_self, strEq_self, strEq_self, beq_self_eq_true]
    rfl
theorem Same27_self (l : List TFact) (hl : l.length ≤ 140737488351232) : V.pleachref27_Same l l = some true := by
  refine V.pleachref27_Same.of l l ?_
  unfold F.pleachref27_Same.B
  rw [show ((l.length : Int) != (l.length : Int)) = false by simp, cond_false]
  exact Same27_l l hl l.length 0 (by omega)

theorem SameChanges_l (l : List TChange) (hl : l.length ≤ 140737488351232) : ∀ d i : Nat, i + d = l.length → V.pleachref27_SameChanges.l11010 l l (i : Int) = some true
  | 0, i, h => by
    refine V.pleachref27_SameChanges.l11010.of _ _ _ ?_
    unfold F.pleachref27_SameChanges.l11010.B
    rw [if_out (by omega)]
  | d + 1, i, h => by
    have hi : i < l.length := by omega
    refine V.pleachref27_SameChanges.l11010.of _ _ _ ?_
    unfold F.pleachref27_SameChanges.l11010.B
    rw [if_in hi, guard_in hi, guard_in hi, w64_up hi hl, SameChanges_l l hl d (i + 1) (by omega), nat_cast, strEq_self, strEq_self, strEq_self, strEq_self, beq_self_eq_true, beq_self_eq_true, beq_self_eq_true]
    rfl
theorem SameChanges_self (l : List TChange) (hl : l.length ≤ 140737488351232) : V.pleachref27_SameChanges l l = some true := by
  refine V.pleachref27_SameChanges.of l l ?_
  unfold F.pleachref27_SameChanges.B
  rw [show ((l.length : Int) != (l.length : Int)) = false by simp, cond_false]
  exact SameChanges_l l hl l.length 0 (by omega)

/-! ### Facts behind changes -/

/-- What a change speaks of. -/
def factC (c : TChange) : TFact := (c.1, c.2.1, c.2.2.1, c.2.2.2.2.2.2)
def bareC (c : TChange) : TFact := (c.1, c.2.1, c.2.2.1, (⟨#[]⟩ : ByteArray))
def isC (c : TChange) : Bool := c.2.2.2.2.1

/-- By merging. -/
def applyP : List TFact → List TChange → List TFact
  | l, [] => l
  | [], c :: cs => if isC c then factC c :: applyP [] cs else applyP [] cs
  | x :: l, c :: cs => if lessF x (factC c) then x :: applyP l (c :: cs) else if lessF (factC c) x then (if isC c then factC c :: applyP (x :: l) cs else applyP (x :: l) cs) else (if isC c then factC c :: applyP l cs else applyP l cs)
termination_by l cs => l.length + cs.length

/-- What the changes make of what a row has for a key: the last one counts. -/
def lastC : List TChange → TFact → ByteArray × Bool → ByteArray × Bool
  | [], _, v => v
  | c :: cs, f, v => lastC cs f (if sameK (factC c) f then (c.2.2.2.2.2.2, isC c) else v)

def stayOf (l : List TFact) (cs : List TChange) (f : TFact) : Option TFact :=
  if (lastC cs f (valueOf l f)).2 then some (f.1, f.2.1, f.2.2.1, (lastC cs f (valueOf l f)).1) else none

def Rc (cs : List TChange) : Prop := Rs (cs.map bareC)

theorem lastC_skip {cs : List TChange} {f : TFact} {v : ByteArray × Bool} (h : ∀ c ∈ cs, keyF (bareC c) ≠ keyF f) : lastC cs f v = v := by
  induction cs generalizing v with
  | nil => rfl
  | cons c cs ih =>
    have : sameK (factC c) f = false := Bool.eq_false_iff.2 fun e => h c (by simp) (sameK_iff.1 e)
    rw [lastC, this]
    exact ih fun z hz => h z (by simp [hz])
theorem lastC_head {c : TChange} {cs : List TChange} {f : TFact} {v : ByteArray × Bool} (h : keyF (bareC c) = keyF f) (g : ∀ z ∈ cs, keyF (bareC z) ≠ keyF f) : lastC (c :: cs) f v = (c.2.2.2.2.2.2, isC c) := by
  rw [lastC, sameK_iff.2 (show keyF (factC c) = keyF f from h)]
  exact lastC_skip g
theorem lastC_other {c : TChange} {cs : List TChange} {f : TFact} {v : ByteArray × Bool} (h : keyF (bareC c) ≠ keyF f) : lastC (c :: cs) f v = lastC cs f v := by
  have : sameK (factC c) f = false := Bool.eq_false_iff.2 fun e => h (sameK_iff.1 e)
  rw [lastC, this]; rfl

end Go.Proofs.Ytdblhdpnllckhaa.AE
end
section
set_option linter.unusedVariables false
set_option linter.unusedSimpArgs false
set_option maxRecDepth 20000
namespace Go.Proofs.Ytdblhdpnllckhaa.AE
open Go

theorem Rc.tail {c : TChange} {cs : List TChange} (h : Rc (c :: cs)) : Rc cs := Rs.tail (x := bareC c) (l := cs.map bareC) h
theorem Rc.head {c : TChange} {cs : List TChange} (h : Rc (c :: cs)) {z : TFact} (hz : z ∈ cs.map bareC) : lessF (bareC c) z = true := Rs.head (x := bareC c) (l := cs.map bareC) h hz

theorem stay_keep {l : List TFact} {cs : List TChange} {x : TFact} (hv : valueOf l (strip x) = (x.2.2.2, true)) (hc : ∀ c ∈ cs, keyF (bareC c) ≠ keyF x) : stayOf l cs (strip x) = some x := by
  unfold stayOf
  rw [lastC_skip (f := strip x) hc, hv]
  rfl
theorem stay_turn {l : List TFact} {c : TChange} {cs : List TChange} {f : TFact} (hk : keyF (bareC c) = keyF f) (hc : ∀ z ∈ cs, keyF (bareC z) ≠ keyF f) : stayOf l (c :: cs) f = if isC c then some (factC c) else none := by
  unfold stayOf
  rw [lastC_head hk hc]
  simp only [keyF, Prod.mk.injEq] at hk
  cases isC c with
  | false => rfl
  | true =>
    show some (f.1, f.2.1, f.2.2.1, c.2.2.2.2.2.2) = some (factC c)
    rw [← hk.1, ← hk.2.1, ← hk.2.2]; rfl
theorem stay_skip_l {x : TFact} {l : List TFact} {cs : List TChange} {f : TFact} (h : keyF x ≠ keyF f) : stayOf (x :: l) cs f = stayOf l cs f := by
  unfold stayOf; rw [valueOf_skip h]
theorem stay_skip_c {l : List TFact} {c : TChange} {cs : List TChange} {f : TFact} (h : keyF (bareC c) ≠ keyF f) : stayOf l (c :: cs) f = stayOf l cs f := by
  unfold stayOf; rw [lastC_other h]

theorem apply_eq : ∀ (l : List TFact) (cs : List TChange), Rs l → Rc cs → (both l (cs.map bareC)).filterMap (stayOf l cs) = applyP l cs
  | [], [], _, _ => by rw [List.map_nil, both, applyP]; rfl
  | x :: l, [], hl, hc => by
    rw [List.map_nil, both, List.filterMap_cons_some (stay_keep (valueOf_head rfl) (by simp))]
    have ih := apply_eq l [] hl.tail hc
    rw [List.map_nil] at ih
    have e : ∀ k : List TFact, applyP k [] = k := fun k => by cases k <;> rw [applyP]
    rw [e] at ih ⊢
    congr 1
    refine Eq.trans (filterMap_same fun f hf => ?_) ih
    obtain ⟨z, hz, e⟩ := both_mem _ _ _ hf
    have hz : z ∈ l := by simpa using hz
    exact stay_skip_l (by rw [← e]; exact lessF_nkey (hl.head hz))
  | [], c :: cs, hl, hc => by
    have ih := apply_eq [] cs hl hc.tail
    have rest : (both [] (cs.map bareC)).filterMap (stayOf [] (c :: cs)) = applyP [] cs := by
      refine Eq.trans (filterMap_same fun f hf => ?_) ih
      obtain ⟨z, hz, e⟩ := both_mem _ _ _ hf
      have hz : z ∈ cs.map bareC := by simpa using hz
      exact stay_skip_c (by rw [← e]; exact lessF_nkey (hc.head hz))
    have hno : ∀ z ∈ cs, keyF (bareC z) ≠ keyF (strip (bareC c)) := fun z hz => (lessF_nkey (hc.head (List.mem_map_of_mem hz))).symm
    have st := stay_turn (l := []) (c := c) (cs := cs) (f := strip (bareC c)) rfl hno
    have eb : both [] ((c :: cs).map bareC) = strip (bareC c) :: both [] (cs.map bareC) := by rw [List.map_cons, both, both, List.map_cons]
    rw [eb, applyP]
    cases hi : isC c with
    | true => rw [hi] at st; rw [List.filterMap_cons_some st, rest]; rfl
    | false => rw [hi] at st; rw [List.filterMap_cons_none st, rest]; rfl
  | x :: l, c :: cs, hl, hc => by
    have hno : ∀ f : TFact, keyF (bareC c) = keyF f → ∀ z ∈ cs, keyF (bareC z) ≠ keyF f := fun f hf z hz => by rw [← hf]; exact (lessF_nkey (hc.head (List.mem_map_of_mem hz))).symm
    have k1 : lessF x (factC c) = lessF x (bareC c) := lessF_key rfl rfl
    have k2 : lessF (factC c) x = lessF (bareC c) x := lessF_key rfl rfl
    rw [List.map_cons, both, applyP, k1, k2]
    by_cases h : lessF (bareC c) x = true
    · have h' := lessF_asymm h
      rw [if_pos h, if_neg (by rw [h']; simp), if_pos h]
      have hx : ∀ z, z ∈ x :: l → lessF (bareC c) z = true := fun z hz => by
        rcases List.mem_cons.1 hz with rfl | hz
        · exact h
        · exact lessF_trans h (hl.head hz)
      have rest : (both (x :: l) (cs.map bareC)).filterMap (stayOf (x :: l) (c :: cs)) = applyP (x :: l) cs := by
        refine Eq.trans (filterMap_same fun f hf => ?_) (apply_eq (x :: l) cs hl hc.tail)
        obtain ⟨z, hz, e⟩ := both_mem _ _ _ hf
        exact stay_skip_c (by rw [← e]; exact lessF_nkey (hz.elim (hx z) hc.head))
      have st := stay_turn (l := x :: l) (c := c) (cs := cs) (f := strip (bareC c)) rfl (hno _ rfl)
      cases hi : isC c with
      | true => rw [hi] at st; rw [List.filterMap_cons_some st, rest]; rfl
      | false => rw [hi] at st; rw [List.filterMap_cons_none st, rest]; rfl
    · rw [if_neg h]
      by_cases g : lessF x (bareC c) = true
      · rw [if_pos g, if_pos g]
        have hy : ∀ z, z ∈ (c :: cs).map bareC → lessF x z = true := fun z hz => by
          rw [List.map_cons] at hz
          rcases List.mem_cons.1 hz with rfl | hz
          · exact g
          · exact lessF_trans g (hc.head hz)
        have st : stayOf (x :: l) (c :: cs) (strip x) = some x := stay_keep (valueOf_head rfl) fun z hz => (lessF_nkey (hy _ (List.mem_map_of_mem hz))).symm
        rw [List.filterMap_cons_some st]
        congr 1
        refine Eq.trans (filterMap_same fun f hf => ?_) (apply_eq l (c :: cs) hl.tail hc)
        obtain ⟨z, hz, e⟩ := both_mem _ _ _ hf
        exact stay_skip_l (by rw [← e]; exact lessF_nkey (hz.elim hl.head (hy z)))
      · have ek := lessF_tri (Bool.eq_false_iff.2 g) (Bool.eq_false_iff.2 h)
        rw [if_neg g, if_neg g, if_neg h]
        have rest : (both l (cs.map bareC)).filterMap (stayOf (x :: l) (c :: cs)) = applyP l cs := by
          refine Eq.trans (filterMap_same fun f hf => ?_) (apply_eq l cs hl.tail hc.tail)
          obtain ⟨z, hz, e⟩ := both_mem _ _ _ hf
          have hxz : lessF x z = true := hz.elim hl.head fun hz => by rw [lessF_key ek rfl]; exact hc.head hz
          rw [stay_skip_l (by rw [← e]; exact lessF_nkey hxz), stay_skip_c (by rw [← e, ← ek]; exact lessF_nkey hxz)]
        have st := stay_turn (l := x :: l) (c := c) (cs := cs) (f := strip x) ek.symm (hno _ ek.symm)
        cases hi : isC c with
        | true => rw [hi] at st; rw [List.filterMap_cons_some st, rest]; rfl
        | false => rw [hi] at st; rw [List.filterMap_cons_none st, rest]; rfl
termination_by l cs => l.length + cs.length

end Go.Proofs.Ytdblhdpnllckhaa.AE
end
section
set_option linter.unusedVariables false
set_option linter.unusedSimpArgs false
set_option maxRecDepth 20000
namespace Go.Proofs.Ytdblhdpnllckhaa.AE
open Go

theorem applyP_nil (l : List TFact) : applyP l [] = l := by cases l <;> rw [applyP]
theorem cmpF_zero {a b : TFact} (h : lessF a b = false) : (cmpF a b == 0) = !lessF b a := by
  unfold cmpF
  rw [h]
  cases lessF b a <;> rfl

theorem Apply_in (A : List TFact) (C : List TChange) (i : Nat) (c : TChange) (cs : List TChange) (hi : i < C.length) (hC : C.length ≤ 100000) (d : Nat)
    (next : ∀ (l out : List TFact), out.length + l.length + d ≤ 200000 → V.facts_Apply.l11010 A C l ((i + 1 : Nat) : Int) out = some (out ++ applyP l cs)) :
    ∀ (l out : List TFact) (x3 : Int) (x4 x5 : ByteArray) (x6 : Bool) (x8 x9 : ByteArray), out.length + l.length + (d + 1) ≤ 200000 →
      V.facts_Apply.l11010011001100 A C l (i : Int) out x3 x4 x5 x6 (isC c) x8 x9 c.1 c.2.1 c.2.2.1 c.2.2.2.2.2.2 = some (out ++ applyP l (c :: cs))
  | [], out, x3, x4, x5, x6, x8, x9, h => by
    have hn := nmax_big
    simp only [List.length_nil] at h
    refine V.facts_Apply.l11010011001100.of _ _ _ _ _ _ _ _ _ _ _ _ _ _ _ _ ?_
    unfold F.facts_Apply.l11010011001100.B
    rw [if_no (by simp), if_no (by simp), w64_up hi (by omega), applyP]
    cases hc : isC c with
    | true =>
      rw [cond_true, guard_dec (by simp only [List.length_cons, List.length_nil]; omega), next _ _ (by simp only [List.length_append, List.length_cons, List.length_nil]; omega), List.append_assoc]; rfl
    | false => rw [cond_false, next _ _ (by simp only [List.length_nil]; omega)]; rfl
  | x :: l, out, x3, x4, x5, x6, x8, x9, h => by
    have hn := nmax_big
    simp only [List.length_cons] at h
    refine V.facts_Apply.l11010011001100.of _ _ _ _ _ _ _ _ _ _ _ _ _ _ _ _ ?_
    unfold F.facts_Apply.l11010011001100.B
    have hpos : ((x :: l).length : Int) > 0 := pos_cons x l
    have hcmp : V.facts_Compare ((rd sFact (x :: l) 0).1, ((rd sFact (x :: l) 0).2).1, (((rd sFact (x :: l) 0).2).2).1, (((rd sFact (x :: l) 0).2).2).2) (c.1, c.2.1, c.2.2.1, c.2.2.2.2.2.2) = some (cmpF x (factC c)) := Compare_ok x (factC c)
    rw [if_yes hpos, guard_dec (pos_cons x l), hcmp, Option.bind_some, applyP]
    by_cases hl : lessF x (factC c) = true
    · rw [if_yes (cmpF_lt.2 hl), if_pos hl, guard_dec (pos_cons x l), guard_of (one_cons x l), guard_dec (by simp only [List.length_cons, List.length_nil]; omega), tail_take]
      refine (show _ = _ from Apply_in A C i c cs hi hC d next l (out ++ [x]) x3 x4 x5 x6 x8 x9 (by simp only [List.length_append, List.length_cons, List.length_nil]; omega)).trans ?_
      rw [List.append_assoc]; rfl
    · have hl' := Bool.eq_false_iff.2 hl
      rw [if_no (mt cmpF_lt.1 hl), if_neg hl, if_yes hpos, guard_dec (pos_cons x l), Option.bind_some, cmpF_zero hl', w64_up hi (by omega)]
      by_cases hg : lessF (factC c) x = true
      · rw [hg, if_pos rfl, Bool.not_true, cond_false]
        cases hc : isC c with
        | true =>
          rw [cond_true, guard_dec (by simp only [List.length_cons, List.length_nil]; omega), next _ _ (by simp only [List.length_append, List.length_cons, List.length_nil]; omega), List.append_assoc]; rfl
        | false => rw [cond_false, next _ _ (by simp only [List.length_cons]; omega)]; rfl
      · rw [Bool.eq_false_iff.2 hg, if_neg (by simp), Bool.not_false, cond_true, guard_of (one_cons x l), tail_take]
        cases hc : isC c with
        | true =>
          rw [cond_true, guard_dec (by simp only [List.length_cons, List.length_nil]; omega), next _ _ (by simp only [List.length_append, List.length_cons, List.length_nil]; omega), List.append_assoc]; rfl
        | false => rw [cond_false, next _ _ (by omega)]; rfl

theorem Apply_l (A : List TFact) (C : List TChange) (hC : C.length ≤ 1000) : ∀ (d i : Nat) (l out : List TFact), i + d = C.length → out.length + l.length + d ≤ 200000 → V.facts_Apply.l11010 A C l (i : Int) out = some (out ++ applyP l (C.drop i))
  | 0, i, l, out, h, hb => by
    have hn := nmax_big
    refine V.facts_Apply.l11010.of _ _ _ _ _ ?_
    unfold F.facts_Apply.l11010.B
    rw [if_out (by omega), List.drop_eq_nil_of_le (by omega), applyP_nil, guard_dec (by omega)]
  | d + 1, i, l, out, h, hb => by
    have hi : i < C.length := by omega
    refine V.facts_Apply.l11010.of _ _ _ _ _ ?_
    unfold F.facts_Apply.l11010.B
    rw [if_in hi, guard_in hi, drop_rd (e := sChange) hi, nat_cast]
    exact Apply_in A C i (rd sChange C i) (C.drop (i + 1)) hi (by omega) d (fun l out hb => Apply_l A C hC d (i + 1) l out (by omega) hb) l out _ _ _ _ _ _ hb

theorem Apply_ok (l : List TFact) (C : List TChange) (hl : l.length ≤ 1000) (hC : C.length ≤ 1000) : V.facts_Apply l C = some (applyP l C) := by
  refine V.facts_Apply.of l C ?_
  unfold F.facts_Apply.B
  have := Apply_l l C hC C.length 0 l [] (by omega) (by simp only [List.length_nil]; omega)
  simpa using this

end Go.Proofs.Ytdblhdpnllckhaa.AE
end
section
set_option linter.unusedVariables false
set_option linter.unusedSimpArgs false
set_option maxRecDepth 20000
namespace Go.Proofs.Ytdblhdpnllckhaa.AE
open Go

theorem refApply_in (A : List TFact) (C : List TChange) (hC : C.length ≤ 1000) (n i : Nat) (out l : List TFact) (f : TFact) (hi : i < n) (hn' : n ≤ 10000) (ho : out.length ≤ i) {r : List TFact} : ∀ (d j : Nat) (v : ByteArray) (is : Bool), j + d = C.length →
    ((lastC (C.drop j) f (v, is)).2 = true → V.pleachref27_Apply.l1111010 A C (n : Int) ((i + 1 : Nat) : Int) (out ++ [(f.1, f.2.1, f.2.2.1, (lastC (C.drop j) f (v, is)).1)]) l = some r) →
    ((lastC (C.drop j) f (v, is)).2 = false → V.pleachref27_Apply.l1111010 A C (n : Int) ((i + 1 : Nat) : Int) out l = some r) →
    V.pleachref27_Apply.l11110100110011010 A C v is (n : Int) (i : Int) (j : Int) out f.1 f.2.1 f.2.2.1 f.2.2.2 l = some r
  | 0, j, v, is, h, h1, h2 => by
    have hn := nmax_big
    rw [List.drop_eq_nil_of_le (by omega)] at h1 h2
    refine V.pleachref27_Apply.l11110100110011010.of _ _ _ _ _ _ _ _ _ _ _ _ _ ?_
    unfold F.pleachref27_Apply.l11110100110011010.B
    rw [if_out (by omega), w64_up hi (by omega)]
    cases is with
    | true => rw [cond_true, guard_dec (by simp only [List.length_cons, List.length_nil]; omega)]; exact h1 rfl
    | false => rw [cond_false]; exact h2 rfl
  | d + 1, j, v, is, h, h1, h2 => by
    have hj : j < C.length := by omega
    rw [drop_rd (e := sChange) hj, lastC] at h1 h2
    refine V.pleachref27_Apply.l11110100110011010.of _ _ _ _ _ _ _ _ _ _ _ _ _ ?_
    unfold F.pleachref27_Apply.l11110100110011010.B
    rw [if_in hj, guard_in hj, nat_cast, w64_up hj (by omega)]
    by_cases hs : sameK (factC (rd sChange C j)) f = true
    · rw [if_pos hs] at h1 h2
      have ih := refApply_in A C hC n i out l f hi hn' ho d (j + 1) _ _ (by omega) h1 h2
      have hs' := hs
      unfold sameK at hs'
      simp only [Bool.and_eq_true] at hs'
      rw [show ((rd sChange C j).1 == f.1) = true from hs'.1, show strEq (rd sChange C j).2.1 f.2.1 = true from hs'.2.1, show strEq (rd sChange C j).2.2.1 f.2.2.1 = true from hs'.2.2, cond_true, cond_true, cond_true]
      exact ih
    · rw [if_neg hs] at h1 h2
      have ih := refApply_in A C hC n i out l f hi hn' ho d (j + 1) _ _ (by omega) h1 h2
      rw [ih]
      have hs' : ((rd sChange C j).1 == f.1 && (strEq (rd sChange C j).2.1 f.2.1 && strEq (rd sChange C j).2.2.1 f.2.2.1)) = false := Bool.eq_false_iff.2 hs
      generalize ((rd sChange C j).1 == f.1) = p at *
      generalize (strEq (rd sChange C j).2.1 f.2.1) = q at *
      generalize (strEq (rd sChange C j).2.2.1 f.2.2.1) = s at *
      cases p <;> cases q <;> cases s <;> first | rfl | cases hs'

theorem refApply_l1 (A : List TFact) (C : List TChange) (hA : A.length ≤ 1000) (hC : C.length ≤ 1000) (l : List TFact) (hl : l.length ≤ 10000) : ∀ (d i : Nat) (out : List TFact), i + d = l.length → out.length ≤ i → V.pleachref27_Apply.l1111010 A C (l.length : Int) (i : Int) out l = some (out ++ (l.drop i).filterMap (stayOf A C))
  | 0, i, out, h, ho => by
    refine V.pleachref27_Apply.l1111010.of _ _ _ _ _ _ ?_
    unfold F.pleachref27_Apply.l1111010.B
    rw [if_out (by omega), List.drop_eq_nil_of_le (by omega)]; simp
  | d + 1, i, out, h, ho => by
    have hi : i < l.length := by omega
    refine V.pleachref27_Apply.l1111010.of _ _ _ _ _ _ ?_
    unfold F.pleachref27_Apply.l1111010.B
    have eta : ((rd sFact l i).1, (rd sFact l i).2.1, (rd sFact l i).2.2.1, (rd sFact l i).2.2.2) = rd sFact l i := rfl
    rw [if_in hi, guard_in hi, nat_cast, eta, Value_ok _ _ (by omega), Option.bind_some, drop_rd (e := sFact) hi]
    refine refApply_in A C hC l.length i out l (rd sFact l i) hi hl ho C.length 0 _ _ (by omega) (fun g => ?_) (fun g => ?_)
    · rw [List.drop_zero] at g ⊢
      have e : stayOf A C (rd sFact l i) = some ((rd sFact l i).1, (rd sFact l i).2.1, (rd sFact l i).2.2.1, (lastC C (rd sFact l i) (valueOf A (rd sFact l i))).1) := by unfold stayOf; rw [if_pos g]
      rw [refApply_l1 A C hA hC l hl d (i + 1) _ (by omega) (by simp only [List.length_append, List.length_cons, List.length_nil]; omega), List.filterMap_cons_some e, List.append_assoc]; rfl
    · rw [List.drop_zero] at g
      have e : stayOf A C (rd sFact l i) = none := by unfold stayOf; rw [if_neg (by rw [show (lastC C (rd sFact l i) (valueOf A (rd sFact l i))).2 = false from g]; simp)]
      rw [refApply_l1 A C hA hC l hl d (i + 1) _ (by omega) (by omega), List.filterMap_cons_none e]

theorem refApply_l0 (A : List TFact) (C : List TChange) (hA : A.length ≤ 1000) (hC : C.length ≤ 1000) : ∀ (d i : Nat), i + d = C.length → V.pleachref27_Apply.l11010 A C (i : Int) ((C.take i).map bareC) = some ((both A (C.map bareC)).filterMap (stayOf A C))
  | 0, i, h => by
    have hlen := both_len A (C.map bareC)
    rw [List.length_map] at hlen
    refine V.pleachref27_Apply.l11010.of _ _ _ _ ?_
    unfold F.pleachref27_Apply.l11010.B
    rw [if_out (by omega), List.take_of_length_le (by omega), Both_ok (by omega) (by rw [List.length_map]; omega), Option.bind_some]
    have := refApply_l1 A C hA hC (both A (C.map bareC)) (by omega) (both A (C.map bareC)).length 0 [] (by omega) (by simp)
    simpa using this
  | d + 1, i, h => by
    have hn := nmax_big
    have hi : i < C.length := by omega
    refine V.pleachref27_Apply.l11010.of _ _ _ _ ?_
    unfold F.pleachref27_Apply.l11010.B
    have ih := refApply_l0 A C hA hC d (i + 1) (by omega)
    rw [take_rd (e := sChange) hi, List.map_append] at ih
    rw [if_in hi, guard_in hi, guard_dec (by simp only [List.length_map, List.length_take, List.length_cons, List.length_nil]; omega), nat_cast, w64_up hi (by omega)]
    exact ih

theorem refApply_ok (A : List TFact) (C : List TChange) (hA : A.length ≤ 1000) (hC : C.length ≤ 1000) (rA : Rs A) (rC : Rc C) : V.pleachref27_Apply A C = some (applyP A C) := by
  refine V.pleachref27_Apply.of A C ?_
  unfold F.pleachref27_Apply.B
  have := refApply_l0 A C hA hC C.length 0 (by omega)
  rw [← apply_eq A C rA rC]
  exact this

end Go.Proofs.Ytdblhdpnllckhaa.AE
end
section
set_option linter.unusedVariables false
set_option linter.unusedSimpArgs false
set_option maxRecDepth 20000
namespace Go.Proofs.Ytdblhdpnllckhaa.AE
open Go

theorem riseF_all {l : List TFact} : ∀ {d i : Nat}, riseF l d i = true → ∀ j, i ≤ j → j < i + d → lessF (rd sFact l (j - 1)) (rd sFact l j) = true
  | 0, i, h, j, h1, h2 => by omega
  | d + 1, i, h, j, h1, h2 => by
    rw [riseF, Bool.and_eq_true] at h
    rcases Nat.eq_or_lt_of_le h1 with e | g
    · subst e; exact h.1
    · exact riseF_all h.2 j (by omega) (by omega)

theorem rs_of : ∀ {l : List TFact}, (∀ j, 1 ≤ j → j < l.length → lessF (rd sFact l (j - 1)) (rd sFact l j) = true) → Rs l
  | [], _ => List.Pairwise.nil
  | [x], _ => by simp [Rs]
  | x :: y :: l, h => by
    have hy : Rs (y :: l) := rs_of fun j h1 h2 => by
      have := h (j + 1) (by omega) (by simp only [List.length_cons] at h2 ⊢; omega)
      rw [show j + 1 - 1 = (j - 1) + 1 by omega] at this
      exact this
    have hxy : lessF x y = true := h 1 (by omega) (by simp only [List.length_cons]; omega)
    refine List.Pairwise.cons (fun z hz => ?_) hy
    rcases List.mem_cons.1 hz with rfl | hz
    · exact hxy
    · exact lessF_trans hxy (hy.head hz)

theorem rises_rs {l : List TFact} (h : rises l = true) : Rs l := rs_of fun j h1 h2 => riseF_all h j h1 (by omega)

theorem FactsDiff_l (A B : List TFact) (C : List TChange) (hA : A.length ≤ 1000) (hC : C.length ≤ 60) (rA : Rs A) : ∀ d i : Nat, i + d = max C.length 1 → 1 ≤ i → (∀ j, 1 ≤ j → j < i → lessF (bareC (rd sChange C (j - 1))) (bareC (rd sChange C j)) = true) → V.pleachlaw27_FactsDiff.l111010 A B C (i : Int) = some true
  | 0, i, h, h1, hr => by
    have rC : Rc C := rs_of fun j g1 g2 => by
      rw [List.length_map] at g2
      have g3 : j - 1 < C.length := by omega
      have := hr j g1 (by omega)
      rw [rd_get (e := sChange) g3, rd_get (e := sChange) g2] at this
      rw [rd_get (e := sFact) (by rw [List.length_map]; exact g3), rd_get (e := sFact) (by rw [List.length_map]; exact g2), List.getElem_map, List.getElem_map]
      exact this
    have hlen : (applyP A C).length ≤ 140737488351232 := by
      rw [← apply_eq A C rA rC]
      have h1 := both_len A (C.map bareC)
      have h2 := List.length_filterMap_le (stayOf A C) (both A (C.map bareC))
      rw [List.length_map] at h1
      omega
    refine V.pleachlaw27_FactsDiff.l111010.of _ _ _ _ ?_
    unfold F.pleachlaw27_FactsDiff.l111010.B
    rw [if_out (by omega), Apply_ok A C hA (by omega), Option.bind_some, refApply_ok A C hA (by omega) rA rC, Option.bind_some, Same27_self _ hlen, Option.bind_some, awake27]
    rfl
  | d + 1, i, h, h1, hr => by
    have hi : i < C.length := by omega
    have hi1 : i - 1 < C.length := by omega
    refine V.pleachlaw27_FactsDiff.l111010.of _ _ _ _ ?_
    unfold F.pleachlaw27_FactsDiff.l111010.B
    rw [if_in hi, w64_dn hi (by omega) (by omega), guard_in hi1, guard_in hi, nat_cast, nat_cast, meet_self, Less_ok, Option.bind_some, awake27, Option.bind_some, w64_up hi (by omega)]
    show (bif !lessF (bareC (rd sChange C (i - 1))) (bareC (rd sChange C i)) then some true else V.pleachlaw27_FactsDiff.l111010 A B C ((i + 1 : Nat) : Int)) = some true
    by_cases hl : lessF (bareC (rd sChange C (i - 1))) (bareC (rd sChange C i)) = true
    · rw [hl]
      exact FactsDiff_l A B C hA hC rA d (i + 1) (by omega) (by omega) fun j g1 g2 => by
        rcases Nat.lt_or_ge j i with g | g
        · exact hr j g1 g
        · rw [show j = i by omega]; exact hl
    · rw [Bool.eq_false_iff.2 hl]; rfl

theorem FactsDiff_pure (A B : List TFact) (C : List TChange) (hA : A.length ≤ 140737488351232) (hB : B.length ≤ 140737488351232) : V.pleachlaw27_FactsDiff A B C = some true := by
  obtain ⟨r, h1, h2⟩ := Few27_ok A hA
  obtain ⟨q, g1, g2⟩ := Few27_ok B hB
  refine V.pleachlaw27_FactsDiff.of _ _ _ ?_
  unfold F.pleachlaw27_FactsDiff.B
  rw [h1, Option.bind_some, g1, awake27, Option.bind_some, Option.bind_some, Rises_ok A hA, Option.bind_some, Rises_ok B hB, Option.bind_some]
  cases r with
  | false => rfl
  | true =>
    cases q with
    | false => rfl
    | true =>
      have hA := h2 rfl
      have hB := g2 rfl
      by_cases ra : rises A = true
      · by_cases rb : rises B = true
        · rw [ra, rb]
          show (bif decide ((C.length : Int) > 60) then some true else _) = some true
          by_cases hc : (C.length : Int) > 60
          · rw [if_yes hc]
          · rw [if_no hc, Diff_ok A B (by omega), Option.bind_some, refDiff_ok (by omega) (by omega) (rises_rs ra) (rises_rs rb), Option.bind_some, SameChanges_self _ (by
              rw [← diff_eq A B (rises_rs ra) (rises_rs rb)]
              have h1 := both_len A B
              have h2 := List.length_filterMap_le (turnOf A B) (both A B)
              omega), Option.bind_some]
            exact FactsDiff_l A B C (by omega) (by omega) (rises_rs ra) (max C.length 1 - 1) 1 (by omega) (by omega) (fun j _ _ => by omega)
        · rw [ra, Bool.eq_false_iff.2 rb]; rfl
      · rw [Bool.eq_false_iff.2 ra]; rfl

end Go.Proofs.Ytdblhdpnllckhaa.AE
end
section
namespace Go.Proofs.Ytdblhdpnllckhaa.AE
open Go Go.ChangeShapes Go.WideShapes Go.ChangeAt Go.RowKit
theorem weights_each {H : Type} {P : Program} {p : Nat → Bool} {ts : List TypeId} {ds : List (DataW H)} (h : (DataW.weightsEach P ts ds).all p = true) {j : Nat} {t : TypeId} {d : DataW H} (ht : ts[j]? = some t) (hd : ds[j]? = some d) : ∀ n ∈ d.weights P t, p n = true :=
  fun n hn => List.all_eq_true.1 h _ (DataW.weights_mem_each ht hd n hn)
theorem own : ownKnob Try.prog.godebug = none := by kernel_rfl
theorem laidOut : laidOutB Try.prog = true := by kernel_rfl
theorem mix : Try.prog.follows .mixedOrders = true := by kernel_rfl
theorem numGoB : (Try.prog.funcs.all fun fn => !(fn.name == "runtime.NumGoroutine")) = true := by kernel_rfl
theorem num (f : FuncId) (fn : Func) (h : Try.prog.funcs[f]? = some fn) : (fn.name == "runtime.NumGoroutine") = false := by
  have := Array.all_eq_true_iff_forall_mem.1 numGoB fn (Array.mem_of_getElem? h)
  simpa using this
theorem extok : ExtOk Try.prog sg := .of (show extAll Try.prog sgT from
  ⟨.nothing rfl rfl,
  ⟨.nothing rfl rfl,
  ⟨.nothing rfl rfl,
  ⟨.nothing rfl rfl,
  ⟨.nothing rfl rfl,
  ⟨.nothing rfl rfl,
  ⟨.nothing rfl rfl,
  ⟨.nothing rfl rfl,
  ⟨.nothing rfl rfl,
  ⟨.nothing rfl rfl,
  ⟨.nothing rfl rfl,
  ⟨.nothing rfl rfl,
  ⟨.nothing rfl rfl,
  ⟨.nothing rfl rfl,
  ⟨.nothing rfl rfl,
  ⟨.nothing rfl rfl,
  ⟨.nothing rfl rfl,
  ⟨.nothing rfl rfl,
  ⟨.nothing rfl rfl,
  ⟨.nothing rfl rfl,
  ⟨.nothing rfl rfl,
  ⟨.nothing rfl rfl,
  ⟨.nothing rfl rfl,
  ⟨.nothing rfl rfl,
  ⟨.nothing rfl rfl,
  ⟨.nothing rfl rfl,
  ⟨.nothing rfl rfl,
  ⟨.nothing rfl rfl,
  ⟨.nothing rfl rfl,
  ⟨.nothing rfl rfl,
  ⟨.nothing rfl rfl,
  ⟨.nothing rfl rfl,
  ⟨.nothing rfl rfl,
  ⟨.nothing rfl rfl,
  ⟨.nothing rfl rfl,
  ⟨.nothing rfl rfl,
  ⟨.nothing rfl rfl,
  ⟨.nothing rfl rfl,
  ⟨.nothing rfl rfl,
  ⟨.nothing rfl rfl,
  ⟨.nothing rfl rfl,
  ⟨.nothing rfl rfl,
  ⟨.nothing rfl rfl,
  ⟨.nothing rfl rfl,
  ⟨.nothing rfl rfl,
  ⟨.nothing rfl rfl,
  ⟨.nothing rfl rfl,
  ⟨.nothing rfl rfl,
  ⟨.nothing rfl rfl,
  ⟨.nothing rfl rfl,
  ⟨.nothing rfl rfl,
  ⟨.nothing rfl rfl,
  ⟨.nothing rfl rfl,
  ⟨.nothing rfl rfl,
  ⟨.nothing rfl rfl,
  ⟨.nothing rfl rfl,
  ⟨.nothing rfl rfl,
  ⟨.nothing rfl rfl,
  ⟨.nothing rfl rfl,
  ⟨.nothing rfl rfl,
  ⟨.nothing rfl rfl,
  ⟨.nothing rfl rfl,
  ⟨.nothing rfl rfl,
  ⟨.nothing rfl rfl,
  ⟨.nothing rfl rfl,
  ⟨.nothing rfl rfl,
  ⟨.nothing rfl rfl,
  ⟨.nothing rfl rfl,
  ⟨.nothing rfl rfl,
  ⟨.nothing rfl rfl,
  ⟨.nothing rfl rfl,
  ⟨.nothing rfl rfl,
  ⟨.nothing rfl rfl,
  ⟨.nothing rfl rfl,
  ⟨.nothing rfl rfl,
  ⟨.nothing rfl rfl,
  ⟨.nothing rfl rfl,
  ⟨.nothing rfl rfl,
  ⟨.nothing rfl rfl,
  ⟨.nothing rfl rfl,
  ⟨.nothing rfl rfl,
  ⟨.nothing rfl rfl,
  ⟨.nothing rfl rfl,
  ⟨.nothing rfl rfl,
  ⟨.nothing rfl rfl,
  ⟨.nothing rfl rfl,
  ⟨.nothing rfl rfl,
  ⟨.nothing rfl rfl,
  ⟨.nothing rfl rfl,
  ⟨.nothing rfl rfl,
  ⟨.nothing rfl rfl,
  ⟨.nothing rfl rfl,
  ⟨.nothing rfl rfl,
  ⟨.nothing rfl rfl,
  ⟨.nothing rfl rfl,
  ⟨.nothing rfl rfl,
  ⟨.nothing rfl rfl,
  ⟨.nothing rfl rfl,
  ⟨.nothing rfl rfl,
  ⟨.nothing rfl rfl,
  ⟨.nothing rfl rfl,
  ⟨.nothing rfl rfl,
  ⟨.ofOp rfl rfl (opCompare_ok Try.func153 (by kernel_rfl) (by kernel_rfl) (by kernel_rfl) (by kernel_rfl)),
  ⟨.nothing rfl rfl,
  ⟨.nothing rfl rfl,
  ⟨.nothing rfl rfl,
  ⟨.nothing rfl rfl,
  ⟨.nothing rfl rfl,
  ⟨.nothing rfl rfl,
  ⟨.nothing rfl rfl,
  ⟨.nothing rfl rfl,
  ⟨.nothing rfl rfl,
  ⟨.nothing rfl rfl,
  ⟨.nothing rfl rfl,
  ⟨.nothing rfl rfl,
  ⟨.nothing rfl rfl,
  ⟨.nothing rfl rfl,
  ⟨.nothing rfl rfl,
  ⟨.nothing rfl rfl,
  ⟨.nothing rfl rfl,
  ⟨.nothing rfl rfl,
  ⟨.nothing rfl rfl,
  ⟨.nothing rfl rfl,
  ⟨.nothing rfl rfl,
  ⟨.nothing rfl rfl,
  ⟨.nothing rfl rfl,
  ⟨.nothing rfl rfl,
  ⟨.nothing rfl rfl,
  ⟨.nothing rfl rfl,
  ⟨.nothing rfl rfl,
  ⟨.nothing rfl rfl,
  ⟨.nothing rfl rfl,
  ⟨.nothing rfl rfl,
  ⟨.nothing rfl rfl,
  ⟨.nothing rfl rfl,
  ⟨.nothing rfl rfl,
  ⟨.nothing rfl rfl,
  ⟨.nothing rfl rfl,
  ⟨.ofOp rfl rfl (opIndexByte_ok Try.func220 (by kernel_rfl) (by kernel_rfl) (by kernel_rfl) (by kernel_rfl)),
  ⟨.nothing rfl rfl,
  ⟨.nothing rfl rfl,
  ⟨.nothing rfl rfl,
  ⟨.nothing rfl rfl,
  ⟨.nothing rfl rfl,
  ⟨.nothing rfl rfl,
  ⟨.nothing rfl rfl,
  ⟨.nothing rfl rfl,
  trivial⟩⟩⟩⟩⟩⟩⟩⟩⟩⟩⟩⟩⟩⟩⟩⟩⟩⟩⟩⟩⟩⟩⟩⟩⟩⟩⟩⟩⟩⟩⟩⟩⟩⟩⟩⟩⟩⟩⟩⟩⟩⟩⟩⟩⟩⟩⟩⟩⟩⟩⟩⟩⟩⟩⟩⟩⟩⟩⟩⟩⟩⟩⟩⟩⟩⟩⟩⟩⟩⟩⟩⟩⟩⟩⟩⟩⟩⟩⟩⟩⟩⟩⟩⟩⟩⟩⟩⟩⟩⟩⟩⟩⟩⟩⟩⟩⟩⟩⟩⟩⟩⟩⟩⟩⟩⟩⟩⟩⟩⟩⟩⟩⟩⟩⟩⟩⟩⟩⟩⟩⟩⟩⟩⟩⟩⟩⟩⟩⟩⟩⟩⟩⟩⟩⟩⟩⟩⟩⟩⟩⟩⟩⟩⟩⟩⟩⟩)
end Go.Proofs.Ytdblhdpnllckhaa.AE
end
section
namespace Go.Proofs.Ytdblhdpnllckhaa.AE.factsDiff
open Go Go.ChangeShapes Go.WideShapes Go.ChangeAt Go.RowKit
open Go.ChangeMaps (open_string shut_string)
set_option linter.unusedVariables false
def Pure : Prop := ∀ (x0 : den ((.list (.prod (.int .i64) (.prod .str (.prod .str .str)))))) (x1 : den ((.list (.prod (.int .i64) (.prod .str (.prod .str .str)))))) (x2 : den ((.list (.prod (.int .i64) (.prod .str (.prod .str (.prod .bool (.prod .bool (.prod .str .str))))))))), Gd ((.list (.prod (.int .i64) (.prod .str (.prod .str .str))))) x0 → Gd ((.list (.prod (.int .i64) (.prod .str (.prod .str .str))))) x1 → Gd ((.list (.prod (.int .i64) (.prod .str (.prod .str (.prod .bool (.prod .bool (.prod .str .str)))))))) x2 → ∃ K, F.pleachlaw27_FactsDiff K x0 x1 x2 = some true
set_option maxRecDepth 100000 in
theorem lifted (pure : Pure) (os : Os) (started : os.Started) (H : Type) (enc : TypeId × Value → H) :
    ReturnsInHanded {} Try.checked os 4 .any (Rows.factsDiffSpec.pre6 enc Try.prog Try.f4 Rows.factsDiffRow.domain false) (Rows.factsDiffSpec.post enc Try.prog Try.f4 false true false false) := by
  refine returnsInHanded_of_change_sized (C := Try.checked) own started (by kernel_rfl) Try.func4
    (ChangeSpec.witness6 (enc := enc) (C := Try.checked) false ⟨#[], #[.slice none 0 0, .slice none 0 0, .slice none 0 0], []⟩ 8 (by kernel_rfl) (by kernel_rfl) (by kernel_rfl) (by kernel_rfl)) ?_
  intro W base args ds gs before hval0 hW hcnd hsz0 _
  have hsz : (DataW.weightsEach Try.prog (Try.f4.params.toList ++ Rows.factsDiffSpec.plain.varTypes Try.prog) (ds ++ gs)).all (· ≤ reachBytes) = true := hsz0
  have hval : ∀ (j : Nat) t v, Try.f4.params[j]? = some t → args[j]? = some v → Value.okWide Try.prog W .any base t v := hval0
  have hW' := hW
  obtain ⟨p, q, hA0, hV, rfl, hfz, hnd⟩ := hW
  have hA : DataW.TrodAll enc Try.prog W 0 (fun _ => true) true Try.f4.params.toList args.toList ds p := hA0
  rw [Try.params4] at hA hval hsz
  obtain ⟨v0, vs0, d0, ds0, p0, q0, hargs, rfl, rfl, h0, r0⟩ := trodAll_cons hA
  obtain ⟨v1, vs1, d1, ds1, p1, q1, rfl, rfl, rfl, h1, r1⟩ := trodAll_cons r0
  obtain ⟨v2, vs2, d2, ds2, p2, q2, rfl, rfl, rfl, h2, r2⟩ := trodAll_cons r1
  obtain ⟨rfl, rfl, rfl⟩ := trodAll_nil r2
  obtain rfl : args = #[v0, v1, v2] := by cases args; simp_all
  obtain ⟨rfl, rfl⟩ := trodVars_none hV
  have k0 := h0
  have lt0 : ∀ x ∈ p0, x.block < W.heap.size := by obtain ⟨m, hm⟩ := k0; exact DataW.trod_lt m _ _ _ hm
  obtain ⟨a0, len0, cap0, rfl⟩ := okWide_slice Try.underlying28 (hval 0 28 v0 rfl rfl)
  obtain ⟨fuel0, hf0⟩ := h0
  obtain ⟨x0, S0, G0⟩ := fitT_ok (O := OX NoX [] []) (fun b => own_none) 20 28 ((.list (.prod (.int .i64) (.prod .str (.prod .str .str))))) (by kernel_rfl) fuel0 _ _ hf0 (fun m hm => by have hq := weights_each hsz (j := 0) (t := 28) rfl rfl m hm; exact of_decide_eq_true hq)
  have k1 := h1
  have lt1 : ∀ x ∈ p1, x.block < W.heap.size := by obtain ⟨m, hm⟩ := k1; exact DataW.trod_lt m _ _ _ hm
  obtain ⟨a1, len1, cap1, rfl⟩ := okWide_slice Try.underlying28 (hval 1 28 v1 rfl rfl)
  obtain ⟨fuel1, hf1⟩ := h1
  obtain ⟨x1, S1, G1⟩ := fitT_ok (O := OX NoX [] []) (fun b => own_none) 20 28 ((.list (.prod (.int .i64) (.prod .str (.prod .str .str))))) (by kernel_rfl) fuel1 _ _ hf1 (fun m hm => by have hq := weights_each hsz (j := 1) (t := 28) rfl rfl m hm; exact of_decide_eq_true hq)
  have k2 := h2
  have lt2 : ∀ x ∈ p2, x.block < W.heap.size := by obtain ⟨m, hm⟩ := k2; exact DataW.trod_lt m _ _ _ hm
  obtain ⟨a2, len2, cap2, rfl⟩ := okWide_slice Try.underlying33 (hval 2 33 v2 rfl rfl)
  obtain ⟨fuel2, hf2⟩ := h2
  obtain ⟨x2, S2, G2⟩ := fitT_ok (O := OX NoX [] []) (fun b => own_none) 20 33 ((.list (.prod (.int .i64) (.prod .str (.prod .str (.prod .bool (.prod .bool (.prod .str .str)))))))) (by kernel_rfl) fuel2 _ _ hf2 (fun m hm => by have hq := weights_each hsz (j := 2) (t := 33) rfl rfl m hm; exact of_decide_eq_true hq)
  obtain ⟨K, hk⟩ := pure x0 x1 x2 G0 G1 G2
  have ha : AV1sR (OX NoX [] []) W [] [.sc (.list ((.prod (.int .i64) (.prod .str (.prod .str .str)))) x0 false), .sc (.list ((.prod (.int .i64) (.prod .str (.prod .str .str)))) x1 false), .sc (.list ((.prod (.int .i64) (.prod .str (.prod .str (.prod .bool (.prod .bool (.prod .str .str))))))) x2 false)] (#[.slice a0 len0 cap0, .slice a1 len1 cap1, .slice a2 len2 cap2] : Array Value).toList := .cons (arg_sc S0 rfl) (.cons (arg_sc S1 rfl) (.cons (arg_sc S2 rfl) ⟨rfl, by simp⟩))
  refine (law_calls (good Try.prog sg extok mix num K) (f := 4) (t := (true : Bool)) (b := true) hk rfl (fun O w ρ vals σ v h hv => bool_of h hv) ha).mono fun e W' ⟨he, hd⟩ => ?_
  have bel : Below W.heap.size W W' := hd
  subst he
  exact ⟨_, rfl, _, _, _, [], _, [], hW', trodAll_mk1 (shut_bool Try.underlying4 _), (trodAll_cons_mk (Below.trod laidOut (by kernel_rfl) (of_decide_eq_true (by kernel_rfl)) k0 bel lt0) (trodAll_cons_mk (Below.trod laidOut (by kernel_rfl) (of_decide_eq_true (by kernel_rfl)) k1 bel lt1) (trodAll_cons_mk (Below.trod laidOut (by kernel_rfl) (of_decide_eq_true (by kernel_rfl)) k2 bel lt2) trodAll_mk0))), rfl, bel.frame _, fun h => by cases h⟩
theorem over (pure : Pure) : Rows.factsDiffRow.holds Try.pinned (OpenSpec.ofChange Rows.factsDiffSpec) :=
  OpenClaim.holds_of_wide 4 Try.f4 rfl rfl rfl rfl rfl rfl rfl ⟨rfl, rfl, rfl, rfl, rfl⟩ rfl rfl rfl rfl rfl (by kernel_rfl) Try.func4 (by kernel_rfl)
    (of_decide_eq_true (by kernel_rfl)) (by unfold Func.isWrapper; first | (rw [if_pos (by decide +kernel)]; kernel_rfl) | (rw [if_neg (by decide +kernel)]; exact ⟨rfl, rfl⟩))
    (fun os started H enc _ => lifted pure os started H enc)
theorem proved (pure : Pure) : Rows.FactsDiffSaid := over pure
end Go.Proofs.Ytdblhdpnllckhaa.AE.factsDiff
end
