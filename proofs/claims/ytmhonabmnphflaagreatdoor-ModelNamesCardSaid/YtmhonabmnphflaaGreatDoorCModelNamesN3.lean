/- The evaluator of the program's form, its soundness, the functions of the given program as it evaluates them, and laws on these. Conditions: as each theorem says. -/
import Derived.Test.YtmhonabmnphflaaGreatDoorCModelNamesN2
import Derived.Test.YtmhonabmnphflaaGreatDoorProg
import Derived.Laws.BitsLemmas
import Derived.KernelRfl
import Derived.Test.YtmhonabmnphflaaGreatDoorRows
import Derived.WalkKit
import Derived.ProofKit
import Derived.OpenShut
import Derived.ShutString
import Derived.ChangeOld
import Derived.Below
import Derived.SizedLaws
import Derived.LaidMore
import Derived.Stop.Joined
import Derived.Stop.LaidErr
import Derived.Test.YtmhonabmnphflaaGreatDoorTie
import Derived.Test.YtmhonabmnphflaaGreatDoorCards
import Derived.SevenTiedAt
section
set_option linter.unusedVariables false
set_option maxRecDepth 100000
namespace Go.Proofs.YtmhonabmnphflaaGreatDoor.AE
open Go
abbrev sKnot : Sh := (.prod (.int .i64) (.list (.int .i64)))
abbrev TRef : Type := Int × ByteArray × ByteArray
abbrev sRef : Sh := (.prod (.int .i64) (.prod .str .str))
abbrev TValue : Type := Int × Int × ByteArray
abbrev sValue : Sh := (.prod (.int .i64) (.prod (.int .i64) .str))
abbrev sFact : Sh := (.prod (.int .i64) (.prod .str (.prod .str .str)))
abbrev TProp : Type := ByteArray × TValue
abbrev sProp : Sh := (.prod .str sValue)
abbrev TConflict : Type := Int × ByteArray × ByteArray × Int
abbrev sConflict : Sh := (.prod (.int .i64) (.prod .str (.prod .str (.int .i64))))
abbrev TChange : Type := Int × ByteArray × ByteArray × Bool × Bool × ByteArray × ByteArray
abbrev sChange : Sh := (.prod (.int .i64) (.prod .str (.prod .str (.prod .bool (.prod .bool (.prod .str .str))))))
abbrev TNode : Type := ByteArray × (List ByteArray) × List TProp
abbrev sNode : Sh := (.prod .str (.prod (.list .str) (.list sProp)))
abbrev TOp : Type := Int × ByteArray × ByteArray × ByteArray × TProp
abbrev sOp : Sh := (.prod (.int .i64) (.prod .str (.prod .str (.prod .str sProp))))
abbrev TEdge : Type := ByteArray × ByteArray × TNode
abbrev sEdge : Sh := (.prod .str (.prod .str sNode))
abbrev scolumn : Sh := (.prod sFact (.prod (.prod .str (.prod .str .str)) (.prod (.int .i64) (.prod (.int .i64) (.int .i64)))))
abbrev smerge : Sh := (.prod (.list sFact) (.prod (.list sConflict) (.list (.prod .str (.int .i64)))))
abbrev TCall : Type := Int × ByteArray × ByteArray × ByteArray × ByteArray × (List TOp) × ByteArray × ByteArray
abbrev sCall : Sh := (.prod (.int .i64) (.prod .str (.prod .str (.prod .str (.prod .str (.prod (.list sOp) (.prod .str .str)))))))
abbrev TGraph : Type := (List TNode) × List TEdge
abbrev sGraph : Sh := (.prod (.list sNode) (.list sEdge))
abbrev sbuilder : Sh := (.prod sGraph (.prod (.list (.prod .str (.int .i64))) (.list (.prod .str (.int .i64)))))
abbrev TKnown : Type := Int × (List Int) × TGraph × ByteArray × Bool
abbrev sKnown : Sh := (.prod (.int .i64) (.prod (.list (.int .i64)) (.prod sGraph (.prod .str .bool))))
abbrev TModel : Type := (List TKnown) × (List TRef) × Int
abbrev sModel : Sh := (.prod (.list sKnown) (.prod (.list sRef) (.int .i64)))
abbrev TAnswer : Type := Int × Int × ByteArray × TGraph × (List TChange) × (List TConflict) × (List ByteArray) × (List TRef) × List Int
abbrev sAnswer : Sh := (.prod (.int .i64) (.prod (.int .i64) (.prod .str (.prod sGraph (.prod (.list sChange) (.prod (.list sConflict) (.prod (.list .str) (.prod (.list sRef) (.list (.int .i64))))))))))
def sgT : List (Nat × Sig) := [
  (3, { ps := [.raw, .raw, (.agg sCall)], vals := [.sc .bool] }),
  (4, { ps := [(.sc (.list sCall)), .raw], vals := [.sc .bool] }),
  (5, { vals := [.sc .bool] }),
  (6, { tup := true, vals := [.sc (.int .i64), .sc .bool] }),
  (7, { tup := true, vals := [.sc (.int .i64), .sc .bool] }),
  (8, { vals := [.sc .str] }),
  (9, { vals := [.sc .str] }),
  (10, { vals := [.nilp] }),
  (11, { vals := [.agg sModel] }),
  (12, { ps := [(.agg sAnswer), (.agg sAnswer)], vals := [.sc .bool] }),
  (13, { ps := [.raw, (.agg sCall)], vals := [.agg sAnswer], excl := [(34, [0, 2])] }),
  (14, { ps := [(.sc (.list sOp))], vals := [.sc .bool] }),
  (15, { vals := [.ptr 64 sModel] }),
  (16, atoiSig),
  (17, { tup := true, vals := [.agg sValue, .sc .bool] }),
  (18, itoaSig),
  (19, { vals := [.sc .str] }),
  (20, { ps := [(.sc (.list sKnown))], vals := [.own sKnown] }),
  (21, { ps := [(.sc (.list sRef))], vals := [.own sRef] }),
  (23, { ps := [(.agg sGraph)], vals := [.agg sGraph [0, 1]], excl := [(6, [2]), (12, [3])] }),
  (24, { ps := [(.agg sGraph), (.agg sGraph)], vals := [.sc .bool] }),
  (25, { ps := [(.sc (.list sChange)), (.sc (.list sChange))], vals := [.sc .bool] }),
  (26, { ps := [(.sc (.list sConflict)), (.sc (.list sConflict))], vals := [.sc .bool] }),
  (27, { ps := [(.sc (.list .str)), (.sc (.list .str))], vals := [.sc .bool] }),
  (28, { ps := [(.sc (.list sRef)), (.sc (.list sRef))], vals := [.sc .bool] }),
  (29, { ps := [(.sc (.list (.int .i64))), (.sc (.list (.int .i64)))], vals := [.sc .bool] }),
  (30, { vals := [.agg sAnswer] }),
  (31, { ps := [.raw, (.agg sCall)], vals := [.agg sAnswer], blks := [.cells 0 sModel], coer := [(8, (.own (.int .i64)))], bcoer := [(67, 1, (.sc (.list (.int .i64)))), (67, 2, (.sc (.list sNode))), (67, 3, (.sc (.list sEdge)))] }),
  (32, { ps := [.raw, (.agg sCall)], vals := [.agg sAnswer], blks := [.cells 0 sModel] }),
  (33, { ps := [.raw, (.agg sCall)], vals := [.agg sAnswer], blks := [.cells 0 sModel] }),
  (34, { ps := [.raw, (.agg sCall)], vals := [.agg sAnswer], blks := [.cells 0 sModel] }),
  (35, { ps := [.raw, (.agg sCall)], vals := [.agg sAnswer], blks := [.cells 0 sModel], excl := [(8, [2]), (9, [0])] }),
  (36, { ps := [.raw, (.agg sCall)], vals := [.agg sAnswer], blks := [.cells 0 sModel], excl := [(14, [0])] }),
  (37, { ps := [.raw, (.agg sCall)], vals := [.agg sAnswer], blks := [.cells 0 sModel], coer := [(9, (.own .str))], excl := [(6, [0])] }),
  (38, { tup := true, blks := [.cells 0 sModel [0]] }),
  (39, { vals := [.own sKnot], blks := [.cells 0 sModel], coer := [(3, (.own sKnot))] }),
  (42, { tup := true, vals := [.sc .str, .sc .bool] }),
  (43, { tup := true, vals := [.sc (.int .i64), .sc .bool] }),
  (44, { ps := [(.agg sValue)], vals := [.sc .str] }),
  (46, { vals := [.sc .str] }),
  (47, { vals := [.sc .str] }),
  (48, { ps := [(.sc (.list sNode))], vals := [.own sNode] }),
  (49, { ps := [(.sc (.list sEdge))], vals := [.own sEdge] }),
  (50, { ps := [(.sc (.list .str))], vals := [.own .str] }),
  (51, { ps := [(.sc (.list sProp))], vals := [.own sProp] }),
  (52, { ps := [(.agg sNode), (.agg sNode)], vals := [.sc .bool] }),
  (53, { ps := [(.agg sEdge), (.agg sEdge)], vals := [.sc .bool] }),
  (54, { vals := [.sc (.int .i64)] }),
  (55, { ps := [(.sc (.list .str))], vals := [.sc .bool] }),
  (56, { ps := [(.sc (.list sRef)), .raw, .raw, .raw, .raw], tup := true, vals := [.own sRef, .sc (.int .i64)] }),
  (57, { tup := true, vals := [.agg sKnown, .sc .bool], blks := [.cells 0 sModel] }),
  (58, { ps := [(.agg sGraph), (.sc (.list sOp))], tup := true, vals := [.agg sGraph, .sc (.int .i64), .sc (.int .i64)] }),
  (59, { ps := [.raw, (.agg sCall), (.sc (.list (.int .i64))), (.agg sGraph)], vals := [.agg sAnswer], blks := [.cells 0 sModel], excl := [(5, [0])] }),
  (60, { ps := [.raw, .raw, (.agg sCall), .raw], vals := [.sc (.int .i64)], blks := [.cells 0 sModel] }),
  (61, { ps := [(.agg sGraph), .raw], tup := true, vals := [.agg sNode, .sc .bool] }),
  (62, { ps := [(.agg sGraph), .raw], vals := [.own sEdge] }),
  (63, { ps := [(.agg sGraph), .raw], vals := [.own sEdge] }),
  (64, { ps := [(.agg sGraph), .raw], vals := [.own sNode], coer := [(5, (.own sNode))] }),
  (65, { ps := [(.sc (.list sFact)), (.sc (.list sFact))], vals := [.own sChange], coer := [(5, (.own sChange))], excl := [(11, [1]), (12, [0]), (15, [0, 1]), (16, [0]), (19, [1])] }),
  (66, { ps := [(.agg sGraph)], vals := [.own sFact], coer := [(3, (.own sFact))], excl := [(13, [0])] }),
  (67, { ps := [(.sc (.list sKnot)), .raw, .raw], tup := true, vals := [.sc (.int .i64), .sc (.int .i64)] }),
  (68, { ps := [(.agg sGraph), (.agg sGraph), (.agg sGraph)], tup := true, vals := [.agg sGraph, .sc (.list sConflict), .sc (.int .i64)] }),
  (69, { vals := [.agg sGraph], blks := [.cells 0 sModel] }),
  (70, { ps := [(.sc (.list sKnot)), .raw], tup := true, vals := [.sc (.list (.int .i64)), .sc (.int .i64)] }),
  (76, { vals := [.sc (.int .i64)] }),
  (77, { ps := [(.agg sValue)], vals := [.sc .bool] }),
  (78, { vals := [.sc .bool] }),
  (79, { vals := [.sc .str] }),
  (81, { ps := [(.sc (.list sProp)), (.sc (.list sProp))], vals := [.sc .bool] }),
  (82, { vals := [.sc .bool] }),
  (83, { vals := [.sc .bool] }),
  (84, { ps := [(.sc (.list sRef)), .raw, .raw], tup := true, vals := [.sc (.int .i64), .sc .bool] }),
  (85, { ps := [(.own sRef), .raw, .raw], vals := [.own sRef], excl := [(5, [0])] }),
  (86, insSig sRef),
  (87, { ps := [(.sc (.list sKnown)), .raw], vals := [.sc (.int .i64)], blks := [.cells 0 (.int .i64)] }),
  (88, { ps := [(.agg sKnown)], vals := [.sc .bool], blks := [.cells 0 (.int .i64)] }),
  (89, { ps := [(.agg sGraph)], vals := [.sc (.int .i64)] }),
  (90, { ps := [.raw, (.agg sOp)], vals := [.sc (.int .i64)], blks := [.cells 0 sGraph [0, 1]] }),
  (91, { ps := [(.agg sGraph), .raw], tup := true, vals := [.sc (.int .i64), .sc .bool] }),
  (92, { ps := [(.agg sGraph), .raw], vals := [.own sEdge], blks := [.cells 0 .str], coer := [(5, (.own sEdge))] }),
  (93, { ps := [(.agg sEdge)], vals := [.sc .bool], blks := [.cells 0 .str] }),
  (94, { ps := [(.agg sEdge)], vals := [.sc .bool], blks := [.cells 0 .str] }),
  (95, { ps := [(.sc (.list .str)), .raw], tup := true, vals := [.sc (.int .i64), .sc .bool] }),
  (96, { ps := [(.agg sFact), (.agg sFact)], vals := [.sc (.int .i64)] }),
  (97, { ps := [(.agg sFact)], vals := [.agg sChange] }),
  (98, { ps := [.raw, .raw, .raw, (.sc (.list .str)), (.sc (.list sProp))], vals := [.own sFact], coer := [(11, (.own sFact))] }),
  (99, { vals := [.sc .str] }),
  (100, { ps := [(.own sFact), .raw], tup := true, blks := [.elems 0 sFact] }),
  (101, { ps := [(.sc (.list sKnot)), .raw, .raw], tup := true, vals := [.sc (.list (.int .i64)), .sc (.int .i64)] }),
  (102, { ps := [(.sc (.list sFact)), (.sc (.list sFact)), (.sc (.list sFact))], tup := true, vals := [.sc (.list sFact), .sc (.list sConflict)], bcoer := [(217, 0, (.own sFact)), (217, 1, (.own sConflict))] }),
  (103, { ps := [(.sc (.list sFact))], tup := true, vals := [.agg sGraph, .sc (.int .i64)], bcoer := [(233, 0, (.sc (.list sNode))), (233, 1, (.sc (.list sEdge)))] }),
  (104, { ps := [(.sc (.list sKnot)), (.sc (.list (.int .i64)))], vals := [.sc (.int .i64)] }),
  (116, { ps := [(.sc (.list sRef)), (.agg sRef), .raw], tup := true, vals := [.sc (.int .i64), .sc .bool] }),
  (117, { ps := [(.agg sRef), (.agg sRef)], vals := [.sc (.int .i64)] }),
  (120, { ps := [(.agg sNode)], vals := [.sc (.int .i64)] }),
  (121, { ps := [(.agg sEdge)], vals := [.sc (.int .i64)] }),
  (122, { ps := [(.agg sOp)], vals := [.sc (.int .i64)] }),
  (123, { ps := [.raw, (.agg sOp)], vals := [.sc (.int .i64)], blks := [.cells 0 sGraph [0, 1]], excl := [(2, [1, 2]), (7, [2, 3, 4]), (9, [1, 2]), (14, [1, 3, 4])] }),
  (124, { ps := [.raw, (.agg sOp)], vals := [.sc (.int .i64)], blks := [.cells 0 sGraph [0, 1]], excl := [(2, [1, 2]), (7, [0, 1, 2]), (9, [1, 2]), (10, [1, 2]), (11, [1, 2]), (18, [0, 1, 2])] }),
  (125, { ps := [.raw, (.agg sOp)], vals := [.sc (.int .i64)], blks := [.cells 0 sGraph [0, 1]], excl := [(2, [1, 2]), (7, [1, 2])] }),
  (126, { ps := [(.sc (.list sNode)), .raw, .raw], tup := true, vals := [.sc (.int .i64), .sc .bool] }),
  (127, { ps := [(.agg sNode), .raw], vals := [.sc (.int .i64)] }),
  (128, { vals := [.sc (.int .i64)] }),
  (129, { ps := [(.sc (.list .str)), .raw], tup := true, vals := [.sc (.int .i64), .sc .bool] }),
  (130, { ps := [(.sc (.list (.int .i64)))], vals := [.sc (.int .i64)] }),
  (131, { vals := [.sc (.int .i64)] }),
  (132, { vals := [.sc (.int .i64)] }),
  (133, { ps := [(.agg sValue)], tup := true, vals := [.sc .str, .sc (.int .i64)] }),
  (134, { ps := [(.own sFact), .raw, .raw], tup := true, blks := [.elems 0 sFact] }),
  (135, { ps := [(.sc (.list sKnot)), .raw, .raw, .raw], vals := [.sc (.int .i64)], blks := [.cells 0 (.list (.int .i64))] }),
  (137, { ps := [(.sc (.list (.int .i64)))], tup := true }),
  (138, { ps := [.raw, (.agg scolumn)], tup := true, blks := [.cells 0 smerge [0, 1, 1002]], excl := [(9, [0, 6, 7, 8])] }),
  (139, { ps := [(.agg (.prod (.list sFact) (.prod (.list sFact) (.list sFact))))], vals := [.own scolumn], coer := [(3, (.own scolumn))], excl := [(16, [0, 1, 2])] }),
  (140, { ps := [.raw, (.agg sFact)], vals := [.sc (.int .i64)], blks := [.cells 0 smerge [0, 1, 1002]] }),
  (141, { ps := [.raw, (.agg sFact), .raw], tup := true, blks := [.cells 0 smerge [0, 1, 1002]], excl := [(1, [0, 1, 2, 3])] }),
  (144, { ps := [(.sc (.list sFact))], vals := [.sc (.int .i64)] }),
  (145, { ps := [.raw, (.agg sFact)], vals := [.sc .bool], blks := [.cells 0 sbuilder [1002, 1003]], excl := [(3, [1]), (8, [2])] }),
  (146, { ps := [(.sc (.list sKnot))], vals := [.sc (.int .i64)] }),
  (147, { ps := [(.sc (.list sKnot)), .raw], vals := [.sc .bool], blks := [.cells 0 (.int .i64)] }),
  (148, { ps := [(.agg sKnot)], vals := [.sc .bool], blks := [.cells 0 (.int .i64)] }),
  (159, { ps := [(.sc (.list .str)), (.sc (.list sProp))], vals := [.sc (.int .i64)] }),
  (160, { ps := [(.sc (.list sProp)), .raw, (.agg sValue)], tup := true, vals := [.own sProp, .sc (.int .i64)] }),
  (161, { vals := [.sc .bool] }),
  (162, { ps := [(.agg sGraph), .raw], tup := true, vals := [.sc (.int .i64), .sc .bool] }),
  (163, { ps := [(.sc (.list .str)), (.sc (.list sProp)), (.agg sOp)], tup := true, vals := [.own .str, .own sProp, .sc (.int .i64)], coer := [(0, (.sc (.list .str))), (1, (.sc (.list sProp)))] }),
  (164, insSig sNode),
  (165, insSig sEdge),
  (166, { ps := [(.own sEdge), .raw, .raw], vals := [.own sEdge], excl := [(5, [0])] }),
  (167, { ps := [(.sc (.list sEdge)), .raw], vals := [.sc .bool], blks := [.cells 0 sOp] }),
  (168, { ps := [(.agg sEdge)], vals := [.sc .bool], blks := [.cells 0 sOp] }),
  (169, { ps := [(.own sNode), .raw, .raw], vals := [.own sNode], excl := [(5, [0])] }),
  (170, { vals := [.sc .bool] }),
  (171, { vals := [.sc .bool] }),
  (172, { vals := [.sc .bool] }),
  (173, { vals := [.sc .bool] }),
  (174, { vals := [.sc (.int .i64)] }),
  (175, { ps := [(.agg sValue)], vals := [.sc (.int .i64)] }),
  (176, { vals := [.sc .str] }),
  (177, { vals := [.sc .str] }),
  (178, { ps := [(.own sFact), .raw, .raw, .raw], tup := true, blks := [.elems 0 sFact], excl := [(6, [0])] }),
  (179, { ps := [(.own sFact), .raw, .raw, .raw, .raw], tup := true, blks := [.elems 0 sFact], excl := [(11, [0]), (23, [0])] }),
  (180, { ps := [(.agg scolumn)], vals := [.sc (.int .i64)] }),
  (181, { ps := [.raw, (.agg sFact)], tup := true, blks := [.cells 0 smerge [0, 1, 1002]], excl := [(2, [3])] }),
  (182, { tup := true, vals := [.sc .str, .sc .str] }),
  (183, { vals := [.sc .str] }),
  (186, { ps := [(.sc (.list sKnot)), .raw], vals := [.sc (.int .i64)], blks := [.cells 0 (.int .i64)] }),
  (192, { ps := [(.sc (.list .str))], vals := [.sc (.int .i64)] }),
  (193, { ps := [(.sc (.list sProp))], vals := [.sc (.int .i64)] }),
  (194, { ps := [(.sc (.list sProp)), .raw], tup := true, vals := [.sc (.int .i64), .sc .bool] }),
  (195, insSig sProp),
  (196, { ps := [(.sc (.list sEdge)), .raw, .raw], tup := true, vals := [.sc (.int .i64), .sc .bool] }),
  (197, { ps := [(.agg sEdge), .raw], vals := [.sc (.int .i64)] }),
  (198, { ps := [(.sc (.list .str)), .raw], tup := true, vals := [.own .str, .sc (.int .i64)] }),
  (199, { ps := [(.sc (.list .str)), .raw], tup := true, vals := [.own .str, .sc (.int .i64)] }),
  (200, { ps := [(.sc (.list sProp)), .raw], tup := true, vals := [.own sProp, .sc (.int .i64)] }),
  (205, { ps := [(.sc (.list sEdge)), .raw], vals := [.sc (.int .i64)], blks := [.cells 0 sOp] }),
  (206, { op := some opCompare }),
  (207, { vals := [.sc .str] }),
  (208, { vals := [.sc .str] }),
  (209, { ps := [(.own sFact), .raw, .raw, .raw, .raw], tup := true, blks := [.elems 0 sFact] }),
  (210, { ps := [(.agg scolumn), .raw, .raw], vals := [.sc .bool] }),
  (211, { tup := true, vals := [.sc .str, .sc .str, .sc .bool] }),
  (215, { ps := [(.sc (.list sProp)), .raw, .raw], tup := true, vals := [.sc (.int .i64), .sc .bool] }),
  (216, { ps := [(.agg sProp), .raw], vals := [.sc (.int .i64)] }),
  (219, { ps := [(.sc (.list .str)), .raw], tup := true, vals := [.own .str, .sc .bool] }),
  (220, { ps := [(.sc (.list .str)), .raw], tup := true, vals := [.own .str, .sc .bool] }),
  (221, { ps := [(.own sProp), .raw, .raw], vals := [.own sProp], excl := [(5, [0])] }),
  (224, { vals := [.sc (.int .u64)] }),
  (225, { ps := [(.own sFact), .raw, .raw, .raw, .raw], tup := true, blks := [.elems 0 sFact], excl := [(3, [0])] }),
  (226, { tup := true, vals := [.sc .str, .sc .str, .sc .bool] }),
  (232, insSig .str),
  (233, { ps := [(.own .str), .raw, .raw], vals := [.own .str], excl := [(5, [0])] }),
  (236, { vals := [.sc (.int .i64)] }),
  (246, { vals := [.sc (.int .i64)] }),
  (255, { op := some opIndexByte })]
abbrev sg : FuncId → Sig := sigOf sgT
noncomputable def F.model_fail (K : Nat) (a0 : Int) : Option (TAnswer) := evFn Tryz.prog sg K 30 [.sc (.val (.int .i64 a0))] []
noncomputable def F.model_fail.B (a0 : Int) : Option (TAnswer) :=
    (some (a0, 0, (⟨#[]⟩ : ByteArray), ([], []), [], [], [], [], []))
theorem F.model_fail.eq K a0 : F.model_fail (K + 1) a0 = F.model_fail.B a0 := by kernel_rfl
noncomputable def V.model_fail (a0 : Int) := lim fun v => F.model_fail (v 0) a0
theorem V.model_fail.of a0 {r} (h : F.model_fail.B a0 = some r) : V.model_fail a0 = some r :=
  App.to (App.step 0 (fun v => F.model_fail.eq (v 0) a0) (by unfold F.model_fail.B; repeat' first | apply App.guard | apply App.cond | exact App.lim | exact App.val | exact App.no | apply App.meet | apply App.ite | refine App.bind ?_ fun _ => ?_)) h
noncomputable def F.strconv_Atoi (K : Nat) (a0 : ByteArray) : Option (Int × Bool) := evFn Tryz.prog sg K 16 [.sc (.val (.string a0))] []
noncomputable def F.strconv_Atoi.B (a0 : ByteArray) : Option (Int × Bool) :=
    (atoiB a0)
theorem F.strconv_Atoi.eq K a0 : F.strconv_Atoi (K + 1) a0 = F.strconv_Atoi.B a0 := by kernel_rfl
noncomputable def V.strconv_Atoi (a0 : ByteArray) := lim fun v => F.strconv_Atoi (v 0) a0
theorem V.strconv_Atoi.of a0 {r} (h : F.strconv_Atoi.B a0 = some r) : V.strconv_Atoi a0 = some r :=
  App.to (App.step 0 (fun v => F.strconv_Atoi.eq (v 0) a0) App.const) h
noncomputable def F.strconv_Itoa (K : Nat) (a0 : Int) : Option (ByteArray) := evFn Tryz.prog sg K 18 [.sc (.val (.int .i64 a0))] []
noncomputable def F.strconv_Itoa.B (a0 : Int) : Option (ByteArray) :=
    (itoaB a0)
theorem F.strconv_Itoa.eq K a0 : F.strconv_Itoa (K + 1) a0 = F.strconv_Itoa.B a0 := by kernel_rfl
noncomputable def V.strconv_Itoa (a0 : Int) := lim fun v => F.strconv_Itoa (v 0) a0
theorem V.strconv_Itoa.of a0 {r} (h : F.strconv_Itoa.B a0 = some r) : V.strconv_Itoa a0 = some r :=
  App.to (App.step 0 (fun v => F.strconv_Itoa.eq (v 0) a0) App.const) h
noncomputable def F.model_Name (K : Nat) (a0 : Int) : Option (ByteArray) := evFn Tryz.prog sg K 8 [.sc (.val (.int .i64 a0))] []
noncomputable def F.model_Name.B (c0 : (Int) → Option (ByteArray)) (a0 : Int) : Option (ByteArray) :=
    ((c0 a0).bind fun t0 => (guardK (decide ((⟨#[35]⟩ : ByteArray).size + t0.size ≤ i64max)) (some ((⟨#[35]⟩ : ByteArray) ++ t0))))
theorem F.model_Name.eq K a0 : F.model_Name (K + 1) a0 = F.model_Name.B (F.strconv_Itoa K) a0 := by kernel_rfl
noncomputable def V.model_Name (a0 : Int) := lim fun v => F.model_Name (v 0) a0
theorem V.model_Name.of a0 {r} (h : F.model_Name.B V.strconv_Itoa a0 = some r) : V.model_Name a0 = some r :=
  App.to (App.step 0 (fun v => F.model_Name.eq (v 0) a0) (by unfold F.model_Name.B; repeat' first | apply App.guard | apply App.cond | exact App.lim | exact App.val | exact App.no | apply App.meet | apply App.ite | refine App.bind ?_ fun _ => ?_)) h
noncomputable def F.model_Number (K : Nat) (a0 : ByteArray) : Option (Int × Bool) := evFn Tryz.prog sg K 6 [.sc (.val (.string a0))] []
noncomputable def F.model_Number.B (c0 : (ByteArray) → Option (Int × Bool)) (c1 : (Int) → Option (ByteArray)) (a0 : ByteArray) : Option (Int × Bool) :=
    (bif (strEq a0 (⟨#[]⟩ : ByteArray)) then (some (0, false)) else (guardK (decide (1 ≤ (a0.size : Int)) && decide ((a0.size : Int) ≤ (a0.size : Int))) ((c0 (a0.extract 1 (a0.size : Int).toNat)).bind fun t0 => (bif !t0.2 then (some (0, false)) else ((c1 t0.1).bind fun t1 => (bif (!strEq t1 a0) then (some (0, false)) else (some (t0.1, true))))))))
theorem F.model_Number.eq K a0 : F.model_Number (K + 1) a0 = F.model_Number.B (F.strconv_Atoi K) (F.model_Name K) a0 := by kernel_rfl
noncomputable def V.model_Number (a0 : ByteArray) := lim fun v => F.model_Number (v 0) a0
theorem V.model_Number.of a0 {r} (h : F.model_Number.B V.strconv_Atoi V.model_Name a0 = some r) : V.model_Number a0 = some r :=
  App.to (App.step 0 (fun v => F.model_Number.eq (v 0) a0) (by unfold F.model_Number.B; repeat' first | apply App.guard | apply App.cond | exact App.lim | exact App.val | exact App.no | apply App.meet | apply App.ite | refine App.bind ?_ fun _ => ?_)) h
noncomputable def F.pleachlaw40_awake (K : Nat) : Option (Bool) := evFn Tryz.prog sg K 5 [] []
noncomputable def V.pleachlaw40_awake := lim fun v => F.pleachlaw40_awake (v 0)
noncomputable def F.pleachref26_FewOps (K : Nat) (a0 : List TOp) : Option (Bool) := evFn Tryz.prog sg K 14 [.sc (.list sOp a0 false)] []
noncomputable def F.pleachref26_FewOps.at (K : Nat) (p ns : List Nat) (s : St) : Option (Bool) := atFn Tryz.prog sg K 14 0 p ns s
noncomputable def F.pleachref26_FewOps.in (K : Nat) (H : List Nat → List Nat → St → Option (Bool)) (p ns : List Nat) (s : St) : Option (Bool) := inFn Tryz.prog sg K 14 0 [] H p ns s
theorem F.pleachref26_FewOps.in_eq K p ns s : F.pleachref26_FewOps.at K p ns s = F.pleachref26_FewOps.in K (F.pleachref26_FewOps.at K) p ns s := atFn_eq (P := Tryz.prog) (sg := sg) (K := K) (f := 14) (m := 0) [] p ns s
theorem F.pleachref26_FewOps.in_main K a0 : F.pleachref26_FewOps (K + 1) a0 = F.pleachref26_FewOps.in K (F.pleachref26_FewOps.at K) [] [] ⟨slots [.sc (.list sOp a0 false)] 0, []⟩ := evFn_eq (P := Tryz.prog) (sg := sg) (K := K) (f := 14) (args := [.sc (.list sOp a0 false)]) (σ := []) [] (by kernel_rfl)
def F.pleachref26_FewOps.l11010.st (a0 : List TOp) (x0 : Int) (x1 : Int) : St := ⟨[(0, vL sOp a0), (3, vI x0), (4, vI x1)], []⟩
noncomputable def F.pleachref26_FewOps.l11010 (K n0 : Nat) (a0 : List TOp) (x0 : Int) (x1 : Int) := F.pleachref26_FewOps.at K [1, 1, 0, 1, 0] [n0] (F.pleachref26_FewOps.l11010.st a0 x0 x1)
noncomputable def F.pleachref26_FewOps.l11010.B (c0 : (List TOp) → (Int) → (Int) → Option (Bool)) (a0 : List TOp) (x0 : Int) (x1 : Int) : Option (Bool) :=
    (bif (decide (x1 < (a0.length : Int))) then (bif (decide (x1 ≤ 70)) then (guardK (decide (0 ≤ x1) && decide (x1 < (a0.length : Int))) (guardK (decide (0 ≤ x1) && decide (x1 < (a0.length : Int))) (guardK (decide (0 ≤ x1) && decide (x1 < (a0.length : Int))) (guardK (decide (0 ≤ x1) && decide (x1 < (a0.length : Int))) (guardK (decide (0 ≤ x1) && decide (x1 < (a0.length : Int))) (c0 a0 (w64 ((w64 ((w64 ((w64 ((w64 (x0 + (if 5000 < ((((rd sOp a0 x1.toNat).2).1).size : Int) then 5000 else ((((rd sOp a0 x1.toNat).2).1).size : Int)))) + (if 5000 < (((((rd sOp a0 x1.toNat).2).2).1).size : Int) then 5000 else (((((rd sOp a0 x1.toNat).2).2).1).size : Int)))) + (if 5000 < ((((((rd sOp a0 x1.toNat).2).2).2).1).size : Int) then 5000 else ((((((rd sOp a0 x1.toNat).2).2).2).1).size : Int)))) + (if 5000 < (((((((rd sOp a0 x1.toNat).2).2).2).2).1).size : Int) then 5000 else (((((((rd sOp a0 x1.toNat).2).2).2).2).1).size : Int)))) + (if 5000 < (((((((((rd sOp a0 x1.toNat).2).2).2).2).2).2).2).size : Int) then 5000 else (((((((((rd sOp a0 x1.toNat).2).2).2).2).2).2).2).size : Int)))) (w64 (x1 + 1)))))))) else (bif (decide ((a0.length : Int) ≤ 70)) then (some (decide (x0 ≤ 5000))) else (some false))) else (bif (decide ((a0.length : Int) ≤ 70)) then (some (decide (x0 ≤ 5000))) else (some false)))
theorem F.pleachref26_FewOps.l11010.eq K n0 a0 x0 x1 : F.pleachref26_FewOps.l11010 K (n0 + 1) a0 x0 x1 = F.pleachref26_FewOps.l11010.B (F.pleachref26_FewOps.l11010 K n0) a0 x0 x1 := (F.pleachref26_FewOps.in_eq K [1, 1, 0, 1, 0] [n0 + 1] (F.pleachref26_FewOps.l11010.st a0 x0 x1)).trans ((show ∀ H, F.pleachref26_FewOps.in K H [1, 1, 0, 1, 0] [n0 + 1] (F.pleachref26_FewOps.l11010.st a0 x0 x1) = F.pleachref26_FewOps.l11010.B (fun a0 x0 x1 => H [1, 1, 0, 1, 0] [n0] (F.pleachref26_FewOps.l11010.st a0 x0 x1)) a0 x0 x1 from by intro H; kernel_rfl) (F.pleachref26_FewOps.at K))
noncomputable def F.pleachref26_FewOps.B (c0 : (List TOp) → (Int) → (Int) → Option (Bool)) (a0 : List TOp) : Option (Bool) :=
    (c0 a0 0 0)
theorem F.pleachref26_FewOps.eq K a0 : F.pleachref26_FewOps (K + 1) a0 = F.pleachref26_FewOps.B (F.pleachref26_FewOps.l11010 K K) a0 := (F.pleachref26_FewOps.in_main K a0).trans ((show ∀ H, F.pleachref26_FewOps.in K H [] [] ⟨slots [.sc (.list sOp a0 false)] 0, []⟩ = F.pleachref26_FewOps.B (fun a0 x0 x1 => H [1, 1, 0, 1, 0] [K] (F.pleachref26_FewOps.l11010.st a0 x0 x1)) a0 from by intro H; kernel_rfl) (F.pleachref26_FewOps.at K))
noncomputable def V.pleachref26_FewOps.l11010 (a0 : List TOp) (x0 : Int) (x1 : Int) := lim fun v => F.pleachref26_FewOps.l11010 (v 0) (v 1) a0 x0 x1
noncomputable def V.pleachref26_FewOps (a0 : List TOp) := lim fun v => F.pleachref26_FewOps (v 0) a0
theorem V.pleachref26_FewOps.l11010.of a0 x0 x1 {r} (h : F.pleachref26_FewOps.l11010.B V.pleachref26_FewOps.l11010 a0 x0 x1 = some r) : V.pleachref26_FewOps.l11010 a0 x0 x1 = some r :=
  App.to (App.step 1 (fun v => F.pleachref26_FewOps.l11010.eq (v 0) (v 1) a0 x0 x1) (by unfold F.pleachref26_FewOps.l11010.B; repeat' first | apply App.guard | apply App.cond | exact App.lim | exact App.val | exact App.no | apply App.meet | apply App.ite | refine App.bind ?_ fun _ => ?_)) h
theorem V.pleachref26_FewOps.of a0 {r} (h : F.pleachref26_FewOps.B V.pleachref26_FewOps.l11010 a0 = some r) : V.pleachref26_FewOps a0 = some r :=
  App.to (App.step 0 (fun v => F.pleachref26_FewOps.eq (v 0) a0) (by unfold F.pleachref26_FewOps.B; repeat' first | apply App.guard | apply App.cond | exact App.lim | exact (App.enter 1 App.lim) | exact App.val | exact App.no | apply App.meet | apply App.ite | refine App.bind ?_ fun _ => ?_)) h
noncomputable def F.pleachref40_Few (K : Nat) (a0 : List TCall) (a1 : Int) : Option (Bool) := evFn Tryz.prog sg K 4 [.sc (.list sCall a0 false), .sc (.val (.int .i64 a1))] []
noncomputable def F.pleachref40_Few.at (K : Nat) (p ns : List Nat) (s : St) : Option (Bool) := atFn Tryz.prog sg K 4 0 p ns s
noncomputable def F.pleachref40_Few.in (K : Nat) (H : List Nat → List Nat → St → Option (Bool)) (p ns : List Nat) (s : St) : Option (Bool) := inFn Tryz.prog sg K 4 0 [] H p ns s
theorem F.pleachref40_Few.in_eq K p ns s : F.pleachref40_Few.at K p ns s = F.pleachref40_Few.in K (F.pleachref40_Few.at K) p ns s := atFn_eq (P := Tryz.prog) (sg := sg) (K := K) (f := 4) (m := 0) [] p ns s
theorem F.pleachref40_Few.in_main K a0 a1 : F.pleachref40_Few (K + 1) a0 a1 = F.pleachref40_Few.in K (F.pleachref40_Few.at K) [] [] ⟨slots [.sc (.list sCall a0 false), .sc (.val (.int .i64 a1))] 0, []⟩ := evFn_eq (P := Tryz.prog) (sg := sg) (K := K) (f := 4) (args := [.sc (.list sCall a0 false), .sc (.val (.int .i64 a1))]) (σ := []) [] (by kernel_rfl)
def F.pleachref40_Few.l11010.st (a0 : List TCall) (a1 : Int) (x0 : Int) (x1 : Int) : St := ⟨[(0, vL sCall a0), (1, vI a1), (5, vI x0), (6, vI x1)], []⟩
noncomputable def F.pleachref40_Few.l11010 (K n0 : Nat) (a0 : List TCall) (a1 : Int) (x0 : Int) (x1 : Int) := F.pleachref40_Few.at K [1, 1, 0, 1, 0] [n0] (F.pleachref40_Few.l11010.st a0 a1 x0 x1)
noncomputable def F.pleachref40_Few.l11010.B (c0 : (List TOp) → Option (Bool)) (c1 : (List TCall) → (Int) → (Int) → (Int) → Option (Bool)) (a0 : List TCall) (a1 : Int) (x0 : Int) (x1 : Int) : Option (Bool) :=
    (bif (decide (x1 < (a0.length : Int))) then (bif (decide (x1 ≤ a1)) then (guardK (decide (0 ≤ x1) && decide (x1 < (a0.length : Int))) (bif (decide (((((((((rd sCall a0 x1.toNat).2).2).2).2).2).1).length : Int) > 70)) then (some false) else ((c0 (((((((rd sCall a0 x1.toNat).2).2).2).2).2).1)).bind fun t0 => (bif (!t0) then (some false) else (c1 a0 a1 (w64 ((w64 ((w64 ((w64 ((w64 ((w64 ((w64 (x0 + (if 5000 < ((((rd sCall a0 x1.toNat).2).1).size : Int) then 5000 else ((((rd sCall a0 x1.toNat).2).1).size : Int)))) + (if 5000 < (((((rd sCall a0 x1.toNat).2).2).1).size : Int) then 5000 else (((((rd sCall a0 x1.toNat).2).2).1).size : Int)))) + (if 5000 < ((((((rd sCall a0 x1.toNat).2).2).2).1).size : Int) then 5000 else ((((((rd sCall a0 x1.toNat).2).2).2).1).size : Int)))) + (if 5000 < (((((((rd sCall a0 x1.toNat).2).2).2).2).1).size : Int) then 5000 else (((((((rd sCall a0 x1.toNat).2).2).2).2).1).size : Int)))) + (if 5000 < (((((((((rd sCall a0 x1.toNat).2).2).2).2).2).2).1).size : Int) then 5000 else (((((((((rd sCall a0 x1.toNat).2).2).2).2).2).2).1).size : Int)))) + (if 5000 < (((((((((rd sCall a0 x1.toNat).2).2).2).2).2).2).2).size : Int) then 5000 else (((((((((rd sCall a0 x1.toNat).2).2).2).2).2).2).2).size : Int)))) + (w64 (4 * ((((((((rd sCall a0 x1.toNat).2).2).2).2).2).1).length : Int))))) (w64 (x1 + 1))))))) else (bif (decide ((a0.length : Int) ≤ a1)) then (some (decide (x0 ≤ 6000))) else (some false))) else (bif (decide ((a0.length : Int) ≤ a1)) then (some (decide (x0 ≤ 6000))) else (some false)))
theorem F.pleachref40_Few.l11010.eq K n0 a0 a1 x0 x1 : F.pleachref40_Few.l11010 K (n0 + 1) a0 a1 x0 x1 = F.pleachref40_Few.l11010.B (F.pleachref26_FewOps K) (F.pleachref40_Few.l11010 K n0) a0 a1 x0 x1 := (F.pleachref40_Few.in_eq K [1, 1, 0, 1, 0] [n0 + 1] (F.pleachref40_Few.l11010.st a0 a1 x0 x1)).trans ((show ∀ H, F.pleachref40_Few.in K H [1, 1, 0, 1, 0] [n0 + 1] (F.pleachref40_Few.l11010.st a0 a1 x0 x1) = F.pleachref40_Few.l11010.B (F.pleachref26_FewOps K) (fun a0 a1 x0 x1 => H [1, 1, 0, 1, 0] [n0] (F.pleachref40_Few.l11010.st a0 a1 x0 x1)) a0 a1 x0 x1 from by intro H; kernel_rfl) (F.pleachref40_Few.at K))
noncomputable def F.pleachref40_Few.B (c0 : (List TCall) → (Int) → (Int) → (Int) → Option (Bool)) (a0 : List TCall) (a1 : Int) : Option (Bool) :=
    (c0 a0 a1 0 0)
theorem F.pleachref40_Few.eq K a0 a1 : F.pleachref40_Few (K + 1) a0 a1 = F.pleachref40_Few.B (F.pleachref40_Few.l11010 K K) a0 a1 := (F.pleachref40_Few.in_main K a0 a1).trans ((show ∀ H, F.pleachref40_Few.in K H [] [] ⟨slots [.sc (.list sCall a0 false), .sc (.val (.int .i64 a1))] 0, []⟩ = F.pleachref40_Few.B (fun a0 a1 x0 x1 => H [1, 1, 0, 1, 0] [K] (F.pleachref40_Few.l11010.st a0 a1 x0 x1)) a0 a1 from by intro H; kernel_rfl) (F.pleachref40_Few.at K))
noncomputable def V.pleachref40_Few.l11010 (a0 : List TCall) (a1 : Int) (x0 : Int) (x1 : Int) := lim fun v => F.pleachref40_Few.l11010 (v 0) (v 1) a0 a1 x0 x1
noncomputable def V.pleachref40_Few (a0 : List TCall) (a1 : Int) := lim fun v => F.pleachref40_Few (v 0) a0 a1
theorem V.pleachref40_Few.l11010.of a0 a1 x0 x1 {r} (h : F.pleachref40_Few.l11010.B V.pleachref26_FewOps V.pleachref40_Few.l11010 a0 a1 x0 x1 = some r) : V.pleachref40_Few.l11010 a0 a1 x0 x1 = some r :=
  App.to (App.step 1 (fun v => F.pleachref40_Few.l11010.eq (v 0) (v 1) a0 a1 x0 x1) (by unfold F.pleachref40_Few.l11010.B; repeat' first | apply App.guard | apply App.cond | exact App.lim | exact App.val | exact App.no | apply App.meet | apply App.ite | refine App.bind ?_ fun _ => ?_)) h
theorem V.pleachref40_Few.of a0 a1 {r} (h : F.pleachref40_Few.B V.pleachref40_Few.l11010 a0 a1 = some r) : V.pleachref40_Few a0 a1 = some r :=
  App.to (App.step 0 (fun v => F.pleachref40_Few.eq (v 0) a0 a1) (by unfold F.pleachref40_Few.B; repeat' first | apply App.guard | apply App.cond | exact App.lim | exact (App.enter 1 App.lim) | exact App.val | exact App.no | apply App.meet | apply App.ite | refine App.bind ?_ fun _ => ?_)) h
noncomputable def F.pleachref06_Is (K : Nat) (a0 : TValue) : Option (Bool) := evFn Tryz.prog sg K 77 [.agg [.val (.int .i64 a0.1), .val (.int .i64 a0.2.1), .val (.string a0.2.2)]] []
noncomputable def F.pleachref06_Is.B (a0 : TValue) : Option (Bool) :=
    (bif (a0.1 == 1) then (bif (decide (a0.2.1 ≥ 0)) then (bif (decide (a0.2.1 ≤ 1)) then (some (strEq a0.2.2 (⟨#[]⟩ : ByteArray))) else (some false)) else (some false)) else (bif (a0.1 == 2) then (some (strEq a0.2.2 (⟨#[]⟩ : ByteArray))) else (bif (a0.1 == 3) then (bif (a0.2.1 == 0) then (some (decide ((a0.2.2.size : Int) ≤ 64))) else (some false)) else (some false))))
theorem F.pleachref06_Is.eq K a0 : F.pleachref06_Is (K + 1) a0 = F.pleachref06_Is.B a0 := by kernel_rfl
noncomputable def V.pleachref06_Is (a0 : TValue) := lim fun v => F.pleachref06_Is (v 0) a0
theorem V.pleachref06_Is.of a0 {r} (h : F.pleachref06_Is.B a0 = some r) : V.pleachref06_Is a0 = some r :=
  App.to (App.step 0 (fun v => F.pleachref06_Is.eq (v 0) a0) (by unfold F.pleachref06_Is.B; repeat' first | apply App.guard | apply App.cond | exact App.lim | exact App.val | exact App.no | apply App.meet | apply App.ite | refine App.bind ?_ fun _ => ?_)) h
noncomputable def F.pleachref06_tail (K : Nat) (a0 : Int) : Option (ByteArray) := evFn Tryz.prog sg K 47 [.sc (.val (.int .i64 a0))] []
noncomputable def F.pleachref06_tail.B (a0 : Int) : Option (ByteArray) :=
    (some (bytesOf ([(IntKind.wrap .u8 (w64 (48 + a0)))])))
theorem F.pleachref06_tail.eq K a0 : F.pleachref06_tail (K + 1) a0 = F.pleachref06_tail.B a0 := by kernel_rfl
noncomputable def V.pleachref06_tail (a0 : Int) := lim fun v => F.pleachref06_tail (v 0) a0
theorem V.pleachref06_tail.of a0 {r} (h : F.pleachref06_tail.B a0 = some r) : V.pleachref06_tail a0 = some r :=
  App.to (App.step 0 (fun v => F.pleachref06_tail.eq (v 0) a0) (by unfold F.pleachref06_tail.B; repeat' first | apply App.guard | apply App.cond | exact App.lim | exact App.val | exact App.no | apply App.meet | apply App.ite | refine App.bind ?_ fun _ => ?_)) h
noncomputable def F.pleachref06_tens (K : Nat) (a0 : Int) : Option (ByteArray) := evFn Tryz.prog sg K 46 [.sc (.val (.int .u64 a0))] []
noncomputable def F.pleachref06_tens.at (K : Nat) (p ns : List Nat) (s : St) : Option (ByteArray) := atFn Tryz.prog sg K 46 0 p ns s
noncomputable def F.pleachref06_tens.in (K : Nat) (H : List Nat → List Nat → St → Option (ByteArray)) (p ns : List Nat) (s : St) : Option (ByteArray) := inFn Tryz.prog sg K 46 0 [] H p ns s
theorem F.pleachref06_tens.in_eq K p ns s : F.pleachref06_tens.at K p ns s = F.pleachref06_tens.in K (F.pleachref06_tens.at K) p ns s := atFn_eq (P := Tryz.prog) (sg := sg) (K := K) (f := 46) (m := 0) [] p ns s
theorem F.pleachref06_tens.in_main K a0 : F.pleachref06_tens (K + 1) a0 = F.pleachref06_tens.in K (F.pleachref06_tens.at K) [] [] ⟨slots [.sc (.val (.int .u64 a0))] 0, []⟩ := evFn_eq (P := Tryz.prog) (sg := sg) (K := K) (f := 46) (args := [.sc (.val (.int .u64 a0))]) (σ := []) [] (by kernel_rfl)
def F.pleachref06_tens.l1100.st (a0 : Int) (x0 : Int) (x1 : ByteArray) : St := ⟨[(0, .one (.sc (.val (.int .u64 x0)))), (3, vS x1)], []⟩
noncomputable def F.pleachref06_tens.l1100 (K n0 : Nat) (a0 : Int) (x0 : Int) (x1 : ByteArray) := F.pleachref06_tens.at K [1, 1, 0, 0] [n0] (F.pleachref06_tens.l1100.st a0 x0 x1)
noncomputable def F.pleachref06_tens.l1100.B (c0 : (Int) → Option (ByteArray)) (c1 : (Int) → (Int) → (ByteArray) → Option (ByteArray)) (a0 : Int) (x0 : Int) (x1 : ByteArray) : Option (ByteArray) :=
    (bif (decide (x0 > 0)) then ((c0 (w64 (Int.tmod x0 10))).bind fun t0 => (guardK (decide (t0.size + x1.size ≤ i64max)) (c1 a0 (IntKind.wrap .u64 (Int.tdiv x0 10)) (t0 ++ x1)))) else (some x1))
theorem F.pleachref06_tens.l1100.eq K n0 a0 x0 x1 : F.pleachref06_tens.l1100 K (n0 + 1) a0 x0 x1 = F.pleachref06_tens.l1100.B (F.pleachref06_tail K) (F.pleachref06_tens.l1100 K n0) a0 x0 x1 := (F.pleachref06_tens.in_eq K [1, 1, 0, 0] [n0 + 1] (F.pleachref06_tens.l1100.st a0 x0 x1)).trans ((show ∀ H, F.pleachref06_tens.in K H [1, 1, 0, 0] [n0 + 1] (F.pleachref06_tens.l1100.st a0 x0 x1) = F.pleachref06_tens.l1100.B (F.pleachref06_tail K) (fun a0 x0 x1 => H [1, 1, 0, 0] [n0] (F.pleachref06_tens.l1100.st a0 x0 x1)) a0 x0 x1 from by intro H; kernel_rfl) (F.pleachref06_tens.at K))
noncomputable def F.pleachref06_tens.B (c0 : (Int) → (Int) → (ByteArray) → Option (ByteArray)) (a0 : Int) : Option (ByteArray) :=
    (c0 a0 a0 (⟨#[]⟩ : ByteArray))
theorem F.pleachref06_tens.eq K a0 : F.pleachref06_tens (K + 1) a0 = F.pleachref06_tens.B (F.pleachref06_tens.l1100 K K) a0 := (F.pleachref06_tens.in_main K a0).trans ((show ∀ H, F.pleachref06_tens.in K H [] [] ⟨slots [.sc (.val (.int .u64 a0))] 0, []⟩ = F.pleachref06_tens.B (fun a0 x0 x1 => H [1, 1, 0, 0] [K] (F.pleachref06_tens.l1100.st a0 x0 x1)) a0 from by intro H; kernel_rfl) (F.pleachref06_tens.at K))
noncomputable def V.pleachref06_tens.l1100 (a0 : Int) (x0 : Int) (x1 : ByteArray) := lim fun v => F.pleachref06_tens.l1100 (v 0) (v 1) a0 x0 x1
noncomputable def V.pleachref06_tens (a0 : Int) := lim fun v => F.pleachref06_tens (v 0) a0
theorem V.pleachref06_tens.l1100.of a0 x0 x1 {r} (h : F.pleachref06_tens.l1100.B V.pleachref06_tail V.pleachref06_tens.l1100 a0 x0 x1 = some r) : V.pleachref06_tens.l1100 a0 x0 x1 = some r :=
  App.to (App.step 1 (fun v => F.pleachref06_tens.l1100.eq (v 0) (v 1) a0 x0 x1) (by unfold F.pleachref06_tens.l1100.B; repeat' first | apply App.guard | apply App.cond | exact App.lim | exact App.val | exact App.no | apply App.meet | apply App.ite | refine App.bind ?_ fun _ => ?_)) h
theorem V.pleachref06_tens.of a0 {r} (h : F.pleachref06_tens.B V.pleachref06_tens.l1100 a0 = some r) : V.pleachref06_tens a0 = some r :=
  App.to (App.step 0 (fun v => F.pleachref06_tens.eq (v 0) a0) (by unfold F.pleachref06_tens.B; repeat' first | apply App.guard | apply App.cond | exact App.lim | exact (App.enter 1 App.lim) | exact App.val | exact App.no | apply App.meet | apply App.ite | refine App.bind ?_ fun _ => ?_)) h
noncomputable def F.pleachref06_Digits (K : Nat) (a0 : Int) : Option (ByteArray) := evFn Tryz.prog sg K 19 [.sc (.val (.int .i64 a0))] []
noncomputable def F.pleachref06_Digits.B (c0 : (Int) → Option (ByteArray)) (c1 : (Int) → Option (ByteArray)) (a0 : Int) : Option (ByteArray) :=
    (bif (decide (a0 < 0)) then (bif ((w64 ((w64 (Int.tmod (IntKind.wrap .u64 (w64 (0 - (w64 (a0 + 1))))) 10)) + 1)) == 10) then ((c0 (IntKind.wrap .u64 ((IntKind.wrap .u64 (Int.tdiv (IntKind.wrap .u64 (w64 (0 - (w64 (a0 + 1))))) 10)) + 1))).bind fun t0 => (guardK (decide ((⟨#[45]⟩ : ByteArray).size + t0.size ≤ i64max)) ((c1 0).bind fun t1 => (guardK (decide (((⟨#[45]⟩ : ByteArray) ++ t0).size + t1.size ≤ i64max)) (some (((⟨#[45]⟩ : ByteArray) ++ t0) ++ t1)))))) else ((c0 (IntKind.wrap .u64 (Int.tdiv (IntKind.wrap .u64 (w64 (0 - (w64 (a0 + 1))))) 10))).bind fun t2 => (guardK (decide ((⟨#[45]⟩ : ByteArray).size + t2.size ≤ i64max)) ((c1 (w64 ((w64 (Int.tmod (IntKind.wrap .u64 (w64 (0 - (w64 (a0 + 1))))) 10)) + 1))).bind fun t3 => (guardK (decide (((⟨#[45]⟩ : ByteArray) ++ t2).size + t3.size ≤ i64max)) (some (((⟨#[45]⟩ : ByteArray) ++ t2) ++ t3))))))) else ((c0 (IntKind.wrap .u64 (Int.tdiv (IntKind.wrap .u64 a0) 10))).bind fun t4 => ((c1 (Int.tmod a0 10)).bind fun t5 => (guardK (decide (t4.size + t5.size ≤ i64max)) (some (t4 ++ t5))))))
theorem F.pleachref06_Digits.eq K a0 : F.pleachref06_Digits (K + 1) a0 = F.pleachref06_Digits.B (F.pleachref06_tens K) (F.pleachref06_tail K) a0 := by kernel_rfl
noncomputable def V.pleachref06_Digits (a0 : Int) := lim fun v => F.pleachref06_Digits (v 0) a0
theorem V.pleachref06_Digits.of a0 {r} (h : F.pleachref06_Digits.B V.pleachref06_tens V.pleachref06_tail a0 = some r) : V.pleachref06_Digits a0 = some r :=
  App.to (App.step 0 (fun v => F.pleachref06_Digits.eq (v 0) a0) (by unfold F.pleachref06_Digits.B; repeat' first | apply App.guard | apply App.cond | exact App.lim | exact App.val | exact App.no | apply App.meet | apply App.ite | refine App.bind ?_ fun _ => ?_)) h
noncomputable def F.pleachref06_plain (K : Nat) (a0 : ByteArray) : Option (Bool) := evFn Tryz.prog sg K 78 [.sc (.val (.string a0))] []
noncomputable def F.pleachref06_plain.at (K : Nat) (p ns : List Nat) (s : St) : Option (Bool) := atFn Tryz.prog sg K 78 0 p ns s
noncomputable def F.pleachref06_plain.in (K : Nat) (H : List Nat → List Nat → St → Option (Bool)) (p ns : List Nat) (s : St) : Option (Bool) := inFn Tryz.prog sg K 78 0 [] H p ns s
theorem F.pleachref06_plain.in_eq K p ns s : F.pleachref06_plain.at K p ns s = F.pleachref06_plain.in K (F.pleachref06_plain.at K) p ns s := atFn_eq (P := Tryz.prog) (sg := sg) (K := K) (f := 78) (m := 0) [] p ns s
theorem F.pleachref06_plain.in_main K a0 : F.pleachref06_plain (K + 1) a0 = F.pleachref06_plain.in K (F.pleachref06_plain.at K) [] [] ⟨slots [.sc (.val (.string a0))] 0, []⟩ := evFn_eq (P := Tryz.prog) (sg := sg) (K := K) (f := 78) (args := [.sc (.val (.string a0))]) (σ := []) [] (by kernel_rfl)
def F.pleachref06_plain.l1010.st (a0 : ByteArray) (x0 : Int) : St := ⟨[(0, vS a0), (3, vI x0)], []⟩
noncomputable def F.pleachref06_plain.l1010 (K n0 : Nat) (a0 : ByteArray) (x0 : Int) := F.pleachref06_plain.at K [1, 0, 1, 0] [n0] (F.pleachref06_plain.l1010.st a0 x0)
noncomputable def F.pleachref06_plain.l1010.B (c0 : (ByteArray) → (Int) → Option (Bool)) (a0 : ByteArray) (x0 : Int) : Option (Bool) :=
    (bif (decide (x0 < (a0.size : Int))) then (guardK (decide (0 ≤ x0) && decide (x0 < (a0.size : Int))) (bif (decide ((byteAt a0 x0) ≥ 97)) then (bif (!(decide ((byteAt a0 x0) ≤ 122))) then (bif (decide ((byteAt a0 x0) ≥ 65)) then (bif (!(decide ((byteAt a0 x0) ≤ 90))) then (bif (decide ((byteAt a0 x0) ≥ 48)) then (bif (!(decide ((byteAt a0 x0) ≤ 57))) then (bif ((byteAt a0 x0) != 45) then (bif ((byteAt a0 x0) != 46) then (bif ((byteAt a0 x0) != 95) then (some false) else (c0 a0 (w64 (x0 + 1)))) else (c0 a0 (w64 (x0 + 1)))) else (c0 a0 (w64 (x0 + 1)))) else (c0 a0 (w64 (x0 + 1)))) else (bif ((byteAt a0 x0) != 45) then (bif ((byteAt a0 x0) != 46) then (bif ((byteAt a0 x0) != 95) then (some false) else (c0 a0 (w64 (x0 + 1)))) else (c0 a0 (w64 (x0 + 1)))) else (c0 a0 (w64 (x0 + 1))))) else (c0 a0 (w64 (x0 + 1)))) else (bif (decide ((byteAt a0 x0) ≥ 48)) then (bif (!(decide ((byteAt a0 x0) ≤ 57))) then (bif ((byteAt a0 x0) != 45) then (bif ((byteAt a0 x0) != 46) then (bif ((byteAt a0 x0) != 95) then (some false) else (c0 a0 (w64 (x0 + 1)))) else (c0 a0 (w64 (x0 + 1)))) else (c0 a0 (w64 (x0 + 1)))) else (c0 a0 (w64 (x0 + 1)))) else (bif ((byteAt a0 x0) != 45) then (bif ((byteAt a0 x0) != 46) then (bif ((byteAt a0 x0) != 95) then (some false) else (c0 a0 (w64 (x0 + 1)))) else (c0 a0 (w64 (x0 + 1)))) else (c0 a0 (w64 (x0 + 1)))))) else (c0 a0 (w64 (x0 + 1)))) else (bif (decide ((byteAt a0 x0) ≥ 65)) then (bif (!(decide ((byteAt a0 x0) ≤ 90))) then (bif (decide ((byteAt a0 x0) ≥ 48)) then (bif (!(decide ((byteAt a0 x0) ≤ 57))) then (bif ((byteAt a0 x0) != 45) then (bif ((byteAt a0 x0) != 46) then (bif ((byteAt a0 x0) != 95) then (some false) else (c0 a0 (w64 (x0 + 1)))) else (c0 a0 (w64 (x0 + 1)))) else (c0 a0 (w64 (x0 + 1)))) else (c0 a0 (w64 (x0 + 1)))) else (bif ((byteAt a0 x0) != 45) then (bif ((byteAt a0 x0) != 46) then (bif ((byteAt a0 x0) != 95) then (some false) else (c0 a0 (w64 (x0 + 1)))) else (c0 a0 (w64 (x0 + 1)))) else (c0 a0 (w64 (x0 + 1))))) else (c0 a0 (w64 (x0 + 1)))) else (bif (decide ((byteAt a0 x0) ≥ 48)) then (bif (!(decide ((byteAt a0 x0) ≤ 57))) then (bif ((byteAt a0 x0) != 45) then (bif ((byteAt a0 x0) != 46) then (bif ((byteAt a0 x0) != 95) then (some false) else (c0 a0 (w64 (x0 + 1)))) else (c0 a0 (w64 (x0 + 1)))) else (c0 a0 (w64 (x0 + 1)))) else (c0 a0 (w64 (x0 + 1)))) else (bif ((byteAt a0 x0) != 45) then (bif ((byteAt a0 x0) != 46) then (bif ((byteAt a0 x0) != 95) then (some false) else (c0 a0 (w64 (x0 + 1)))) else (c0 a0 (w64 (x0 + 1)))) else (c0 a0 (w64 (x0 + 1)))))))) else (some true))
theorem F.pleachref06_plain.l1010.eq K n0 a0 x0 : F.pleachref06_plain.l1010 K (n0 + 1) a0 x0 = F.pleachref06_plain.l1010.B (F.pleachref06_plain.l1010 K n0) a0 x0 := (F.pleachref06_plain.in_eq K [1, 0, 1, 0] [n0 + 1] (F.pleachref06_plain.l1010.st a0 x0)).trans ((show ∀ H, F.pleachref06_plain.in K H [1, 0, 1, 0] [n0 + 1] (F.pleachref06_plain.l1010.st a0 x0) = F.pleachref06_plain.l1010.B (fun a0 x0 => H [1, 0, 1, 0] [n0] (F.pleachref06_plain.l1010.st a0 x0)) a0 x0 from by intro H; kernel_rfl) (F.pleachref06_plain.at K))
noncomputable def F.pleachref06_plain.B (c0 : (ByteArray) → (Int) → Option (Bool)) (a0 : ByteArray) : Option (Bool) :=
    (c0 a0 0)
theorem F.pleachref06_plain.eq K a0 : F.pleachref06_plain (K + 1) a0 = F.pleachref06_plain.B (F.pleachref06_plain.l1010 K K) a0 := (F.pleachref06_plain.in_main K a0).trans ((show ∀ H, F.pleachref06_plain.in K H [] [] ⟨slots [.sc (.val (.string a0))] 0, []⟩ = F.pleachref06_plain.B (fun a0 x0 => H [1, 0, 1, 0] [K] (F.pleachref06_plain.l1010.st a0 x0)) a0 from by intro H; kernel_rfl) (F.pleachref06_plain.at K))
noncomputable def V.pleachref06_plain.l1010 (a0 : ByteArray) (x0 : Int) := lim fun v => F.pleachref06_plain.l1010 (v 0) (v 1) a0 x0
noncomputable def V.pleachref06_plain (a0 : ByteArray) := lim fun v => F.pleachref06_plain (v 0) a0
theorem V.pleachref06_plain.l1010.of a0 x0 {r} (h : F.pleachref06_plain.l1010.B V.pleachref06_plain.l1010 a0 x0 = some r) : V.pleachref06_plain.l1010 a0 x0 = some r :=
  App.to (App.step 1 (fun v => F.pleachref06_plain.l1010.eq (v 0) (v 1) a0 x0) (by unfold F.pleachref06_plain.l1010.B; repeat' first | apply App.guard | apply App.cond | exact App.lim | exact App.val | exact App.no | apply App.meet | apply App.ite | refine App.bind ?_ fun _ => ?_)) h
theorem V.pleachref06_plain.of a0 {r} (h : F.pleachref06_plain.B V.pleachref06_plain.l1010 a0 = some r) : V.pleachref06_plain a0 = some r :=
  App.to (App.step 0 (fun v => F.pleachref06_plain.eq (v 0) a0) (by unfold F.pleachref06_plain.B; repeat' first | apply App.guard | apply App.cond | exact App.lim | exact (App.enter 1 App.lim) | exact App.val | exact App.no | apply App.meet | apply App.ite | refine App.bind ?_ fun _ => ?_)) h
noncomputable def F.pleachref03_Hex (K : Nat) (a0 : ByteArray) : Option (ByteArray) := evFn Tryz.prog sg K 79 [.sc (.val (.string a0))] []
noncomputable def F.pleachref03_Hex.at (K : Nat) (p ns : List Nat) (s : St) : Option (ByteArray) := atFn Tryz.prog sg K 79 0 p ns s
noncomputable def F.pleachref03_Hex.in (K : Nat) (H : List Nat → List Nat → St → Option (ByteArray)) (p ns : List Nat) (s : St) : Option (ByteArray) := inFn Tryz.prog sg K 79 0 [] H p ns s
theorem F.pleachref03_Hex.in_eq K p ns s : F.pleachref03_Hex.at K p ns s = F.pleachref03_Hex.in K (F.pleachref03_Hex.at K) p ns s := atFn_eq (P := Tryz.prog) (sg := sg) (K := K) (f := 79) (m := 0) [] p ns s
theorem F.pleachref03_Hex.in_main K a0 : F.pleachref03_Hex (K + 1) a0 = F.pleachref03_Hex.in K (F.pleachref03_Hex.at K) [] [] ⟨slots [.sc (.val (.string a0))] 0, []⟩ := evFn_eq (P := Tryz.prog) (sg := sg) (K := K) (f := 79) (args := [.sc (.val (.string a0))]) (σ := []) [] (by kernel_rfl)
def F.pleachref03_Hex.l111010.st (a0 : ByteArray) (x0 : ByteArray) (x1 : Int) : St := ⟨[(0, vS a0), (3, vS (⟨#[48, 49, 50, 51, 52, 53, 54, 55, 56, 57, 97, 98, 99, 100, 101, 102]⟩ : ByteArray)), (4, vS x0), (5, vI x1)], []⟩
noncomputable def F.pleachref03_Hex.l111010 (K n0 : Nat) (a0 : ByteArray) (x0 : ByteArray) (x1 : Int) := F.pleachref03_Hex.at K [1, 1, 1, 0, 1, 0] [n0] (F.pleachref03_Hex.l111010.st a0 x0 x1)
noncomputable def F.pleachref03_Hex.l111010.B (c0 : (ByteArray) → (ByteArray) → (Int) → Option (ByteArray)) (a0 : ByteArray) (x0 : ByteArray) (x1 : Int) : Option (ByteArray) :=
    (bif (decide (x1 < (a0.size : Int))) then (guardK (decide (0 ≤ x1) && decide (x1 < (a0.size : Int))) (guardK (decide (0 ≤ x1) && decide (x1 < (a0.size : Int))) (guardK (decide (0 ≤ (w64 (Int.tdiv (w64 (byteAt a0 x1)) 16))) && decide ((w64 (Int.tdiv (w64 (byteAt a0 x1)) 16)) ≤ (w64 ((w64 (Int.tdiv (w64 (byteAt a0 x1)) 16)) + 1))) && decide ((w64 ((w64 (Int.tdiv (w64 (byteAt a0 x1)) 16)) + 1)) ≤ ((⟨#[48, 49, 50, 51, 52, 53, 54, 55, 56, 57, 97, 98, 99, 100, 101, 102]⟩ : ByteArray).size : Int))) (guardK (decide (x0.size + ((⟨#[48, 49, 50, 51, 52, 53, 54, 55, 56, 57, 97, 98, 99, 100, 101, 102]⟩ : ByteArray).extract (w64 (Int.tdiv (w64 (byteAt a0 x1)) 16)).toNat (w64 ((w64 (Int.tdiv (w64 (byteAt a0 x1)) 16)) + 1)).toNat).size ≤ i64max)) (guardK (decide (0 ≤ (Int.tmod (w64 (byteAt a0 x1)) 16)) && decide ((Int.tmod (w64 (byteAt a0 x1)) 16) ≤ (w64 ((Int.tmod (w64 (byteAt a0 x1)) 16) + 1))) && decide ((w64 ((Int.tmod (w64 (byteAt a0 x1)) 16) + 1)) ≤ ((⟨#[48, 49, 50, 51, 52, 53, 54, 55, 56, 57, 97, 98, 99, 100, 101, 102]⟩ : ByteArray).size : Int))) (guardK (decide ((x0 ++ ((⟨#[48, 49, 50, 51, 52, 53, 54, 55, 56, 57, 97, 98, 99, 100, 101, 102]⟩ : ByteArray).extract (w64 (Int.tdiv (w64 (byteAt a0 x1)) 16)).toNat (w64 ((w64 (Int.tdiv (w64 (byteAt a0 x1)) 16)) + 1)).toNat)).size + ((⟨#[48, 49, 50, 51, 52, 53, 54, 55, 56, 57, 97, 98, 99, 100, 101, 102]⟩ : ByteArray).extract (Int.tmod (w64 (byteAt a0 x1)) 16).toNat (w64 ((Int.tmod (w64 (byteAt a0 x1)) 16) + 1)).toNat).size ≤ i64max)) (c0 a0 ((x0 ++ ((⟨#[48, 49, 50, 51, 52, 53, 54, 55, 56, 57, 97, 98, 99, 100, 101, 102]⟩ : ByteArray).extract (w64 (Int.tdiv (w64 (byteAt a0 x1)) 16)).toNat (w64 ((w64 (Int.tdiv (w64 (byteAt a0 x1)) 16)) + 1)).toNat)) ++ ((⟨#[48, 49, 50, 51, 52, 53, 54, 55, 56, 57, 97, 98, 99, 100, 101, 102]⟩ : ByteArray).extract (Int.tmod (w64 (byteAt a0 x1)) 16).toNat (w64 ((Int.tmod (w64 (byteAt a0 x1)) 16) + 1)).toNat)) (w64 (x1 + 1))))))))) else (some x0))
theorem F.pleachref03_Hex.l111010.eq K n0 a0 x0 x1 : F.pleachref03_Hex.l111010 K (n0 + 1) a0 x0 x1 = F.pleachref03_Hex.l111010.B (F.pleachref03_Hex.l111010 K n0) a0 x0 x1 := (F.pleachref03_Hex.in_eq K [1, 1, 1, 0, 1, 0] [n0 + 1] (F.pleachref03_Hex.l111010.st a0 x0 x1)).trans ((show ∀ H, F.pleachref03_Hex.in K H [1, 1, 1, 0, 1, 0] [n0 + 1] (F.pleachref03_Hex.l111010.st a0 x0 x1) = F.pleachref03_Hex.l111010.B (fun a0 x0 x1 => H [1, 1, 1, 0, 1, 0] [n0] (F.pleachref03_Hex.l111010.st a0 x0 x1)) a0 x0 x1 from by intro H; kernel_rfl) (F.pleachref03_Hex.at K))
noncomputable def F.pleachref03_Hex.B (c0 : (ByteArray) → (ByteArray) → (Int) → Option (ByteArray)) (a0 : ByteArray) : Option (ByteArray) :=
    (c0 a0 (⟨#[]⟩ : ByteArray) 0)
theorem F.pleachref03_Hex.eq K a0 : F.pleachref03_Hex (K + 1) a0 = F.pleachref03_Hex.B (F.pleachref03_Hex.l111010 K K) a0 := (F.pleachref03_Hex.in_main K a0).trans ((show ∀ H, F.pleachref03_Hex.in K H [] [] ⟨slots [.sc (.val (.string a0))] 0, []⟩ = F.pleachref03_Hex.B (fun a0 x0 x1 => H [1, 1, 1, 0, 1, 0] [K] (F.pleachref03_Hex.l111010.st a0 x0 x1)) a0 from by intro H; kernel_rfl) (F.pleachref03_Hex.at K))
noncomputable def V.pleachref03_Hex.l111010 (a0 : ByteArray) (x0 : ByteArray) (x1 : Int) := lim fun v => F.pleachref03_Hex.l111010 (v 0) (v 1) a0 x0 x1
noncomputable def V.pleachref03_Hex (a0 : ByteArray) := lim fun v => F.pleachref03_Hex (v 0) a0
theorem V.pleachref03_Hex.l111010.of a0 x0 x1 {r} (h : F.pleachref03_Hex.l111010.B V.pleachref03_Hex.l111010 a0 x0 x1 = some r) : V.pleachref03_Hex.l111010 a0 x0 x1 = some r :=
  App.to (App.step 1 (fun v => F.pleachref03_Hex.l111010.eq (v 0) (v 1) a0 x0 x1) (by unfold F.pleachref03_Hex.l111010.B; repeat' first | apply App.guard | apply App.cond | exact App.lim | exact App.val | exact App.no | apply App.meet | apply App.ite | refine App.bind ?_ fun _ => ?_)) h
theorem V.pleachref03_Hex.of a0 {r} (h : F.pleachref03_Hex.B V.pleachref03_Hex.l111010 a0 = some r) : V.pleachref03_Hex a0 = some r :=
  App.to (App.step 0 (fun v => F.pleachref03_Hex.eq (v 0) a0) (by unfold F.pleachref03_Hex.B; repeat' first | apply App.guard | apply App.cond | exact App.lim | exact (App.enter 1 App.lim) | exact App.val | exact App.no | apply App.meet | apply App.ite | refine App.bind ?_ fun _ => ?_)) h
noncomputable def F.pleachref06_Show (K : Nat) (a0 : TValue) : Option (ByteArray) := evFn Tryz.prog sg K 44 [.agg [.val (.int .i64 a0.1), .val (.int .i64 a0.2.1), .val (.string a0.2.2)]] []
noncomputable def F.pleachref06_Show.B (c0 : (TValue) → Option (Bool)) (c1 : (Int) → Option (ByteArray)) (c2 : (ByteArray) → Option (Bool)) (c3 : (ByteArray) → Option (ByteArray)) (a0 : TValue) : Option (ByteArray) :=
    ((c0 (a0.1, a0.2.1, a0.2.2)).bind fun t0 => (bif (!t0) then (some (⟨#[]⟩ : ByteArray)) else (bif (a0.1 == 1) then (bif (a0.2.1 == 1) then (some (⟨#[116, 114, 117, 101]⟩ : ByteArray)) else (bif (a0.1 == 1) then (some (⟨#[102, 97, 108, 115, 101]⟩ : ByteArray)) else (bif (a0.1 == 2) then ((c1 a0.2.1).bind fun t1 => (some t1)) else ((c2 a0.2.2).bind fun t2 => (bif t2 then (guardK (decide ((⟨#[39]⟩ : ByteArray).size + a0.2.2.size ≤ i64max)) (some ((⟨#[39]⟩ : ByteArray) ++ a0.2.2))) else ((c3 a0.2.2).bind fun t3 => (guardK (decide ((⟨#[35]⟩ : ByteArray).size + t3.size ≤ i64max)) (some ((⟨#[35]⟩ : ByteArray) ++ t3))))))))) else (bif (a0.1 == 1) then (some (⟨#[102, 97, 108, 115, 101]⟩ : ByteArray)) else (bif (a0.1 == 2) then ((c1 a0.2.1).bind fun t4 => (some t4)) else ((c2 a0.2.2).bind fun t5 => (bif t5 then (guardK (decide ((⟨#[39]⟩ : ByteArray).size + a0.2.2.size ≤ i64max)) (some ((⟨#[39]⟩ : ByteArray) ++ a0.2.2))) else ((c3 a0.2.2).bind fun t6 => (guardK (decide ((⟨#[35]⟩ : ByteArray).size + t6.size ≤ i64max)) (some ((⟨#[35]⟩ : ByteArray) ++ t6)))))))))))
theorem F.pleachref06_Show.eq K a0 : F.pleachref06_Show (K + 1) a0 = F.pleachref06_Show.B (F.pleachref06_Is K) (F.pleachref06_Digits K) (F.pleachref06_plain K) (F.pleachref03_Hex K) a0 := by kernel_rfl
noncomputable def V.pleachref06_Show (a0 : TValue) := lim fun v => F.pleachref06_Show (v 0) a0
theorem V.pleachref06_Show.of a0 {r} (h : F.pleachref06_Show.B V.pleachref06_Is V.pleachref06_Digits V.pleachref06_plain V.pleachref03_Hex a0 = some r) : V.pleachref06_Show a0 = some r :=
  App.to (App.step 0 (fun v => F.pleachref06_Show.eq (v 0) a0) (by unfold F.pleachref06_Show.B; repeat' first | apply App.guard | apply App.cond | exact App.lim | exact App.val | exact App.no | apply App.meet | apply App.ite | refine App.bind ?_ fun _ => ?_)) h
noncomputable def F.pleachref03_place (K : Nat) (a0 : Int) : Option (Int) := evFn Tryz.prog sg K 76 [.sc (.val (.int .u8 a0))] []
noncomputable def F.pleachref03_place.at (K : Nat) (p ns : List Nat) (s : St) : Option (Int) := atFn Tryz.prog sg K 76 0 p ns s
noncomputable def F.pleachref03_place.in (K : Nat) (H : List Nat → List Nat → St → Option (Int)) (p ns : List Nat) (s : St) : Option (Int) := inFn Tryz.prog sg K 76 0 [] H p ns s
theorem F.pleachref03_place.in_eq K p ns s : F.pleachref03_place.at K p ns s = F.pleachref03_place.in K (F.pleachref03_place.at K) p ns s := atFn_eq (P := Tryz.prog) (sg := sg) (K := K) (f := 76) (m := 0) [] p ns s
theorem F.pleachref03_place.in_main K a0 : F.pleachref03_place (K + 1) a0 = F.pleachref03_place.in K (F.pleachref03_place.at K) [] [] ⟨slots [.sc (.val (.int .u8 a0))] 0, []⟩ := evFn_eq (P := Tryz.prog) (sg := sg) (K := K) (f := 76) (args := [.sc (.val (.int .u8 a0))]) (σ := []) [] (by kernel_rfl)
def F.pleachref03_place.l11010.st (a0 : Int) (x0 : Int) : St := ⟨[(0, .one (.sc (.val (.int .u8 a0)))), (3, vS (⟨#[48, 49, 50, 51, 52, 53, 54, 55, 56, 57, 97, 98, 99, 100, 101, 102]⟩ : ByteArray)), (4, vI x0)], []⟩
noncomputable def F.pleachref03_place.l11010 (K n0 : Nat) (a0 : Int) (x0 : Int) := F.pleachref03_place.at K [1, 1, 0, 1, 0] [n0] (F.pleachref03_place.l11010.st a0 x0)
noncomputable def F.pleachref03_place.l11010.B (c0 : (Int) → (Int) → Option (Int)) (a0 : Int) (x0 : Int) : Option (Int) :=
    (bif (decide (x0 < 16)) then (guardK (decide (0 ≤ x0) && decide (x0 < ((⟨#[48, 49, 50, 51, 52, 53, 54, 55, 56, 57, 97, 98, 99, 100, 101, 102]⟩ : ByteArray).size : Int))) (bif ((byteAt (⟨#[48, 49, 50, 51, 52, 53, 54, 55, 56, 57, 97, 98, 99, 100, 101, 102]⟩ : ByteArray) x0) == a0) then (some x0) else (c0 a0 (w64 (x0 + 1))))) else (some 16))
theorem F.pleachref03_place.l11010.eq K n0 a0 x0 : F.pleachref03_place.l11010 K (n0 + 1) a0 x0 = F.pleachref03_place.l11010.B (F.pleachref03_place.l11010 K n0) a0 x0 := (F.pleachref03_place.in_eq K [1, 1, 0, 1, 0] [n0 + 1] (F.pleachref03_place.l11010.st a0 x0)).trans ((show ∀ H, F.pleachref03_place.in K H [1, 1, 0, 1, 0] [n0 + 1] (F.pleachref03_place.l11010.st a0 x0) = F.pleachref03_place.l11010.B (fun a0 x0 => H [1, 1, 0, 1, 0] [n0] (F.pleachref03_place.l11010.st a0 x0)) a0 x0 from by intro H; kernel_rfl) (F.pleachref03_place.at K))
noncomputable def F.pleachref03_place.B (c0 : (Int) → (Int) → Option (Int)) (a0 : Int) : Option (Int) :=
    (c0 a0 0)
theorem F.pleachref03_place.eq K a0 : F.pleachref03_place (K + 1) a0 = F.pleachref03_place.B (F.pleachref03_place.l11010 K K) a0 := (F.pleachref03_place.in_main K a0).trans ((show ∀ H, F.pleachref03_place.in K H [] [] ⟨slots [.sc (.val (.int .u8 a0))] 0, []⟩ = F.pleachref03_place.B (fun a0 x0 => H [1, 1, 0, 1, 0] [K] (F.pleachref03_place.l11010.st a0 x0)) a0 from by intro H; kernel_rfl) (F.pleachref03_place.at K))
noncomputable def V.pleachref03_place.l11010 (a0 : Int) (x0 : Int) := lim fun v => F.pleachref03_place.l11010 (v 0) (v 1) a0 x0
noncomputable def V.pleachref03_place (a0 : Int) := lim fun v => F.pleachref03_place (v 0) a0
theorem V.pleachref03_place.l11010.of a0 x0 {r} (h : F.pleachref03_place.l11010.B V.pleachref03_place.l11010 a0 x0 = some r) : V.pleachref03_place.l11010 a0 x0 = some r :=
  App.to (App.step 1 (fun v => F.pleachref03_place.l11010.eq (v 0) (v 1) a0 x0) (by unfold F.pleachref03_place.l11010.B; repeat' first | apply App.guard | apply App.cond | exact App.lim | exact App.val | exact App.no | apply App.meet | apply App.ite | refine App.bind ?_ fun _ => ?_)) h
theorem V.pleachref03_place.of a0 {r} (h : F.pleachref03_place.B V.pleachref03_place.l11010 a0 = some r) : V.pleachref03_place a0 = some r :=
  App.to (App.step 0 (fun v => F.pleachref03_place.eq (v 0) a0) (by unfold F.pleachref03_place.B; repeat' first | apply App.guard | apply App.cond | exact App.lim | exact (App.enter 1 App.lim) | exact App.val | exact App.no | apply App.meet | apply App.ite | refine App.bind ?_ fun _ => ?_)) h
noncomputable def F.pleachref03_Unhex (K : Nat) (a0 : ByteArray) : Option (ByteArray × Bool) := evFn Tryz.prog sg K 42 [.sc (.val (.string a0))] []
noncomputable def F.pleachref03_Unhex.at (K : Nat) (p ns : List Nat) (s : St) : Option (ByteArray × Bool) := atFn Tryz.prog sg K 42 0 p ns s
noncomputable def F.pleachref03_Unhex.in (K : Nat) (H : List Nat → List Nat → St → Option (ByteArray × Bool)) (p ns : List Nat) (s : St) : Option (ByteArray × Bool) := inFn Tryz.prog sg K 42 0 [] H p ns s
theorem F.pleachref03_Unhex.in_eq K p ns s : F.pleachref03_Unhex.at K p ns s = F.pleachref03_Unhex.in K (F.pleachref03_Unhex.at K) p ns s := atFn_eq (P := Tryz.prog) (sg := sg) (K := K) (f := 42) (m := 0) [] p ns s
theorem F.pleachref03_Unhex.in_main K a0 : F.pleachref03_Unhex (K + 1) a0 = F.pleachref03_Unhex.in K (F.pleachref03_Unhex.at K) [] [] ⟨slots [.sc (.val (.string a0))] 0, []⟩ := evFn_eq (P := Tryz.prog) (sg := sg) (K := K) (f := 42) (args := [.sc (.val (.string a0))]) (σ := []) [] (by kernel_rfl)
def F.pleachref03_Unhex.l11010.st (a0 : ByteArray) (x0 : ByteArray) (x1 : Int) : St := ⟨[(0, vS a0), (4, vS x0), (5, vI x1)], []⟩
noncomputable def F.pleachref03_Unhex.l11010 (K n0 : Nat) (a0 : ByteArray) (x0 : ByteArray) (x1 : Int) := F.pleachref03_Unhex.at K [1, 1, 0, 1, 0] [n0] (F.pleachref03_Unhex.l11010.st a0 x0 x1)
noncomputable def F.pleachref03_Unhex.l11010.B (c0 : (Int) → Option (Int)) (c1 : (ByteArray) → (ByteArray) → (Int) → Option (ByteArray × Bool)) (a0 : ByteArray) (x0 : ByteArray) (x1 : Int) : Option (ByteArray × Bool) :=
    (bif (decide ((w64 (x1 + 1)) < (a0.size : Int))) then (guardK (decide (0 ≤ x1) && decide (x1 < (a0.size : Int))) (guardK (decide (0 ≤ (w64 (x1 + 1))) && decide ((w64 (x1 + 1)) < (a0.size : Int))) ((c0 (byteAt a0 x1)).bind fun t0 => ((c0 (byteAt a0 (w64 (x1 + 1)))).bind fun t1 => (bif (decide (t0 > 15)) then (some ((⟨#[]⟩ : ByteArray), false)) else (bif (decide (t1 > 15)) then (some ((⟨#[]⟩ : ByteArray), false)) else (guardK (decide (x0.size + (bytesOf ([(IntKind.wrap .u8 (w64 ((w64 (16 * t0)) + t1)))])).size ≤ i64max)) (c1 a0 (x0 ++ (bytesOf ([(IntKind.wrap .u8 (w64 ((w64 (16 * t0)) + t1)))]))) (w64 (x1 + 2)))))))))) else (bif ((Int.tmod (a0.size : Int) 2) != 0) then (some ((⟨#[]⟩ : ByteArray), false)) else (some (x0, true))))
theorem F.pleachref03_Unhex.l11010.eq K n0 a0 x0 x1 : F.pleachref03_Unhex.l11010 K (n0 + 1) a0 x0 x1 = F.pleachref03_Unhex.l11010.B (F.pleachref03_place K) (F.pleachref03_Unhex.l11010 K n0) a0 x0 x1 := (F.pleachref03_Unhex.in_eq K [1, 1, 0, 1, 0] [n0 + 1] (F.pleachref03_Unhex.l11010.st a0 x0 x1)).trans ((show ∀ H, F.pleachref03_Unhex.in K H [1, 1, 0, 1, 0] [n0 + 1] (F.pleachref03_Unhex.l11010.st a0 x0 x1) = F.pleachref03_Unhex.l11010.B (F.pleachref03_place K) (fun a0 x0 x1 => H [1, 1, 0, 1, 0] [n0] (F.pleachref03_Unhex.l11010.st a0 x0 x1)) a0 x0 x1 from by intro H; kernel_rfl) (F.pleachref03_Unhex.at K))
noncomputable def F.pleachref03_Unhex.B (c0 : (ByteArray) → (ByteArray) → (Int) → Option (ByteArray × Bool)) (a0 : ByteArray) : Option (ByteArray × Bool) :=
    (c0 a0 (⟨#[]⟩ : ByteArray) 0)
theorem F.pleachref03_Unhex.eq K a0 : F.pleachref03_Unhex (K + 1) a0 = F.pleachref03_Unhex.B (F.pleachref03_Unhex.l11010 K K) a0 := (F.pleachref03_Unhex.in_main K a0).trans ((show ∀ H, F.pleachref03_Unhex.in K H [] [] ⟨slots [.sc (.val (.string a0))] 0, []⟩ = F.pleachref03_Unhex.B (fun a0 x0 x1 => H [1, 1, 0, 1, 0] [K] (F.pleachref03_Unhex.l11010.st a0 x0 x1)) a0 from by intro H; kernel_rfl) (F.pleachref03_Unhex.at K))
noncomputable def V.pleachref03_Unhex.l11010 (a0 : ByteArray) (x0 : ByteArray) (x1 : Int) := lim fun v => F.pleachref03_Unhex.l11010 (v 0) (v 1) a0 x0 x1
noncomputable def V.pleachref03_Unhex (a0 : ByteArray) := lim fun v => F.pleachref03_Unhex (v 0) a0
theorem V.pleachref03_Unhex.l11010.of a0 x0 x1 {r} (h : F.pleachref03_Unhex.l11010.B V.pleachref03_place V.pleachref03_Unhex.l11010 a0 x0 x1 = some r) : V.pleachref03_Unhex.l11010 a0 x0 x1 = some r :=
  App.to (App.step 1 (fun v => F.pleachref03_Unhex.l11010.eq (v 0) (v 1) a0 x0 x1) (by unfold F.pleachref03_Unhex.l11010.B; repeat' first | apply App.guard | apply App.cond | exact App.lim | exact App.val | exact App.no | apply App.meet | apply App.ite | refine App.bind ?_ fun _ => ?_)) h
theorem V.pleachref03_Unhex.of a0 {r} (h : F.pleachref03_Unhex.B V.pleachref03_Unhex.l11010 a0 = some r) : V.pleachref03_Unhex a0 = some r :=
  App.to (App.step 0 (fun v => F.pleachref03_Unhex.eq (v 0) a0) (by unfold F.pleachref03_Unhex.B; repeat' first | apply App.guard | apply App.cond | exact App.lim | exact (App.enter 1 App.lim) | exact App.val | exact App.no | apply App.meet | apply App.ite | refine App.bind ?_ fun _ => ?_)) h
noncomputable def F.pleachref06_number (K : Nat) (a0 : ByteArray) : Option (Int × Bool) := evFn Tryz.prog sg K 43 [.sc (.val (.string a0))] []
noncomputable def F.pleachref06_number.at (K : Nat) (p ns : List Nat) (s : St) : Option (Int × Bool) := atFn Tryz.prog sg K 43 0 p ns s
noncomputable def F.pleachref06_number.in (K : Nat) (H : List Nat → List Nat → St → Option (Int × Bool)) (p ns : List Nat) (s : St) : Option (Int × Bool) := inFn Tryz.prog sg K 43 0 [] H p ns s
theorem F.pleachref06_number.in_eq K p ns s : F.pleachref06_number.at K p ns s = F.pleachref06_number.in K (F.pleachref06_number.at K) p ns s := atFn_eq (P := Tryz.prog) (sg := sg) (K := K) (f := 43) (m := 0) [] p ns s
theorem F.pleachref06_number.in_main K a0 : F.pleachref06_number (K + 1) a0 = F.pleachref06_number.in K (F.pleachref06_number.at K) [] [] ⟨slots [.sc (.val (.string a0))] 0, []⟩ := evFn_eq (P := Tryz.prog) (sg := sg) (K := K) (f := 43) (args := [.sc (.val (.string a0))]) (σ := []) [] (by kernel_rfl)
def F.pleachref06_number.l1111010.st (a0 : ByteArray) (x0 : Int) (x1 : Int) : St := ⟨[(0, vS a0), (4, vB ((byteAt a0 0) == 45)), (5, vI x0), (6, vI x1)], []⟩
noncomputable def F.pleachref06_number.l1111010 (K n0 : Nat) (a0 : ByteArray) (x0 : Int) (x1 : Int) := F.pleachref06_number.at K [1, 1, 1, 1, 0, 1, 0] [n0] (F.pleachref06_number.l1111010.st a0 x0 x1)
noncomputable def F.pleachref06_number.l1111010.B (c0 : (ByteArray) → (Int) → (Int) → Option (Int × Bool)) (a0 : ByteArray) (x0 : Int) (x1 : Int) : Option (Int × Bool) :=
    (bif (decide (x1 < (a0.size : Int))) then (bif (x1 == 0) then (bif ((byteAt a0 0) == 45) then (c0 a0 x0 (w64 (x1 + 1))) else (guardK (decide (0 ≤ x1) && decide (x1 < (a0.size : Int))) (bif (decide ((byteAt a0 x1) < 48)) then (some (0, false)) else (guardK (decide (0 ≤ x1) && decide (x1 < (a0.size : Int))) (bif (decide ((byteAt a0 x1) > 57)) then (some (0, false)) else (guardK (decide (0 ≤ x1) && decide (x1 < (a0.size : Int))) (bif ((byteAt a0 0) == 45) then (c0 a0 (w64 ((w64 (x0 * 10)) - (w64 ((w64 (byteAt a0 x1)) - 48)))) (w64 (x1 + 1))) else (c0 a0 (w64 ((w64 (x0 * 10)) + (w64 ((w64 (byteAt a0 x1)) - 48)))) (w64 (x1 + 1)))))))))) else (guardK (decide (0 ≤ x1) && decide (x1 < (a0.size : Int))) (bif (decide ((byteAt a0 x1) < 48)) then (some (0, false)) else (guardK (decide (0 ≤ x1) && decide (x1 < (a0.size : Int))) (bif (decide ((byteAt a0 x1) > 57)) then (some (0, false)) else (guardK (decide (0 ≤ x1) && decide (x1 < (a0.size : Int))) (bif ((byteAt a0 0) == 45) then (c0 a0 (w64 ((w64 (x0 * 10)) - (w64 ((w64 (byteAt a0 x1)) - 48)))) (w64 (x1 + 1))) else (c0 a0 (w64 ((w64 (x0 * 10)) + (w64 ((w64 (byteAt a0 x1)) - 48)))) (w64 (x1 + 1)))))))))) else (some (x0, true)))
theorem F.pleachref06_number.l1111010.eq K n0 a0 x0 x1 : F.pleachref06_number.l1111010 K (n0 + 1) a0 x0 x1 = F.pleachref06_number.l1111010.B (F.pleachref06_number.l1111010 K n0) a0 x0 x1 := (F.pleachref06_number.in_eq K [1, 1, 1, 1, 0, 1, 0] [n0 + 1] (F.pleachref06_number.l1111010.st a0 x0 x1)).trans ((show ∀ H, F.pleachref06_number.in K H [1, 1, 1, 1, 0, 1, 0] [n0 + 1] (F.pleachref06_number.l1111010.st a0 x0 x1) = F.pleachref06_number.l1111010.B (fun a0 x0 x1 => H [1, 1, 1, 1, 0, 1, 0] [n0] (F.pleachref06_number.l1111010.st a0 x0 x1)) a0 x0 x1 from by intro H; kernel_rfl) (F.pleachref06_number.at K))
noncomputable def F.pleachref06_number.B (c0 : (ByteArray) → (Int) → (Int) → Option (Int × Bool)) (a0 : ByteArray) : Option (Int × Bool) :=
    (bif ((a0.size : Int) == 0) then (some (0, false)) else (bif (decide ((a0.size : Int) > 20)) then (some (0, false)) else (guardK (decide (0 < (a0.size : Int))) (c0 a0 0 0))))
theorem F.pleachref06_number.eq K a0 : F.pleachref06_number (K + 1) a0 = F.pleachref06_number.B (F.pleachref06_number.l1111010 K K) a0 := (F.pleachref06_number.in_main K a0).trans ((show ∀ H, F.pleachref06_number.in K H [] [] ⟨slots [.sc (.val (.string a0))] 0, []⟩ = F.pleachref06_number.B (fun a0 x0 x1 => H [1, 1, 1, 1, 0, 1, 0] [K] (F.pleachref06_number.l1111010.st a0 x0 x1)) a0 from by intro H; kernel_rfl) (F.pleachref06_number.at K))
noncomputable def V.pleachref06_number.l1111010 (a0 : ByteArray) (x0 : Int) (x1 : Int) := lim fun v => F.pleachref06_number.l1111010 (v 0) (v 1) a0 x0 x1
noncomputable def V.pleachref06_number (a0 : ByteArray) := lim fun v => F.pleachref06_number (v 0) a0
theorem V.pleachref06_number.l1111010.of a0 x0 x1 {r} (h : F.pleachref06_number.l1111010.B V.pleachref06_number.l1111010 a0 x0 x1 = some r) : V.pleachref06_number.l1111010 a0 x0 x1 = some r :=
  App.to (App.step 1 (fun v => F.pleachref06_number.l1111010.eq (v 0) (v 1) a0 x0 x1) (by unfold F.pleachref06_number.l1111010.B; repeat' first | apply App.guard | apply App.cond | exact App.lim | exact App.val | exact App.no | apply App.meet | apply App.ite | refine App.bind ?_ fun _ => ?_)) h
theorem V.pleachref06_number.of a0 {r} (h : F.pleachref06_number.B V.pleachref06_number.l1111010 a0 = some r) : V.pleachref06_number a0 = some r :=
  App.to (App.step 0 (fun v => F.pleachref06_number.eq (v 0) a0) (by unfold F.pleachref06_number.B; repeat' first | apply App.guard | apply App.cond | exact App.lim | exact (App.enter 1 App.lim) | exact App.val | exact App.no | apply App.meet | apply App.ite | refine App.bind ?_ fun _ => ?_)) h
noncomputable def F.pleachref06_Parse (K : Nat) (a0 : ByteArray) : Option (TValue × Bool) := evFn Tryz.prog sg K 17 [.sc (.val (.string a0))] []
noncomputable def F.pleachref06_Parse.B (c0 : (TValue) → Option (ByteArray)) (c1 : (ByteArray) → Option (ByteArray × Bool)) (c2 : (ByteArray) → Option (Int × Bool)) (a0 : ByteArray) : Option (TValue × Bool) :=
    (bif (strEq a0 (⟨#[116, 114, 117, 101]⟩ : ByteArray)) then (bif (strEq a0 (⟨#[116, 114, 117, 101]⟩ : ByteArray)) then (some ((1, 1, (⟨#[]⟩ : ByteArray)), true)) else (some ((1, 0, (⟨#[]⟩ : ByteArray)), true))) else (bif (strEq a0 (⟨#[102, 97, 108, 115, 101]⟩ : ByteArray)) then (bif (strEq a0 (⟨#[116, 114, 117, 101]⟩ : ByteArray)) then (some ((1, 1, (⟨#[]⟩ : ByteArray)), true)) else (some ((1, 0, (⟨#[]⟩ : ByteArray)), true))) else (bif (decide ((a0.size : Int) > 0)) then (guardK (decide (0 < (a0.size : Int))) (bif ((byteAt a0 0) == 39) then (guardK (decide (1 ≤ (a0.size : Int)) && decide ((a0.size : Int) ≤ (a0.size : Int))) ((c0 (3, 0, (a0.extract 1 (a0.size : Int).toNat))).bind fun t0 => (bif (!strEq t0 a0) then (some ((0, 0, (⟨#[]⟩ : ByteArray)), false)) else (some ((3, 0, (a0.extract 1 (a0.size : Int).toNat)), true))))) else (bif (decide ((a0.size : Int) > 0)) then (guardK (decide (0 < (a0.size : Int))) (bif ((byteAt a0 0) == 35) then (guardK (decide (1 ≤ (a0.size : Int)) && decide ((a0.size : Int) ≤ (a0.size : Int))) ((c1 (a0.extract 1 (a0.size : Int).toNat)).bind fun t1 => (bif (!t1.2) then (some ((0, 0, (⟨#[]⟩ : ByteArray)), false)) else ((c0 (3, 0, t1.1)).bind fun t2 => (bif (!strEq t2 a0) then (some ((0, 0, (⟨#[]⟩ : ByteArray)), false)) else (some ((3, 0, t1.1), true))))))) else ((c2 a0).bind fun t3 => (bif (!t3.2) then (some ((0, 0, (⟨#[]⟩ : ByteArray)), false)) else ((c0 (2, t3.1, (⟨#[]⟩ : ByteArray))).bind fun t4 => (bif (!strEq t4 a0) then (some ((0, 0, (⟨#[]⟩ : ByteArray)), false)) else (some ((2, t3.1, (⟨#[]⟩ : ByteArray)), true)))))))) else ((c2 a0).bind fun t5 => (bif (!t5.2) then (some ((0, 0, (⟨#[]⟩ : ByteArray)), false)) else ((c0 (2, t5.1, (⟨#[]⟩ : ByteArray))).bind fun t6 => (bif (!strEq t6 a0) then (some ((0, 0, (⟨#[]⟩ : ByteArray)), false)) else (some ((2, t5.1, (⟨#[]⟩ : ByteArray)), true))))))))) else (bif (decide ((a0.size : Int) > 0)) then (guardK (decide (0 < (a0.size : Int))) (bif ((byteAt a0 0) == 35) then (guardK (decide (1 ≤ (a0.size : Int)) && decide ((a0.size : Int) ≤ (a0.size : Int))) ((c1 (a0.extract 1 (a0.size : Int).toNat)).bind fun t7 => (bif (!t7.2) then (some ((0, 0, (⟨#[]⟩ : ByteArray)), false)) else ((c0 (3, 0, t7.1)).bind fun t8 => (bif (!strEq t8 a0) then (some ((0, 0, (⟨#[]⟩ : ByteArray)), false)) else (some ((3, 0, t7.1), true))))))) else ((c2 a0).bind fun t9 => (bif (!t9.2) then (some ((0, 0, (⟨#[]⟩ : ByteArray)), false)) else ((c0 (2, t9.1, (⟨#[]⟩ : ByteArray))).bind fun t10 => (bif (!strEq t10 a0) then (some ((0, 0, (⟨#[]⟩ : ByteArray)), false)) else (some ((2, t9.1, (⟨#[]⟩ : ByteArray)), true)))))))) else ((c2 a0).bind fun t11 => (bif (!t11.2) then (some ((0, 0, (⟨#[]⟩ : ByteArray)), false)) else ((c0 (2, t11.1, (⟨#[]⟩ : ByteArray))).bind fun t12 => (bif (!strEq t12 a0) then (some ((0, 0, (⟨#[]⟩ : ByteArray)), false)) else (some ((2, t11.1, (⟨#[]⟩ : ByteArray)), true))))))))))
theorem F.pleachref06_Parse.eq K a0 : F.pleachref06_Parse (K + 1) a0 = F.pleachref06_Parse.B (F.pleachref06_Show K) (F.pleachref03_Unhex K) (F.pleachref06_number K) a0 := by kernel_rfl
noncomputable def V.pleachref06_Parse (a0 : ByteArray) := lim fun v => F.pleachref06_Parse (v 0) a0
theorem V.pleachref06_Parse.of a0 {r} (h : F.pleachref06_Parse.B V.pleachref06_Show V.pleachref03_Unhex V.pleachref06_number a0 = some r) : V.pleachref06_Parse a0 = some r :=
  App.to (App.step 0 (fun v => F.pleachref06_Parse.eq (v 0) a0) (by unfold F.pleachref06_Parse.B; repeat' first | apply App.guard | apply App.cond | exact App.lim | exact App.val | exact App.no | apply App.meet | apply App.ite | refine App.bind ?_ fun _ => ?_)) h
noncomputable def F.pleachref40_Name (K : Nat) (a0 : Int) : Option (ByteArray) := evFn Tryz.prog sg K 9 [.sc (.val (.int .i64 a0))] []
noncomputable def F.pleachref40_Name.B (c0 : (Int) → Option (ByteArray)) (a0 : Int) : Option (ByteArray) :=
    ((c0 a0).bind fun t0 => (guardK (decide ((⟨#[35]⟩ : ByteArray).size + t0.size ≤ i64max)) (some ((⟨#[35]⟩ : ByteArray) ++ t0))))
theorem F.pleachref40_Name.eq K a0 : F.pleachref40_Name (K + 1) a0 = F.pleachref40_Name.B (F.pleachref06_Digits K) a0 := by kernel_rfl
noncomputable def V.pleachref40_Name (a0 : Int) := lim fun v => F.pleachref40_Name (v 0) a0
theorem V.pleachref40_Name.of a0 {r} (h : F.pleachref40_Name.B V.pleachref06_Digits a0 = some r) : V.pleachref40_Name a0 = some r :=
  App.to (App.step 0 (fun v => F.pleachref40_Name.eq (v 0) a0) (by unfold F.pleachref40_Name.B; repeat' first | apply App.guard | apply App.cond | exact App.lim | exact App.val | exact App.no | apply App.meet | apply App.ite | refine App.bind ?_ fun _ => ?_)) h
noncomputable def F.pleachref40_Number (K : Nat) (a0 : ByteArray) : Option (Int × Bool) := evFn Tryz.prog sg K 7 [.sc (.val (.string a0))] []
noncomputable def F.pleachref40_Number.B (c0 : (ByteArray) → Option (TValue × Bool)) (c1 : (Int) → Option (ByteArray)) (a0 : ByteArray) : Option (Int × Bool) :=
    (bif (decide ((a0.size : Int) < 2)) then (some (0, false)) else (guardK (decide (0 < (a0.size : Int))) (bif ((byteAt a0 0) != 35) then (some (0, false)) else (guardK (decide (1 ≤ (a0.size : Int)) && decide ((a0.size : Int) ≤ (a0.size : Int))) ((c0 (a0.extract 1 (a0.size : Int).toNat)).bind fun t0 => (bif (!t0.2) then (some (0, false)) else (bif (t0.1.1 != 2) then (some (0, false)) else ((c1 t0.1.2.1).bind fun t1 => (bif (!strEq t1 a0) then (some (0, false)) else (some (t0.1.2.1, true)))))))))))
theorem F.pleachref40_Number.eq K a0 : F.pleachref40_Number (K + 1) a0 = F.pleachref40_Number.B (F.pleachref06_Parse K) (F.pleachref40_Name K) a0 := by kernel_rfl
noncomputable def V.pleachref40_Number (a0 : ByteArray) := lim fun v => F.pleachref40_Number (v 0) a0
theorem V.pleachref40_Number.of a0 {r} (h : F.pleachref40_Number.B V.pleachref06_Parse V.pleachref40_Name a0 = some r) : V.pleachref40_Number a0 = some r :=
  App.to (App.step 0 (fun v => F.pleachref40_Number.eq (v 0) a0) (by unfold F.pleachref40_Number.B; repeat' first | apply App.guard | apply App.cond | exact App.lim | exact App.val | exact App.no | apply App.meet | apply App.ite | refine App.bind ?_ fun _ => ?_)) h
noncomputable def F.model_State_Copy_nil (K : Nat) : Option (Unit) := evFn Tryz.prog sg K 10 [.sc (.val (.pointer none))] []
noncomputable def F.model_State_Copy_nil.B : Option (Unit) :=
    (some ())
theorem F.model_State_Copy_nil.eq K : F.model_State_Copy_nil (K + 1) = F.model_State_Copy_nil.B := by kernel_rfl
noncomputable def V.model_State_Copy_nil := lim fun v => F.model_State_Copy_nil (v 0)
theorem V.model_State_Copy_nil.of {r} (h : F.model_State_Copy_nil.B = some r) : V.model_State_Copy_nil = some r :=
  App.to (App.step 0 (fun v => F.model_State_Copy_nil.eq (v 0)) (by unfold F.model_State_Copy_nil.B; repeat' first | apply App.guard | apply App.cond | exact App.lim | exact App.val | exact App.no | apply App.meet | apply App.ite | refine App.bind ?_ fun _ => ?_)) h
noncomputable def F.model_State_Seen_nil (K : Nat) : Option (TModel) := evFn Tryz.prog sg K 11 [.sc (.val (.pointer none))] []
noncomputable def F.model_State_Seen_nil.B : Option (TModel) :=
    (some ([], [], 0))
theorem F.model_State_Seen_nil.eq K : F.model_State_Seen_nil (K + 1) = F.model_State_Seen_nil.B := by kernel_rfl
noncomputable def V.model_State_Seen_nil := lim fun v => F.model_State_Seen_nil (v 0)
theorem V.model_State_Seen_nil.of {r} (h : F.model_State_Seen_nil.B = some r) : V.model_State_Seen_nil = some r :=
  App.to (App.step 0 (fun v => F.model_State_Seen_nil.eq (v 0)) (by unfold F.model_State_Seen_nil.B; repeat' first | apply App.guard | apply App.cond | exact App.lim | exact App.val | exact App.no | apply App.meet | apply App.ite | refine App.bind ?_ fun _ => ?_)) h
noncomputable def F.model_State_Do_nil (K : Nat) (a1 : TCall) : Option (TAnswer) := evFn Tryz.prog sg K 13 [.sc (.val (.pointer none)), .agg [.val (.int .i64 a1.1), .val (.string a1.2.1), .val (.string a1.2.2.1), .val (.string a1.2.2.2.1), .val (.string a1.2.2.2.2.1), .list sOp a1.2.2.2.2.2.1 false, .val (.string a1.2.2.2.2.2.2.1), .val (.string a1.2.2.2.2.2.2.2)]] []
noncomputable def F.model_State_Do_nil.B (c0 : (Int) → Option (TAnswer)) (a1 : TCall) : Option (TAnswer) :=
    ((c0 1).bind fun t0 => (some (t0.1, t0.2.1, t0.2.2.1, (t0.2.2.2.1.1, t0.2.2.2.1.2), t0.2.2.2.2.1, t0.2.2.2.2.2.1, t0.2.2.2.2.2.2.1, t0.2.2.2.2.2.2.2.1, t0.2.2.2.2.2.2.2.2)))
theorem F.model_State_Do_nil.eq K a1 : F.model_State_Do_nil (K + 1) a1 = F.model_State_Do_nil.B (F.model_fail K) a1 := by kernel_rfl
noncomputable def V.model_State_Do_nil (a1 : TCall) := lim fun v => F.model_State_Do_nil (v 0) a1
theorem V.model_State_Do_nil.of a1 {r} (h : F.model_State_Do_nil.B V.model_fail a1 = some r) : V.model_State_Do_nil a1 = some r :=
  App.to (App.step 0 (fun v => F.model_State_Do_nil.eq (v 0) a1) (by unfold F.model_State_Do_nil.B; repeat' first | apply App.guard | apply App.cond | exact App.lim | exact App.val | exact App.no | apply App.meet | apply App.ite | refine App.bind ?_ fun _ => ?_)) h
noncomputable def F.pleachref40_Same (K : Nat) (a0 : TAnswer) (a1 : TAnswer) : Option (Bool) := evFn Tryz.prog sg K 12 [.agg [.val (.int .i64 a0.1), .val (.int .i64 a0.2.1), .val (.string a0.2.2.1), .list sNode a0.2.2.2.1.1 false, .list sEdge a0.2.2.2.1.2 false, .list sChange a0.2.2.2.2.1 false, .list sConflict a0.2.2.2.2.2.1 false, .list .str a0.2.2.2.2.2.2.1 false, .list sRef a0.2.2.2.2.2.2.2.1 false, .list (.int .i64) a0.2.2.2.2.2.2.2.2 false], .agg [.val (.int .i64 a1.1), .val (.int .i64 a1.2.1), .val (.string a1.2.2.1), .list sNode a1.2.2.2.1.1 false, .list sEdge a1.2.2.2.1.2 false, .list sChange a1.2.2.2.2.1 false, .list sConflict a1.2.2.2.2.2.1 false, .list .str a1.2.2.2.2.2.2.1 false, .list sRef a1.2.2.2.2.2.2.2.1 false, .list (.int .i64) a1.2.2.2.2.2.2.2.2 false]] []
noncomputable def V.pleachref40_Same (a0 : TAnswer) (a1 : TAnswer) := lim fun v => F.pleachref40_Same (v 0) a0 a1
noncomputable def F.pleachlaw40_ModelNames (K : Nat) (a0 : Int) (a1 : ByteArray) (a2 : TCall) : Option (Bool) := evFn Tryz.prog sg K 3 [.sc (.val (.int .i64 a0)), .sc (.val (.string a1)), .agg [.val (.int .i64 a2.1), .val (.string a2.2.1), .val (.string a2.2.2.1), .val (.string a2.2.2.2.1), .val (.string a2.2.2.2.2.1), .list sOp a2.2.2.2.2.2.1 false, .val (.string a2.2.2.2.2.2.2.1), .val (.string a2.2.2.2.2.2.2.2)]] []
noncomputable def F.pleachlaw40_ModelNames.B (c0 : Option (Bool)) (c1 : (List TCall) → (Int) → Option (Bool)) (c2 : (ByteArray) → Option (Int × Bool)) (c3 : (ByteArray) → Option (Int × Bool)) (c4 : (Int) → Option (ByteArray)) (c5 : (Int) → Option (ByteArray)) (c6 : Option (Unit)) (c7 : Option (TModel)) (c8 : (TCall) → Option (TAnswer)) (c9 : (TAnswer) → (TAnswer) → Option (Bool)) (a0 : Int) (a1 : ByteArray) (a2 : TCall) : Option (Bool) :=
    (bif (decide ((a1.size : Int) > 100)) then ((c0).bind fun t0 => (some t0)) else ((c1 ([(a2.1, a2.2.1, a2.2.2.1, a2.2.2.2.1, a2.2.2.2.2.1, a2.2.2.2.2.2.1, a2.2.2.2.2.2.2.1, a2.2.2.2.2.2.2.2)]) 1).bind fun t1 => (bif (!t1) then ((c0).bind fun t2 => (some t2)) else ((c2 a1).bind fun t3 => ((c3 a1).bind fun t4 => ((c4 a0).bind fun t5 => ((c2 t5).bind fun t6 => ((c4 a0).bind fun t7 => ((c5 a0).bind fun t8 => (bif (strEq t7 t8) then (bif (t3.2 == t4.2) then (bif (t3.1 == t4.1) then (bif (t6.1 == a0) then (bif t6.2 then ((c6).bind fun t9 => ((c7).bind fun t10 => (bif (t10.2.2 == 0) then ((c8 (a2.1, a2.2.1, a2.2.2.1, a2.2.2.2.1, a2.2.2.2.2.1, a2.2.2.2.2.2.1, a2.2.2.2.2.2.2.1, a2.2.2.2.2.2.2.2)).bind fun t11 => ((c9 (t11.1, t11.2.1, t11.2.2.1, (t11.2.2.2.1.1, t11.2.2.2.1.2), t11.2.2.2.2.1, t11.2.2.2.2.2.1, t11.2.2.2.2.2.2.1, t11.2.2.2.2.2.2.2.1, t11.2.2.2.2.2.2.2.2) (1, 0, (⟨#[]⟩ : ByteArray), ([], []), [], [], [], [], [])).bind fun t12 => (bif t12 then ((c0).bind fun t13 => (some t13)) else (some false)))) else (some false)))) else (some false)) else (some false)) else (some false)) else (some false)) else (some false)))))))))))
theorem F.pleachlaw40_ModelNames.eq K a0 a1 a2 : F.pleachlaw40_ModelNames (K + 1) a0 a1 a2 = F.pleachlaw40_ModelNames.B (F.pleachlaw40_awake K) (F.pleachref40_Few K) (F.model_Number K) (F.pleachref40_Number K) (F.model_Name K) (F.pleachref40_Name K) (F.model_State_Copy_nil K) (F.model_State_Seen_nil K) (F.model_State_Do_nil K) (F.pleachref40_Same K) a0 a1 a2 := by kernel_rfl
noncomputable def V.pleachlaw40_ModelNames (a0 : Int) (a1 : ByteArray) (a2 : TCall) := lim fun v => F.pleachlaw40_ModelNames (v 0) a0 a1 a2
theorem V.pleachlaw40_ModelNames.of a0 a1 a2 {r} (h : F.pleachlaw40_ModelNames.B V.pleachlaw40_awake V.pleachref40_Few V.model_Number V.pleachref40_Number V.model_Name V.pleachref40_Name V.model_State_Copy_nil V.model_State_Seen_nil V.model_State_Do_nil V.pleachref40_Same a0 a1 a2 = some r) : V.pleachlaw40_ModelNames a0 a1 a2 = some r :=
  App.to (App.step 0 (fun v => F.pleachlaw40_ModelNames.eq (v 0) a0 a1 a2) (by unfold F.pleachlaw40_ModelNames.B; repeat' first | apply App.guard | apply App.cond | exact App.lim | exact App.val | exact App.no | apply App.meet | apply App.ite | refine App.bind ?_ fun _ => ?_)) h
end Go.Proofs.YtmhonabmnphflaaGreatDoor.AE
end
section
set_option linter.unusedVariables false
set_option linter.unusedSimpArgs false
namespace Go.Proofs.YtmhonabmnphflaaGreatDoor.AE
open Go

theorem w64_id {x : Int} (h0 : -9223372036854775808 ≤ x) (h1 : x ≤ 9223372036854775807) : w64 x = x := by
  show IntKind.i64.wrap x = x
  simp [IntKind.wrap, IntKind.bits, IntKind.signed]
  omega
theorem u64_id {x : Int} (h0 : 0 ≤ x) (h1 : x ≤ 18446744073709551615) : IntKind.wrap .u64 x = x := by
  have : IntKind.u64.wrap x = x % 18446744073709551616 := by simp [IntKind.wrap, IntKind.bits, IntKind.signed]
  rw [this]; omega
theorem w64_up {i n : Nat} (h : i < n) (hn : n ≤ 140737488351232) : w64 ((i : Int) + 1) = ((i + 1 : Nat) : Int) := by rw [w64_id (by omega) (by omega)]; omega
theorem guard_tt {α : Type} (a : Option α) : guardK true a = a := rfl
theorem guard_of {α : Type} {g : Bool} {a : Option α} (h : g = true) : guardK g a = a := by rw [h]; rfl
theorem guard_dec {α : Type} {p : Prop} [Decidable p] {a : Option α} (h : p) : guardK (decide p) a = a := guard_of (decide_eq_true h)
/-- Inside a row. -/
theorem guard_in {α : Type} {i n : Nat} {a : Option α} (h : i < n) : guardK (decide (0 ≤ (i : Int)) && decide ((i : Int) < (n : Int))) a = a := guard_of (by simp [h])
theorem if_in {α : Type} {i n : Nat} {a b : α} (h : i < n) : (bif decide ((i : Int) < (n : Int)) then a else b) = a := by simp [h]
theorem if_out {α : Type} {i n : Nat} {a b : α} (h : n ≤ i) : (bif decide ((i : Int) < (n : Int)) then a else b) = b := by simp [Nat.not_lt.2 h]
theorem if_yes {α : Type} {p : Prop} [Decidable p] {a b : α} (h : p) : (bif decide p then a else b) = a := by simp [h]
theorem if_no {α : Type} {p : Prop} [Decidable p] {a b : α} (h : ¬ p) : (bif decide p then a else b) = b := by simp [h]
theorem nat_cast (i : Nat) : ((i : Nat) : Int).toNat = i := rfl
theorem data_len (s : ByteArray) : s.data.toList.length = s.size := by rw [Array.length_toList]; rfl
theorem toList_size (s : ByteArray) : s.toList.length = s.size := by rw [ByteArray.toList_eq]; exact data_len s
theorem toList_nil {s : ByteArray} : s.toList = [] ↔ s.size = 0 := by
  rw [← toList_size, List.length_eq_zero_iff]
theorem bytes_ext {s t : ByteArray} (h : s.toList = t.toList) : s = t := by
  rw [ByteArray.toList_eq, ByteArray.toList_eq] at h
  have : s.data = t.data := by rwa [← Array.toList_inj]
  cases s; cases t; simp_all
theorem strEq_iff {s t : ByteArray} : strEq s t = true ↔ s = t := by
  unfold strEq
  rw [beq_iff_eq]
  exact ⟨bytes_ext, fun h => by rw [h]⟩
theorem strEq_self (s : ByteArray) : strEq s s = true := strEq_iff.2 rfl
theorem strEq_no {s t : ByteArray} (h : s ≠ t) : strEq s t = false := by
  cases hb : strEq s t with
  | false => rfl
  | true => exact absurd (strEq_iff.1 hb) h
theorem strEq_dec (s t : ByteArray) : strEq s t = decide (s = t) := by
  by_cases h : s = t
  · rw [h, strEq_self]; simp
  · rw [strEq_no h]; simp [h]
/-! ### The order of texts -/

theorem size_zero {s : ByteArray} (h : s.size = 0) : s = (⟨#[]⟩ : ByteArray) := by
  apply bytes_ext
  rw [toList_nil.2 h]
  exact (toList_nil.2 rfl).symm
theorem strEq_nil (s : ByteArray) : strEq s (⟨#[]⟩ : ByteArray) = (s.size == 0) := by
  rw [Bool.eq_iff_iff, strEq_iff]
  simp only [beq_iff_eq]
  exact ⟨fun h => by rw [h]; rfl, size_zero⟩
theorem strOfNums_size (xs : List Int) : (bytesOf xs).size = xs.length := by unfold bytesOf; simp [ByteArray.size]
theorem strOfNums_append (xs ys : List Int) : bytesOf (xs ++ ys) = bytesOf xs ++ bytesOf ys := by
  apply ByteArray.ext
  simp [bytesOf]
theorem bt_data (s : ByteArray) (i : Nat) (h : i < s.size) : byteAt s (i : Int) = ((s.data.toList[i]'(by rw [Array.length_toList]; exact h)).toNat : Int) := by
  show (((s.data.toList.getD (i : Int).toNat 0).toNat : Nat) : Int) = _
  rw [nat_cast, List.getD_eq_getElem?_getD, List.getElem?_eq_getElem (by rw [data_len]; exact h)]
  rfl
theorem extract_size (s : ByteArray) (a b : Nat) : (s.extract a b).size ≤ s.size := by
  rw [ByteArray.size_extract]; omega

/-- A loop that ends at the first place at which the step tells something; else what is told at the end. -/
def scanG {α : Type} (step : Nat → Option α) (fin : α) : Nat → Nat → α
  | 0, _ => fin
  | d + 1, i => match step i with
    | some r => r
    | none => scanG step fin d (i + 1)
abbrev scanI (step : Nat → Option Int) : Nat → Nat → Int := scanG step 0
theorem scanG_succ {α : Type} (step : Nat → Option α) (fin : α) (d i : Nat) : scanG step fin (d + 1) i = (step i).getD (scanG step fin d (i + 1)) := by
  show (match step i with | some r => r | none => scanG step fin d (i + 1)) = _
  cases step i <;> rfl
theorem scanI_succ (step : Nat → Option Int) (d i : Nat) : scanI step (d + 1) i = (step i).getD (scanI step d (i + 1)) := scanG_succ step 0 d i
end Go.Proofs.YtmhonabmnphflaaGreatDoor.AE
end
section
set_option linter.unusedVariables false
set_option linter.unusedSimpArgs false
namespace Go.Proofs.YtmhonabmnphflaaGreatDoor.AE
open Go

def okc (c : Int) : Bool := (decide (97 ≤ c) && decide (c ≤ 122)) || (decide (48 ≤ c) && decide (c ≤ 57)) || c == 45
/-- From place i on, d bytes, all fit. -/
def okFrom (s : ByteArray) : Nat → Nat → Bool
  | 0, _ => true
  | d + 1, i => okc (byteAt s i) && okFrom s d (i + 1)
def nameB (s : ByteArray) : Bool := decide (1 ≤ s.size) && decide (s.size ≤ 12) && okFrom s s.size 0

def valueB (v : TValue) : Bool := (v.1 == 1 && (v.2.1 == 0 || v.2.1 == 1) && v.2.2.size == 0) || (v.1 == 2 && v.2.2.size == 0) || (v.1 == 3 && v.2.1 == 0 && decide (v.2.2.size ≤ 64))
theorem refVIs_ok (v : TValue) : V.pleachref06_Is v = some (valueB v) := by
  refine V.pleachref06_Is.of _ ?_
  obtain ⟨a, b, s⟩ := v
  unfold F.pleachref06_Is.B valueB
  simp only [strEq_nil]
  by_cases a1 : a = 1
  · subst a1
    by_cases s0 : s.size = 0 <;> by_cases b0 : b ≥ 0 <;> by_cases b1 : b ≤ 1 <;> simp [Bool.cond_eq_ite, b0, b1, s0] <;> omega
  · by_cases a2 : a = 2
    · subst a2
      by_cases s0 : s.size = 0 <;> simp [Bool.cond_eq_ite, s0]
    · by_cases a3 : a = 3
      · subst a3
        by_cases b0 : b = 0 <;> by_cases s0 : s.size ≤ 64 <;> simp [Bool.cond_eq_ite, b0, s0] <;> omega
      · simp [Bool.cond_eq_ite, a1, a2, a3]

/-! ### Rows that rise -/

def propStep (l : List TProp) (i : Nat) : Option Int :=
  if (nameB (rd sProp l i).1 && valueB (rd sProp l i).2) = false then some 2
  else if 0 < i ∧ strLt (rd sProp l (i - 1)).1 (rd sProp l i).1 = false then some 4 else none
def textStep (l : List ByteArray) (i : Nat) : Option Int :=
  if nameB (rd .str l i) = false then some 2
  else if 0 < i ∧ strLt (rd .str l (i - 1)) (rd .str l i) = false then some 4 else none
def propsN (l : List TProp) : Int := if l.length > 8 then 5 else scanI (propStep l) l.length 0
def rowN (l : List ByteArray) : Int := scanI (textStep l) l.length 0
def restN (labels : List ByteArray) (props : List TProp) : Int := if labels.length > 8 then 5 else if rowN labels = 0 then propsN props else rowN labels

end Go.Proofs.YtmhonabmnphflaaGreatDoor.AE
end
section
set_option linter.unusedVariables false
set_option linter.unusedSimpArgs false
namespace Go.Proofs.YtmhonabmnphflaaGreatDoor.AE
open Go

end Go.Proofs.YtmhonabmnphflaaGreatDoor.AE
end
section
set_option linter.unusedVariables false
set_option linter.unusedSimpArgs false
namespace Go.Proofs.YtmhonabmnphflaaGreatDoor.AE
open Go

theorem scanI_zero {step : Nat → Option Int} (hs : ∀ i r, step i = some r → r ≠ 0) : ∀ d i, scanI step d i = 0 → ∀ j, i ≤ j → j < i + d → step j = none
  | 0, i, _, j, h1, h2 => by omega
  | d + 1, i, h, j, h1, h2 => by
    rw [scanI_succ] at h
    cases hq : step i with
    | some r => rw [hq] at h; exact absurd h (hs i r hq)
    | none =>
      rw [hq] at h
      by_cases hij : j = i
      · rw [hij]; exact hq
      · exact scanI_zero hs d (i + 1) h j (by omega) (by omega)
theorem propStep_ne (l : List TProp) (i : Nat) (r : Int) (h : propStep l i = some r) : r ≠ 0 := by
  unfold propStep at h
  split at h
  · injection h with h; omega
  · split at h
    · injection h with h; omega
    · cases h
theorem textStep_ne (l : List ByteArray) (i : Nat) (r : Int) (h : textStep l i = some r) : r ≠ 0 := by
  unfold textStep at h
  split at h
  · injection h with h; omega
  · split at h
    · injection h with h; omega
    · cases h
theorem nameB_size {s : ByteArray} (h : nameB s = true) : 1 ≤ s.size ∧ s.size ≤ 12 := by
  unfold nameB at h
  simp at h
  exact ⟨h.1.1, h.1.2⟩
theorem textStep_none {l : List ByteArray} {i : Nat} (h : textStep l i = none) : nameB (rd .str l i) = true ∧ (0 < i → strLt (rd .str l (i - 1)) (rd .str l i) = true) := by
  unfold textStep at h
  split at h
  · cases h
  · rename_i h1
    split at h
    · cases h
    · rename_i h2
      refine ⟨by simpa using h1, fun h0 => ?_⟩
      cases hq : strLt (rd .str l (i - 1)) (rd .str l i) with
      | true => rfl
      | false => exact absurd ⟨h0, hq⟩ h2
theorem propStep_none {l : List TProp} {i : Nat} (h : propStep l i = none) : nameB (rd sProp l i).1 = true ∧ valueB (rd sProp l i).2 = true ∧ (0 < i → strLt (rd sProp l (i - 1)).1 (rd sProp l i).1 = true) := by
  unfold propStep at h
  split at h
  · cases h
  · rename_i h1
    split at h
    · cases h
    · rename_i h2
      have h3 : nameB (rd sProp l i).1 = true ∧ valueB (rd sProp l i).2 = true := by simpa using h1
      refine ⟨h3.1, h3.2, fun h0 => ?_⟩
      cases hq : strLt (rd sProp l (i - 1)).1 (rd sProp l i).1 with
      | true => rfl
      | false => exact absurd ⟨h0, hq⟩ h2
/-- What a row of names, of properties that may be is. -/
theorem rowN_zero {l : List ByteArray} (h : rowN l = 0) {i : Nat} (hi : i < l.length) : nameB (rd .str l i) = true ∧ (0 < i → strLt (rd .str l (i - 1)) (rd .str l i) = true) :=
  textStep_none (scanI_zero (textStep_ne l) l.length 0 h i (by omega) (by omega))
theorem propsN_len {l : List TProp} (h : propsN l = 0) : l.length ≤ 8 := by
  unfold propsN at h
  split at h
  · omega
  · omega
theorem propsN_zero {l : List TProp} (h : propsN l = 0) {i : Nat} (hi : i < l.length) : nameB (rd sProp l i).1 = true ∧ valueB (rd sProp l i).2 = true ∧ (0 < i → strLt (rd sProp l (i - 1)).1 (rd sProp l i).1 = true) := by
  have h8 := propsN_len h
  unfold propsN at h
  rw [if_neg (by omega)] at h
  exact propStep_none (scanI_zero (propStep_ne l) l.length 0 h i (by omega) (by omega))
theorem restN_zero {a : List ByteArray} {l : List TProp} (h : restN a l = 0) : a.length ≤ 8 ∧ rowN a = 0 ∧ propsN l = 0 := by
  unfold restN at h
  split at h
  · omega
  · split at h
    · rename_i h1 h2
      exact ⟨by omega, h2, h⟩
    · rename_i h1 h2
      exact absurd h h2

/-- Labels and properties are as few and short as they may be. -/
structure Short (a : List ByteArray) (l : List TProp) : Prop where
  na : a.length ≤ 8
  nl : l.length ≤ 8
  ta : ∀ i, i < a.length → (rd .str a i).size ≤ 12
  tl : ∀ i, i < l.length → (rd sProp l i).1.size ≤ 12
theorem Short.of {a : List ByteArray} {l : List TProp} (h : restN a l = 0) : Short a l := by
  obtain ⟨h1, h2, h3⟩ := restN_zero h
  exact ⟨h1, propsN_len h3, fun i hi => (nameB_size (rowN_zero h2 hi).1).2, fun i hi => (nameB_size (propsN_zero h3 hi).1).2⟩
end Go.Proofs.YtmhonabmnphflaaGreatDoor.AE
end
section
set_option linter.unusedVariables false
set_option linter.unusedSimpArgs false
namespace Go.Proofs.YtmhonabmnphflaaGreatDoor.AE
open Go

theorem app_nil (s : ByteArray) : s ++ (⟨#[]⟩ : ByteArray) = s := by apply ByteArray.ext; simp
theorem nil_app (s : ByteArray) : (⟨#[]⟩ : ByteArray) ++ s = s := by apply ByteArray.ext; simp
/-! ### Nodes and edges -/

end Go.Proofs.YtmhonabmnphflaaGreatDoor.AE
end
section
set_option linter.unusedVariables false
set_option linter.unusedSimpArgs false
set_option maxRecDepth 4000
namespace Go.Proofs.YtmhonabmnphflaaGreatDoor.AE
open Go

theorem bt_range (s : ByteArray) (i : Int) : 0 ≤ byteAt s i ∧ byteAt s i < 256 := by
  unfold byteAt
  have := UInt8.toNat_lt (s.data.toList.getD i.toNat 0)
  omega
/-! lists of bytes that are one number's -/
def isBytes (l : List Int) : Prop := ∀ x ∈ l, 0 ≤ x ∧ x < 256
/-- d bytes from place i on. -/
def bl (s : ByteArray) : Nat → Nat → List Int
  | 0, _ => []
  | d + 1, i => byteAt s (i : Int) :: bl s d (i + 1)
theorem bl_snoc (s : ByteArray) : ∀ d i, bl s (d + 1) i = bl s d i ++ [byteAt s ((i + d : Nat) : Int)]
  | 0, i => by simp [bl]
  | d + 1, i => by
    have := bl_snoc s d (i + 1)
    rw [bl, this, bl]
    simp
    congr 1
    omega
theorem bt_of (s : ByteArray) (i : Nat) (h : i < s.size) : UInt8.ofNat (byteAt s (i : Int)).toNat = s.data.toList[i]'(by rw [Array.length_toList]; exact h) := by
  rw [bt_data s i h, Int.toNat_natCast, UInt8.ofNat_toNat]
theorem bytesOf_bl (s : ByteArray) : ∀ d, d ≤ s.size → bytesOf (bl s d 0) = s.extract 0 d
  | 0, _ => by
    apply ByteArray.ext
    simp [bl, bytesOf]
  | d + 1, h => by
    have ih := bytesOf_bl s d (by omega)
    rw [bl_snoc, strOfNums_append, ih, Nat.zero_add]
    apply ByteArray.ext
    apply Array.ext'
    have hl : s.data.toList.length = s.size := by rw [Array.length_toList]; rfl
    simp only [bytesOf, ByteArray.data_append, ByteArray.data_extract, Array.toList_append, Array.toList_extract, List.map_cons, List.map_nil, List.extract_eq_take_drop, List.drop_zero, Nat.sub_zero]
    rw [List.take_succ_eq_append_getElem (by omega), bt_of s d (by omega)]
/-! the reference -/
/-! ### What stands where -/

theorem extract_toList (s : ByteArray) (a b : Nat) : (s.extract a b).data.toList = (s.data.toList.drop a).take (b - a) := by
  rw [ByteArray.data_extract, Array.toList_extract, List.extract_eq_take_drop]
end Go.Proofs.YtmhonabmnphflaaGreatDoor.AE
end
section
set_option linter.unusedVariables false
set_option linter.unusedSimpArgs false
set_option maxRecDepth 4000
namespace Go.Proofs.YtmhonabmnphflaaGreatDoor.AE
open Go

theorem w64_mod (x : Int) : w64 x = (x + 9223372036854775808) % 18446744073709551616 - 9223372036854775808 := by
  show IntKind.i64.wrap x = _
  rw [Go.IntKind.wrap_i64]
end Go.Proofs.YtmhonabmnphflaaGreatDoor.AE
end
section
set_option linter.unusedVariables false
set_option linter.unusedSimpArgs false
set_option maxRecDepth 4000
namespace Go.Proofs.YtmhonabmnphflaaGreatDoor.AE
open Go

theorem bne_ne {e : Int} (he : e ≠ 0) : (e != 0) = true := by simp [he]
end Go.Proofs.YtmhonabmnphflaaGreatDoor.AE
end
section
set_option linter.unusedVariables false
set_option linter.unusedSimpArgs false
set_option maxRecDepth 4000
namespace Go.Proofs.YtmhonabmnphflaaGreatDoor.AE
open Go

/-! rows of texts, of properties -/
end Go.Proofs.YtmhonabmnphflaaGreatDoor.AE
end
section
set_option linter.unusedVariables false
set_option linter.unusedSimpArgs false
namespace Go.Proofs.YtmhonabmnphflaaGreatDoor.AE
open Go

abbrev hexD : ByteArray := ⟨#[48, 49, 50, 51, 52, 53, 54, 55, 56, 57, 97, 98, 99, 100, 101, 102]⟩
def hexL (s : ByteArray) : Nat → Nat → List Int
  | 0, _ => []
  | d + 1, i => byteAt hexD (byteAt s (i : Int) / 16) :: byteAt hexD (byteAt s (i : Int) % 16) :: hexL s d (i + 1)
def hexB (s : ByteArray) : ByteArray := bytesOf (hexL s s.size 0)
theorem hexL_len (s : ByteArray) : ∀ d i, (hexL s d i).length = 2 * d
  | 0, i => rfl
  | d + 1, i => by simp only [hexL, List.length_cons, hexL_len s d (i + 1)]; omega
theorem hexB_size (s : ByteArray) : (hexB s).size = 2 * s.size := by unfold hexB; rw [strOfNums_size, hexL_len]

theorem byte_fin {p : Int → Prop} (h : ∀ c : Fin 256, p (c.val : Int)) {c : Int} (h0 : 0 ≤ c) (h1 : c < 256) : p c := by
  obtain ⟨n, rfl⟩ := Int.eq_ofNat_of_zero_le h0
  exact h ⟨n, by omega⟩
theorem tdiv16 {c : Int} (h0 : 0 ≤ c) (h1 : c < 256) : w64 (Int.tdiv (w64 c) 16) = c / 16 :=
  byte_fin (p := fun c => w64 (Int.tdiv (w64 c) 16) = c / 16) (by decide +kernel) h0 h1
theorem tmod16 {c : Int} (h0 : 0 ≤ c) (h1 : c < 256) : Int.tmod (w64 c) 16 = c % 16 :=
  byte_fin (p := fun c => Int.tmod (w64 c) 16 = c % 16) (by decide +kernel) h0 h1
theorem hexD_size : ((hexD.size : Nat) : Int) = 16 := rfl
theorem hexD_one {k : Nat} (h : k < 16) : hexD.extract k (k + 1) = bytesOf [byteAt hexD (k : Int)] := by
  have : ∀ k : Fin 16, (hexD.extract k.val (k.val + 1)).data = (bytesOf [byteAt hexD (k.val : Int)]).data := by decide +kernel
  exact ByteArray.ext (this ⟨k, h⟩)

theorem bytes_two (a b : Int) : bytesOf [a] ++ bytesOf [b] = bytesOf [a, b] := by rw [← strOfNums_append]; rfl
theorem refHex_l (s : ByteArray) (hs : s.size ≤ 1000000) : ∀ (d i : Nat) (x : ByteArray), i + d = s.size → x.size ≤ 2 * i → V.pleachref03_Hex.l111010 s x (i : Int) = some (x ++ bytesOf (hexL s d i))
  | 0, i, x, h, hx => by
    apply V.pleachref03_Hex.l111010.of; unfold F.pleachref03_Hex.l111010.B
    rw [if_out (by omega)]
    simp only [hexL]
    exact congrArg some (app_nil x).symm
  | d + 1, i, x, h, hx => by
    obtain ⟨b0, b1⟩ := bt_range s (i : Int)
    obtain ⟨k, hk⟩ := Int.eq_ofNat_of_zero_le (show 0 ≤ byteAt s (i : Int) / 16 by omega)
    obtain ⟨m, hm⟩ := Int.eq_ofNat_of_zero_le (show 0 ≤ byteAt s (i : Int) % 16 by omega)
    apply V.pleachref03_Hex.l111010.of; unfold F.pleachref03_Hex.l111010.B
    rw [if_in (by omega), guard_in (by omega), guard_in (by omega), tdiv16 b0 b1, tmod16 b0 b1, hexD_size, hk, hm]
    have k16 : k < 16 := by omega
    have m16 : m < 16 := by omega
    rw [w64_up (n := 16) k16 (by omega), w64_up (n := 16) m16 (by omega)]
    simp only [Int.toNat_natCast]
    rw [guard_of (by simp only [Bool.and_eq_true, decide_eq_true_eq]; omega)]
    rw [guard_dec (by rw [hexD_one k16, strOfNums_size]; simp only [List.length_cons, List.length_nil, i64max]; omega)]
    rw [guard_of (by simp only [Bool.and_eq_true, decide_eq_true_eq]; omega)]
    rw [guard_dec (by rw [hexD_one k16, hexD_one m16, ByteArray.size_append, strOfNums_size, strOfNums_size]; simp only [List.length_cons, List.length_nil, i64max]; omega)]
    rw [hexD_one k16, hexD_one m16]
    rw [w64_up (n := s.size) (by omega) (by omega)]
    rw [refHex_l s hs d (i + 1) _ (by omega) (by rw [ByteArray.size_append, ByteArray.size_append, strOfNums_size, strOfNums_size]; simp only [List.length_cons, List.length_nil]; omega)]
    simp only [hexL, hk, hm]
    rw [show (byteAt hexD (k : Int) :: byteAt hexD (m : Int) :: hexL s d (i + 1)) = [byteAt hexD (k : Int), byteAt hexD (m : Int)] ++ hexL s d (i + 1) from rfl, strOfNums_append, ← bytes_two]
    simp only [ByteArray.append_assoc]
theorem refHex_ok (s : ByteArray) (hs : s.size ≤ 1000000) : V.pleachref03_Hex s = some (hexB s) := by
  apply V.pleachref03_Hex.of; unfold F.pleachref03_Hex.B
  have := refHex_l s hs s.size 0 ⟨#[]⟩ (by omega) (by simp [ByteArray.size])
  rw [nil_app] at this
  exact this

/-! ### Decimal digits -/
def dB (n : Nat) : ByteArray := ⟨(Lib.decDigits n).toArray⟩
def tensB (n : Nat) : ByteArray := if n = 0 then ⟨#[]⟩ else dB n
def oneB (n : Nat) : ByteArray := ⟨#[UInt8.ofNat (48 + n)]⟩
theorem tail_ok {n : Nat} (h : n < 10) : V.pleachref06_tail (n : Int) = some (oneB n) := by
  apply V.pleachref06_tail.of; unfold F.pleachref06_tail.B
  have : ∀ k : Fin 10, (bytesOf [IntKind.wrap .u8 (w64 (48 + (k.val : Int)))]).data = (oneB k.val).data := by decide +kernel
  exact congrArg some (ByteArray.ext (this ⟨n, h⟩))
theorem data_app (a b : List UInt8) : (⟨a.toArray⟩ : ByteArray) ++ ⟨b.toArray⟩ = ⟨(a ++ b).toArray⟩ := by apply ByteArray.ext; simp
theorem tens_one (n : Nat) : tensB (n / 10) ++ oneB (n % 10) = dB n := by
  unfold tensB dB oneB
  by_cases h : n < 10
  · rw [if_pos (by omega), Lib.decDigits_one h, Nat.mod_eq_of_lt h]
    exact nil_app _
  · rw [if_neg (by omega)]
    conv => rhs; rw [Lib.decDigits, dif_neg h]
    exact data_app _ _
theorem oneB_size (n : Nat) : (oneB n).size = 1 := rfl
theorem div10 (n : Nat) : Int.tdiv (n : Int) 10 = ((n / 10 : Nat) : Int) := by rw [Int.tdiv_eq_ediv_of_nonneg (by omega)]; omega
theorem mod10 (n : Nat) : Int.tmod (n : Int) 10 = ((n % 10 : Nat) : Int) := by rw [Int.tmod_eq_emod_of_nonneg (by omega)]; omega
theorem tens_l (a : Int) : ∀ (k n : Nat) (out : ByteArray), n < 10 ^ k → n < 18446744073709551616 → out.size + k ≤ 100 → V.pleachref06_tens.l1100 a (n : Int) out = some (tensB n ++ out)
  | k, 0, out, h, h64, hk => by
    apply V.pleachref06_tens.l1100.of; unfold F.pleachref06_tens.l1100.B
    rw [if_no (by omega)]
    exact congrArg some (nil_app out).symm
  | 0, n + 1, out, h, h64, hk => by simp at h
  | k + 1, n + 1, out, h, h64, hk => by
    have h' : (n + 1) / 10 < 10 ^ k := by rw [Nat.pow_succ] at h; omega
    apply V.pleachref06_tens.l1100.of; unfold F.pleachref06_tens.l1100.B
    rw [if_yes (by omega), mod10, w64_id (by omega) (by omega), tail_ok (by omega), Option.bind_some, guard_dec (by rw [oneB_size]; simp only [i64max]; omega), div10, u64_id (by omega) (by omega)]
    rw [tens_l a k ((n + 1) / 10) _ h' (by omega) (by rw [ByteArray.size_append, oneB_size]; omega), ← ByteArray.append_assoc, tens_one]
    rfl
theorem dB_size : ∀ (k n : Nat), n < 10 ^ (k + 1) → (dB n).size ≤ k + 1
  | 0, n, h => by
    unfold dB; rw [Lib.decDigits_one (by simpa using h)]; simp [ByteArray.size]
  | k + 1, n, h => by
    rw [← tens_one n, ByteArray.size_append, oneB_size]
    unfold tensB
    split
    · simp [ByteArray.size]
    · have := dB_size k (n / 10) (by rw [Nat.pow_succ] at h; omega)
      omega
theorem tensB_size {n : Nat} (h : n < 18446744073709551616) : (tensB n).size ≤ 20 := by
  unfold tensB
  split
  · simp [ByteArray.size]
  · have := dB_size 19 n (by omega)
    omega
theorem tens_ok {n : Nat} (h : n < 18446744073709551616) : V.pleachref06_tens (n : Int) = some (tensB n) := by
  apply V.pleachref06_tens.of; unfold F.pleachref06_tens.B
  rw [tens_l _ 20 n _ (by omega) h (by simp [ByteArray.size]), app_nil]

theorem itoaS_neg {n : Int} (h : n < 0) : itoaS n = (⟨#[45]⟩ : ByteArray) ++ dB n.natAbs := by
  unfold itoaS Lib.itoa dB
  rw [if_pos h]
  exact (data_app [45] _).symm
theorem itoaS_pos {n : Nat} : itoaS (n : Int) = dB n := by
  unfold itoaS Lib.itoa dB
  rw [if_neg (by omega)]; rfl
theorem Digits_ok {a : Int} (h0 : -9223372036854775808 ≤ a) (h1 : a ≤ 9223372036854775807) : V.pleachref06_Digits a = some (itoaS a) := by
  apply V.pleachref06_Digits.of; unfold F.pleachref06_Digits.B
  by_cases hn : a < 0
  · obtain ⟨m, hm⟩ := Int.eq_ofNat_of_zero_le (show 0 ≤ -(a + 1) by omega)
    have e1 : IntKind.wrap .u64 (w64 (0 - (w64 (a + 1)))) = (m : Int) := by
      rw [w64_id (x := a + 1) (by omega) (by omega), w64_id (by omega) (by omega), u64_id (by omega) (by omega)]; omega
    rw [if_yes hn, e1, mod10, div10, w64_id (x := ((m % 10 : Nat) : Int)) (by omega) (by omega), w64_id (by omega) (by omega), u64_id (x := ((m / 10 : Nat) : Int)) (by omega) (by omega), u64_id (by omega) (by omega)]
    rw [itoaS_neg hn, show a.natAbs = m + 1 by omega, ← tens_one (m + 1)]
    by_cases h9 : m % 10 = 9
    · have hc : ((((m % 10 : Nat) : Int) + 1) == 10) = true := by rw [h9]; rfl
      rw [hc, cond_true, show ((m / 10 : Nat) : Int) + 1 = (((m + 1) / 10 : Nat) : Int) by omega, tens_ok (by omega), Option.bind_some]
      have hz := tensB_size (n := (m + 1) / 10) (by omega)
      rw [guard_dec (by simp only [i64max]; show 1 + _ ≤ _; omega), show (0 : Int) = ((0 : Nat) : Int) from rfl, tail_ok (by omega), Option.bind_some, guard_dec (by rw [ByteArray.size_append, oneB_size]; simp only [i64max]; show 1 + _ + _ ≤ _; omega)]
      rw [show (m + 1) % 10 = 0 by omega, ByteArray.append_assoc]
    · have hc : ((((m % 10 : Nat) : Int) + 1) == 10) = false := by
        rw [beq_eq_false_iff_ne]; omega
      rw [hc, cond_false, show ((m / 10 : Nat) : Int) = (((m + 1) / 10 : Nat) : Int) by omega, tens_ok (by omega), Option.bind_some]
      have hz := tensB_size (n := (m + 1) / 10) (by omega)
      rw [guard_dec (by simp only [i64max]; show 1 + _ ≤ _; omega), show ((m % 10 : Nat) : Int) + 1 = (((m + 1) % 10 : Nat) : Int) by omega, tail_ok (by omega), Option.bind_some, guard_dec (by rw [ByteArray.size_append, oneB_size]; simp only [i64max]; show 1 + _ + _ ≤ _; omega)]
      rw [ByteArray.append_assoc]
  · obtain ⟨n, rfl⟩ := Int.eq_ofNat_of_zero_le (show 0 ≤ a by omega)
    rw [if_no hn, u64_id (x := (n : Int)) (by omega) (by omega), div10, u64_id (by omega) (by omega), mod10, tens_ok (by omega), Option.bind_some, tail_ok (by omega), Option.bind_some]
    have hz := tensB_size (n := n / 10) (by omega)
    rw [guard_dec (by rw [oneB_size]; simp only [i64max]; omega), tens_one, itoaS_pos]
theorem itoaS_size {a : Int} (h0 : -9223372036854775808 ≤ a) (h1 : a ≤ 9223372036854775807) : (itoaS a).size ≤ 21 := by
  by_cases hn : a < 0
  · rw [itoaS_neg hn, ByteArray.size_append]
    have := dB_size 19 a.natAbs (by omega)
    show 1 + _ ≤ _; omega
  · obtain ⟨n, rfl⟩ := Int.eq_ofNat_of_zero_le (show 0 ≤ a by omega)
    rw [itoaS_pos]
    have := dB_size 19 n (by omega)
    omega

/-! ### Plain texts -/
def badI (c : Int) : Bool := !(((((decide (c ≥ 97) && decide (c ≤ 122)) || (decide (c ≥ 65) && decide (c ≤ 90))) || (decide (c ≥ 48) && decide (c ≤ 57))) || c == 45) || c == 46 || c == 95)
def okF (s : ByteArray) : Nat → Nat → Bool
  | 0, _ => true
  | d + 1, i => bif badI (byteAt s (i : Int)) then false else okF s d (i + 1)
def plainB (s : ByteArray) : Bool := okF s s.size 0
theorem refPlain_l (s : ByteArray) (hs : s.size ≤ 1000000) : ∀ (d i : Nat), i + d = s.size → V.pleachref06_plain.l1010 s (i : Int) = some (okF s d i)
  | 0, i, h => by
    apply V.pleachref06_plain.l1010.of; unfold F.pleachref06_plain.l1010.B
    rw [if_out (by omega)]; rfl
  | d + 1, i, h => by
    apply V.pleachref06_plain.l1010.of; unfold F.pleachref06_plain.l1010.B
    rw [if_in (by omega), guard_in (by omega), w64_up (n := s.size) (by omega) (by omega), refPlain_l s hs d (i + 1) (by omega)]
    simp only [okF, badI, bne]
    generalize byteAt s (i : Int) = c
    generalize okF s d (i + 1) = r
    generalize decide (c ≥ 97) = p1
    generalize decide (c ≤ 122) = p2
    generalize decide (c ≥ 65) = p3
    generalize decide (c ≤ 90) = p4
    generalize decide (c ≥ 48) = p5
    generalize decide (c ≤ 57) = p6
    generalize (c == 45) = p7
    generalize (c == 46) = p8
    generalize (c == 95) = p9
    cases p1 <;> cases p2 <;> cases p3 <;> cases p4 <;> cases p5 <;> cases p6 <;> cases p7 <;> cases p8 <;> cases p9 <;> rfl
theorem refPlain_ok (s : ByteArray) (hs : s.size ≤ 1000000) : V.pleachref06_plain s = some (plainB s) := by
  apply V.pleachref06_plain.of; unfold F.pleachref06_plain.B
  exact refPlain_l s hs s.size 0 (by omega)

/-! ### A value's word -/
def showB (v : TValue) : ByteArray :=
  if valueB v then (if v.1 = 1 then (if v.2.1 = 1 then ⟨#[116, 114, 117, 101]⟩ else ⟨#[102, 97, 108, 115, 101]⟩) else if v.1 = 2 then itoaS v.2.1 else if plainB v.2.2 then (⟨#[39]⟩ : ByteArray) ++ v.2.2 else (⟨#[35]⟩ : ByteArray) ++ hexB v.2.2) else ⟨#[]⟩
theorem value_kind {v : TValue} (h : valueB v = true) : (v.1 = 1 ∨ v.1 = 2 ∨ v.1 = 3) ∧ v.2.2.size ≤ 64 := by
  unfold valueB at h
  simp only [Bool.or_eq_true, Bool.and_eq_true, beq_iff_eq, decide_eq_true_eq] at h
  omega
theorem one_app (c : UInt8) (s : ByteArray) : ((⟨#[c]⟩ : ByteArray) ++ s).size = 1 + s.size := by rw [ByteArray.size_append]; rfl
theorem Itoa_ok {a : Int} (h0 : -9223372036854775808 ≤ a) (h1 : a ≤ 9223372036854775807) : V.strconv_Itoa a = some (itoaS a) := by
  apply V.strconv_Itoa.of
  show itoaB a = _
  unfold itoaB
  rw [itoaK_eq h0 h1]
  exact guard_of (by simp [h0, h1])
theorem refShow_ok (v : TValue) (hb : -9223372036854775808 ≤ v.2.1 ∧ v.2.1 ≤ 9223372036854775807) : V.pleachref06_Show v = some (showB v) := by
  obtain ⟨k, n, t⟩ := v
  apply V.pleachref06_Show.of; unfold F.pleachref06_Show.B
  rw [refVIs_ok, Option.bind_some]
  unfold showB
  cases hv : valueB (k, n, t) with
  | false => simp
  | true =>
    obtain ⟨hk, ht⟩ := value_kind hv
    simp only at hk ht hb
    simp only [if_true]
    rw [Digits_ok hb.1 hb.2, refPlain_ok t (by omega), refHex_ok t (by omega)]
    simp only [Option.bind_some]
    rw [guard_dec (p := (⟨#[39]⟩ : ByteArray).size + t.size ≤ i64max) (by show 1 + _ ≤ _; simp only [i64max]; omega), guard_dec (p := (⟨#[35]⟩ : ByteArray).size + (hexB t).size ≤ i64max) (by rw [hexB_size]; show 1 + _ ≤ _; simp only [i64max]; omega)]
    rcases hk with rfl | rfl | rfl
    · by_cases h1 : n = 1
      · subst h1; simp
      · rw [show (n == 1) = false from beq_eq_false_iff_ne.2 h1, if_neg (show ¬ ((1, n, t) : TValue).2.1 = 1 from h1)]; rfl
    · simp
    · cases plainB t <;> simp
theorem int_wf {n : Int} (h : (Lit.int .i64 n).wf = true) : -9223372036854775808 ≤ n ∧ n ≤ 9223372036854775807 := by
  have e1 : IntKind.i64.min = -9223372036854775808 := rfl
  have e2 : IntKind.i64.max = 9223372036854775807 := rfl
  simpa only [Lit.wf, e1, e2, Bool.and_eq_true, decide_eq_true_eq] using h
end Go.Proofs.YtmhonabmnphflaaGreatDoor.AE
end
section
set_option linter.unusedVariables false
set_option linter.unusedSimpArgs false
namespace Go.Proofs.YtmhonabmnphflaaGreatDoor.AE
open Go

/-! ### A value of bytes -/
end Go.Proofs.YtmhonabmnphflaaGreatDoor.AE
end
section
set_option linter.unusedVariables false
set_option linter.unusedSimpArgs false
namespace Go.Proofs.YtmhonabmnphflaaGreatDoor.AE
open Go

def hv (c : Int) : Int := if 48 ≤ c ∧ c ≤ 57 then c - 48 else if 97 ≤ c ∧ c ≤ 102 then c - 87 else 16
theorem hv_range {c : Int} (h0 : 0 ≤ c) (h1 : c < 256) : 0 ≤ hv c ∧ hv c ≤ 16 := by unfold hv; split <;> (try split) <;> omega
def plF (c : Int) : Nat → Nat → Int
  | 0, _ => 16
  | d + 1, i => bif byteAt hexD (i : Int) == c then (i : Int) else plF c d (i + 1)
theorem place_l (c : Int) : ∀ d i : Nat, i + d = 16 → V.pleachref03_place.l11010 c (i : Int) = some (plF c d i)
  | 0, i, h => by
    apply V.pleachref03_place.l11010.of; unfold F.pleachref03_place.l11010.B
    rw [if_no (by omega)]; rfl
  | d + 1, i, h => by
    apply V.pleachref03_place.l11010.of; unfold F.pleachref03_place.l11010.B
    rw [if_yes (by omega), hexD_size, guard_of (by simp only [Bool.and_eq_true, decide_eq_true_eq]; omega), w64_up (n := 16) (by omega) (by omega), place_l c d (i + 1) (by omega)]
    simp only [plF]
    cases (byteAt hexD (i : Int) == c) <;> rfl
theorem place_ok {c : Int} (h0 : 0 ≤ c) (h1 : c < 256) : V.pleachref03_place c = some (hv c) := by
  apply V.pleachref03_place.of; unfold F.pleachref03_place.B
  have := place_l c 16 0 (by omega)
  rw [byte_fin (p := fun c => plF c 16 0 = hv c) (by decide +kernel) h0 h1] at this
  exact this
theorem pair_fin {p : Int → Int → Prop} (h : ∀ a b : Fin 16, p (a.val : Int) (b.val : Int)) {a b : Int} (h0 : 0 ≤ a) (h1 : a ≤ 15) (g0 : 0 ≤ b) (g1 : b ≤ 15) : p a b := by
  obtain ⟨n, rfl⟩ := Int.eq_ofNat_of_zero_le h0
  obtain ⟨m, rfl⟩ := Int.eq_ofNat_of_zero_le g0
  exact h ⟨n, by omega⟩ ⟨m, by omega⟩
theorem pairR {a b : Int} (h0 : 0 ≤ a) (h1 : a ≤ 15) (g0 : 0 ≤ b) (g1 : b ≤ 15) : IntKind.wrap .u8 (w64 ((w64 (16 * a)) + b)) = 16 * a + b :=
  pair_fin (p := fun a b => IntKind.wrap .u8 (w64 ((w64 (16 * a)) + b)) = 16 * a + b) (by decide +kernel) h0 h1 g0 g1
def uhx (s : ByteArray) : Nat → Nat → Option (List Int)
  | 0, _ => some []
  | d + 1, i => if hv (byteAt s (i : Int)) ≤ 15 ∧ hv (byteAt s ((i + 1 : Nat) : Int)) ≤ 15 then (uhx s d (i + 2)).map fun l => (16 * hv (byteAt s (i : Int)) + hv (byteAt s ((i + 1 : Nat) : Int))) :: l else none
theorem w64_two {i n : Nat} (h : i + 1 < n) (hn : n ≤ 140737488351232) : w64 ((i : Int) + 2) = ((i + 2 : Nat) : Int) := by rw [w64_id (by omega) (by omega)]; omega
def unhexV (s : ByteArray) : ByteArray × Bool := if s.size % 2 = 0 then (match uhx s (s.size / 2) 0 with | some l => (bytesOf l, true) | none => ((⟨#[]⟩ : ByteArray), false)) else ((⟨#[]⟩ : ByteArray), false)
theorem tmod2 (n : Nat) : Int.tmod (n : Int) 2 = ((n % 2 : Nat) : Int) := by rw [Int.tmod_eq_emod_of_nonneg (by omega)]; omega
theorem refUnhex_l (s : ByteArray) (hs : s.size ≤ 1000000) : ∀ (d i : Nat) (x : ByteArray), i + 2 * d + s.size % 2 = s.size → x.size ≤ i → V.pleachref03_Unhex.l11010 s x (i : Int) = some (match uhx s d i with | some l => (if s.size % 2 = 0 then (x ++ bytesOf l, true) else ((⟨#[]⟩ : ByteArray), false)) | none => ((⟨#[]⟩ : ByteArray), false))
  | 0, i, x, h, hx => by
    apply V.pleachref03_Unhex.l11010.of; unfold F.pleachref03_Unhex.l11010.B
    rw [w64_id (by omega) (by omega), if_no (by omega), tmod2]
    simp only [uhx]
    by_cases g : s.size % 2 = 0
    · rw [g, if_pos rfl]
      exact congrArg some (congrArg (fun y => (y, true)) (app_nil x).symm)
    · rw [if_neg g, show (((s.size % 2 : Nat) : Int) != 0) = true from bne_ne (by omega)]; rfl
  | d + 1, i, x, h, hx => by
    obtain ⟨b0, b1⟩ := bt_range s (i : Int)
    obtain ⟨c0, c1⟩ := bt_range s ((i + 1 : Nat) : Int)
    have r0 := hv_range b0 b1
    have r1 := hv_range c0 c1
    apply V.pleachref03_Unhex.l11010.of; unfold F.pleachref03_Unhex.l11010.B
    rw [w64_up (n := s.size) (by omega) (by omega), if_in (by omega), guard_in (by omega), guard_in (by omega), place_ok b0 b1, Option.bind_some, place_ok c0 c1, Option.bind_some]
    simp only [uhx]
    by_cases h1 : hv (byteAt s (i : Int)) ≤ 15
    · rw [if_no (by omega)]
      by_cases h2 : hv (byteAt s ((i + 1 : Nat) : Int)) ≤ 15
      · rw [if_no (by omega), guard_dec (by rw [strOfNums_size]; simp only [List.length_cons, List.length_nil, i64max]; omega), pairR r0.1 h1 r1.1 h2, w64_two (n := s.size) (by omega) (by omega)]
        rw [refUnhex_l s hs d (i + 2) _ (by omega) (by rw [ByteArray.size_append, strOfNums_size]; simp only [List.length_cons, List.length_nil]; omega), if_pos ⟨h1, h2⟩]
        cases uhx s d (i + 2) with
        | none => rfl
        | some l =>
          simp only [Option.map_some]
          rw [show ∀ a : Int, a :: l = [a] ++ l from fun a => rfl, strOfNums_append, ByteArray.append_assoc]
      · rw [if_yes (by omega), if_neg (fun h => h2 h.2)]
    · rw [if_yes (by omega), if_neg (fun h => h1 h.1)]
theorem refUnhex_ok (s : ByteArray) (hs : s.size ≤ 1000000) : V.pleachref03_Unhex s = some (unhexV s) := by
  apply V.pleachref03_Unhex.of; unfold F.pleachref03_Unhex.B unhexV
  have := refUnhex_l s hs (s.size / 2) 0 ⟨#[]⟩ (by omega) (by simp [ByteArray.size])
  refine this.trans (congrArg some ?_)
  cases uhx s (s.size / 2) 0 with
  | none => simp
  | some l => simp only [nil_app]
theorem bt_bytesOf {L : List Int} (hL : isBytes L) {j : Nat} (hj : j < L.length) : byteAt (bytesOf L) (j : Int) = L.getD j 0 := by
  have hb := hL _ (List.getElem_mem hj)
  unfold byteAt bytesOf
  simp [List.getD, hj]
  omega
theorem hexD_byte (k : Int) : 0 ≤ byteAt hexD k ∧ byteAt hexD k < 256 := bt_range _ _
theorem hexL_bytes (t : ByteArray) : ∀ d i, isBytes (hexL t d i)
  | 0, i => by intro x hx; cases hx
  | d + 1, i => by
    intro x hx
    simp only [hexL, List.mem_cons] at hx
    rcases hx with rfl | rfl | hx
    · exact hexD_byte _
    · exact hexD_byte _
    · exact hexL_bytes t d (i + 1) x hx
theorem hexL_at (t : ByteArray) : ∀ d i k, k < d → (hexL t d i).getD (2 * k) 0 = byteAt hexD (byteAt t ((i + k : Nat) : Int) / 16) ∧ (hexL t d i).getD (2 * k + 1) 0 = byteAt hexD (byteAt t ((i + k : Nat) : Int) % 16)
  | d + 1, i, 0, h => ⟨rfl, rfl⟩
  | d + 1, i, k + 1, h => by
    have := hexL_at t d (i + 1) k (by omega)
    rw [show i + 1 + k = i + (k + 1) by omega] at this
    exact this
theorem hv_hexD {k : Int} (h0 : 0 ≤ k) (h1 : k ≤ 15) : hv (byteAt hexD k) = k :=
  pair_fin (p := fun a b => hv (byteAt hexD a) = a) (by decide +kernel) h0 h1 (b := 0) (by omega) (by omega)
theorem uhx_hex (s t : ByteArray) : ∀ (d i p : Nat), (∀ k, k < d → byteAt s ((i + 2 * k : Nat) : Int) = byteAt hexD (byteAt t ((p + k : Nat) : Int) / 16) ∧ byteAt s ((i + 2 * k + 1 : Nat) : Int) = byteAt hexD (byteAt t ((p + k : Nat) : Int) % 16)) → uhx s d i = some (bl t d p)
  | 0, i, p, h => rfl
  | d + 1, i, p, h => by
    obtain ⟨h1, h2⟩ := h 0 (by omega)
    obtain ⟨b0, b1⟩ := bt_range t (p : Int)
    simp only [Nat.mul_zero, Nat.add_zero] at h1 h2
    simp only [uhx, bl]
    rw [h1, h2, hv_hexD (by omega) (by omega), hv_hexD (by omega) (by omega), if_pos ⟨by omega, by omega⟩]
    rw [uhx_hex s t d (i + 2) (p + 1) (fun k hk => by
      have := h (k + 1) (by omega)
      rw [show i + 2 * (k + 1) = i + 2 + 2 * k by omega, show p + (k + 1) = p + 1 + k by omega] at this
      exact this)]
    simp only [Option.map_some]
    rw [show 16 * (byteAt t (p : Int) / 16) + byteAt t (p : Int) % 16 = byteAt t (p : Int) by omega]
theorem unhex_hex (t : ByteArray) : unhexV (hexB t) = (t, true) := by
  unfold unhexV
  rw [hexB_size, if_pos (by omega), show 2 * t.size / 2 = t.size by omega]
  rw [uhx_hex (hexB t) t t.size 0 0 (fun k hk => by
    have hl := hexL_len t t.size 0
    have := hexL_at t t.size 0 k hk
    unfold hexB
    rw [show 0 + 2 * k = 2 * k by omega, bt_bytesOf (hexL_bytes t _ _) (by omega), bt_bytesOf (hexL_bytes t _ _) (by omega)]
    exact this)]
  simp only
  rw [bytesOf_bl t t.size (Nat.le_refl _)]
  simp

/-! ### Numbers -/
def in64 (x : Int) : Prop := -9223372036854775808 ≤ x ∧ x ≤ 9223372036854775807
theorem w64_in (x : Int) : in64 (w64 x) := by unfold in64; rw [w64_mod]; omega
theorem bl_ints (s : ByteArray) : ∀ d i, i + d = s.size → bl s d i = (intsOf s).drop i
  | 0, i, h => by
    have : (intsOf s).length = s.size := by unfold intsOf; rw [List.length_map, data_len]
    rw [List.drop_eq_nil_of_le (by omega)]; rfl
  | d + 1, i, h => by
    have hl : (intsOf s).length = s.size := by unfold intsOf; rw [List.length_map, data_len]
    rw [List.drop_eq_getElem_cons (by omega)]
    simp only [bl]
    rw [bl_ints s d (i + 1) (by omega), bt_data s i (by omega)]
    congr 1
    unfold intsOf
    simp
theorem decD_digit : ∀ (n : Nat), ∀ c ∈ Lib.decDigits n, 48 ≤ c.toNat ∧ c.toNat ≤ 57 := by
  intro n
  induction n using Nat.strongRecOn with
  | _ n ih =>
    intro c hc
    by_cases h : n < 10
    · rw [Lib.decDigits_one h] at hc
      simp at hc; subst hc
      simp; omega
    · rw [Lib.decDigits, dif_neg h] at hc
      simp at hc
      rcases hc with hc | hc
      · exact ih (n / 10) (by omega) c hc
      · subst hc; simp; omega
theorem decD_ne (n : Nat) : Lib.decDigits n ≠ [] := by
  rw [Lib.decDigits]; split <;> simp
def foldV (neg : Bool) (x : Int) (l : List Int) : Int := l.foldl (fun x c => bif neg then w64 ((w64 (x * 10)) - (w64 ((w64 c) - 48))) else w64 ((w64 (x * 10)) + (w64 ((w64 c) - 48)))) x
theorem dval {c : Int} (h0 : 48 ≤ c) (h1 : c ≤ 57) : w64 ((w64 c) - 48) = c - 48 := by rw [w64_id (x := c) (by omega) (by omega), w64_id (by omega) (by omega)]
theorem fold_dec (neg : Bool) : ∀ n : Nat, (n : Int) ≤ (bif neg then 9223372036854775808 else 9223372036854775807) → foldV neg 0 ((Lib.decDigits n).map fun b => (b.toNat : Int)) = bif neg then -(n : Int) else (n : Int) := by
  intro n
  induction n using Nat.strongRecOn with
  | _ n ih =>
    intro hn
    by_cases h : n < 10
    · rw [Lib.decDigits_one h]
      have e : ((UInt8.ofNat (48 + n)).toNat : Int) = 48 + n := by simp; omega
      simp only [List.map_cons, List.map_nil, foldV, List.foldl_cons, List.foldl_nil, e]
      rw [dval (by omega) (by omega)]
      cases neg
      · simp only [cond_false]; rw [w64_id (x := 0 * 10) (by omega) (by omega), w64_id (by omega) (by omega)]; omega
      · simp only [cond_true]; rw [w64_id (x := 0 * 10) (by omega) (by omega), w64_id (by omega) (by omega)]; omega
    · have hlt : ((n / 10 : Nat) : Int) ≤ (bif neg then 9223372036854775808 else 9223372036854775807) := by cases neg <;> simp only [cond_true, cond_false] at * <;> omega
      have := ih (n / 10) (by omega) hlt
      rw [Lib.decDigits, dif_neg h, List.map_append]
      unfold foldV at this ⊢
      rw [List.foldl_append, this]
      have e : ((UInt8.ofNat (48 + n % 10)).toNat : Int) = 48 + (n % 10 : Nat) := by simp; omega
      simp only [List.map_cons, List.map_nil, List.foldl_cons, List.foldl_nil, e]
      rw [dval (by omega) (by omega)]
      cases neg
      · simp only [cond_false] at *; rw [w64_id (x := ((n / 10 : Nat) : Int) * 10) (by omega) (by omega), w64_id (by omega) (by omega)]; omega
      · simp only [cond_true] at *; rw [w64_id (x := -((n / 10 : Nat) : Int) * 10) (by omega) (by omega), w64_id (by omega) (by omega)]; omega
theorem number_tot (s : ByteArray) (hs : s.size ≤ 1000000) : ∀ (d i : Nat) (x : Int), i + d = s.size → in64 x → ∃ r : Int × Bool, V.pleachref06_number.l1111010 s x (i : Int) = some r ∧ in64 r.1
  | 0, i, x, h, hx => ⟨(x, true), by
      apply V.pleachref06_number.l1111010.of; unfold F.pleachref06_number.l1111010.B
      rw [if_out (by omega)], hx⟩
  | d + 1, i, x, h, hx => by
    obtain ⟨r1, e1, g1⟩ := number_tot s hs d (i + 1) x (by omega) hx
    obtain ⟨r2, e2, g2⟩ := number_tot s hs d (i + 1) (w64 ((w64 (x * 10)) - (w64 ((w64 (byteAt s (i : Int))) - 48)))) (by omega) (w64_in _)
    obtain ⟨r3, e3, g3⟩ := number_tot s hs d (i + 1) (w64 ((w64 (x * 10)) + (w64 ((w64 (byteAt s (i : Int))) - 48)))) (by omega) (w64_in _)
    have z : in64 0 := by unfold in64; omega
    have B := fun {r} => V.pleachref06_number.l1111010.of s x (i : Int) (r := r)
    unfold F.pleachref06_number.l1111010.B at B
    rw [if_in (by omega), w64_up (n := s.size) (by omega) (by omega), e1, e2, e3] at B
    simp only [guard_in (show i < s.size by omega)] at B
    by_cases c1 : ((i : Int) == 0) = true
    · by_cases c2 : (byteAt s 0 == 45) = true
      · exact ⟨r1, B (by rw [c1, c2]; rfl), g1⟩
      · simp only [Bool.not_eq_true] at c2
        by_cases c3 : byteAt s (i : Int) < 48
        · exact ⟨(0, false), B (by rw [c1, c2, if_yes c3]; rfl), z⟩
        · by_cases c4 : byteAt s (i : Int) > 57
          · exact ⟨(0, false), B (by rw [c1, c2, if_no c3, if_yes c4]; rfl), z⟩
          · exact ⟨r3, B (by rw [c1, c2, if_no c3, if_no c4]; rfl), g3⟩
    · simp only [Bool.not_eq_true] at c1
      by_cases c3 : byteAt s (i : Int) < 48
      · exact ⟨(0, false), B (by rw [c1, if_yes c3]; rfl), z⟩
      · by_cases c4 : byteAt s (i : Int) > 57
        · exact ⟨(0, false), B (by rw [c1, if_no c3, if_yes c4]; rfl), z⟩
        · by_cases c2 : (byteAt s 0 == 45) = true
          · exact ⟨r2, B (by rw [c1, c2, if_no c3, if_no c4]; rfl), g2⟩
          · simp only [Bool.not_eq_true] at c2
            exact ⟨r3, B (by rw [c1, c2, if_no c3, if_no c4]; rfl), g3⟩
theorem number_dig (s : ByteArray) (hs : s.size ≤ 1000000) : ∀ (d i : Nat) (x : Int), i + d = s.size → (∀ j, i ≤ j → j < s.size → 48 ≤ byteAt s (j : Int) ∧ byteAt s (j : Int) ≤ 57) → (i ≠ 0 ∨ (byteAt s 0 == 45) = false) →
    V.pleachref06_number.l1111010 s x (i : Int) = some (foldV (byteAt s 0 == 45) x (bl s d i), true)
  | 0, i, x, h, hd, hi => by
    apply V.pleachref06_number.l1111010.of; unfold F.pleachref06_number.l1111010.B
    rw [if_out (by omega)]; rfl
  | d + 1, i, x, h, hd, hi => by
    obtain ⟨b0, b1⟩ := hd i (Nat.le_refl _) (by omega)
    have IH := fun x => number_dig s hs d (i + 1) x (by omega) (fun j h1 h2 => hd j (by omega) h2) (.inl (by omega))
    apply V.pleachref06_number.l1111010.of; unfold F.pleachref06_number.l1111010.B
    rw [if_in (by omega), w64_up (n := s.size) (by omega) (by omega), IH, IH, IH]
    simp only [guard_in (show i < s.size by omega)]
    rw [if_no (show ¬ byteAt s (i : Int) < 48 by omega), if_no (show ¬ byteAt s (i : Int) > 57 by omega)]
    have e : foldV (byteAt s 0 == 45) x (bl s (d + 1) i) = foldV (byteAt s 0 == 45) (bif byteAt s 0 == 45 then w64 ((w64 (x * 10)) - (w64 ((w64 (byteAt s (i : Int))) - 48))) else w64 ((w64 (x * 10)) + (w64 ((w64 (byteAt s (i : Int))) - 48)))) (bl s d (i + 1)) := rfl
    rw [e]
    cases hc : (byteAt s 0 == 45) with
    | false => cases ((i : Int) == 0) <;> rfl
    | true =>
      rcases hi with hi | hi
      · rw [show ((i : Int) == 0) = false from beq_eq_false_iff_ne.2 (by omega)]; rfl
      · rw [hc] at hi; cases hi
end Go.Proofs.YtmhonabmnphflaaGreatDoor.AE
end
section
set_option linter.unusedVariables false
set_option linter.unusedSimpArgs false
namespace Go.Proofs.YtmhonabmnphflaaGreatDoor.AE
open Go

theorem ints_dB (n : Nat) : intsOf (dB n) = (Lib.decDigits n).map fun b => (b.toNat : Int) := rfl
theorem byte_list (l : List UInt8) (i : Nat) : byteAt ⟨l.toArray⟩ (i : Int) = ((l.getD i 0).toNat : Int) := rfl
theorem dB_digit {n i : Nat} (h : i < (dB n).size) : 48 ≤ byteAt (dB n) (i : Int) ∧ byteAt (dB n) (i : Int) ≤ 57 := by
  have hl : i < (Lib.decDigits n).length := h
  have := decD_digit n _ (List.getElem_mem hl)
  unfold dB
  rw [byte_list, show (Lib.decDigits n).getD i 0 = (Lib.decDigits n)[i] by simp [List.getD, hl]]
  omega
theorem dB_pos (n : Nat) : 0 < (dB n).size := List.length_pos_iff.2 (decD_ne n)
theorem number_itoa {n : Int} (h : in64 n) : V.pleachref06_number (itoaS n) = some (n, true) := by
  have hz := itoaS_size h.1 h.2
  apply V.pleachref06_number.of; unfold F.pleachref06_number.B
  by_cases hn : n < 0
  · have hs : (itoaS n).size = 1 + (dB n.natAbs).size := by rw [itoaS_neg hn, ByteArray.size_append]; rfl
    have h19 := dB_size 18 n.natAbs (by have := h.1; omega)
    rw [show (((itoaS n).size : Int) == 0) = false from beq_eq_false_iff_ne.2 (by omega), cond_false, if_no (by omega), guard_dec (by omega)]
    have e0 : itoaS n = ⟨(45 :: Lib.decDigits n.natAbs).toArray⟩ := by unfold itoaS Lib.itoa; rw [if_pos hn]
    have b0 : byteAt (itoaS n) 0 = 45 := by rw [e0]; rfl
    have step : V.pleachref06_number.l1111010 (itoaS n) 0 ((0 : Nat) : Int) = V.pleachref06_number.l1111010 (itoaS n) 0 ((1 : Nat) : Int) := by
      have := number_dig (itoaS n) (by omega) (dB n.natAbs).size 1 0 (by omega) (fun j h1 h2 => by
        obtain ⟨k, rfl⟩ : ∃ k, j = k + 1 := ⟨j - 1, by omega⟩
        have := dB_digit (n := n.natAbs) (i := k) (by omega)
        rw [e0, byte_list]
        unfold dB at this
        rw [byte_list] at this
        exact this) (.inl (by omega))
      rw [this]
      apply V.pleachref06_number.l1111010.of; unfold F.pleachref06_number.l1111010.B
      rw [if_in (by omega), b0, show (((0 : Nat) : Int) == 0) = true from rfl, cond_true, show ((45 : Int) == 45) = true from rfl, cond_true, w64_up (n := 5) (by omega) (by omega)]
      rw [b0] at this
      exact this
    have := number_dig (itoaS n) (by omega) (dB n.natAbs).size 1 0 (by omega) (fun j h1 h2 => by
        obtain ⟨k, rfl⟩ : ∃ k, j = k + 1 := ⟨j - 1, by omega⟩
        have := dB_digit (n := n.natAbs) (i := k) (by omega)
        rw [e0, byte_list]
        unfold dB at this
        rw [byte_list] at this
        exact this) (.inl (by omega))
    refine step.trans (this.trans ?_)
    rw [bl_ints _ _ _ (by omega), b0, show ((45 : Int) == 45) = true from rfl]
    rw [show (intsOf (itoaS n)).drop 1 = (Lib.decDigits n.natAbs).map fun b => (b.toNat : Int) by rw [e0]; rfl, fold_dec true _ (by simp only [cond_true]; have := h.1; omega)]
    simp only [cond_true]
    congr 2
    omega
  · obtain ⟨m, rfl⟩ := Int.eq_ofNat_of_zero_le (show 0 ≤ n by omega)
    have hs : (itoaS (m : Int)).size = (dB m).size := by rw [itoaS_pos]
    have h19 := dB_size 18 m (by have := h.2; omega)
    have hp := dB_pos m
    rw [show (((itoaS (m : Int)).size : Int) == 0) = false from beq_eq_false_iff_ne.2 (by omega), cond_false, if_no (by omega), guard_dec (by omega)]
    rw [itoaS_pos]
    have d0 := dB_digit (n := m) (i := 0) hp
    have hc : (byteAt (dB m) 0 == 45) = false := beq_eq_false_iff_ne.2 (by have : byteAt (dB m) ((0 : Nat) : Int) = byteAt (dB m) 0 := rfl; omega)
    have := number_dig (dB m) (by omega) (dB m).size 0 0 (by omega) (fun j h1 h2 => dB_digit h2) (.inr hc)
    refine this.trans ?_
    rw [bl_ints _ _ _ (by omega), List.drop_zero, ints_dB, hc, fold_dec false _ (by simp only [cond_false]; exact h.2)]
    rfl
def andU (x : Lib.NumEnd Nat) (f : Nat → Lib.NumEnd Nat) : Lib.NumEnd Nat := match x with
  | .ok u => f u
  | y => y
theorem parseU_snoc (c : UInt8) : ∀ (l : List UInt8) (acc : Nat), Lib.parseUint10 acc (l ++ [c]) = andU (Lib.parseUint10 acc l) (fun u => Lib.parseUint10 u [c])
  | [], acc => rfl
  | x :: l, acc => by
    simp only [List.cons_append, Lib.parseUint10]
    by_cases h1 : 48 ≤ x.toNat ∧ x.toNat ≤ 57
    · rw [if_pos h1, if_pos h1]
      by_cases h2 : 1844674407370955162 ≤ acc
      · rw [if_pos h2, if_pos h2]; rfl
      · rw [if_neg h2, if_neg h2]
        by_cases h3 : 18446744073709551616 ≤ acc * 10 + (x.toNat - 48)
        · rw [if_pos h3, if_pos h3]; rfl
        · rw [if_neg h3, if_neg h3]
          exact parseU_snoc c l _
    · rw [if_neg h1, if_neg h1]; rfl
theorem parseU_dec : ∀ n : Nat, n < 18446744073709551616 → Lib.parseUint10 0 (Lib.decDigits n) = .ok n := by
  intro n
  induction n using Nat.strongRecOn with
  | _ n ih =>
    intro hn
    by_cases h : n < 10
    · have e : (UInt8.ofNat (48 + n)).toNat = 48 + n := by simp; omega
      rw [Lib.decDigits_one h]
      simp only [Lib.parseUint10, e]
      rw [if_pos (by omega), if_neg (by omega), if_neg (by omega)]
      congr 1; omega
    · have e : (UInt8.ofNat (48 + n % 10)).toNat = 48 + n % 10 := by simp; omega
      rw [Lib.decDigits, dif_neg h, parseU_snoc, ih (n / 10) (by omega) (by omega)]
      simp only [andU, Lib.parseUint10, e]
      rw [if_pos (by omega), if_neg (by omega), if_neg (by omega)]
      congr 1; omega
theorem mag_dec {n : Nat} (h : n < 18446744073709551616) : Lib.parseMag (Lib.decDigits n) = .ok n := by
  unfold Lib.parseMag; rw [if_neg (decD_ne n), parseU_dec n h]
theorem atoi_itoa {n : Int} (h : in64 n) : atoiV (itoaS n) = (n, true) := by
  have key : Lib.atoiAll (Lib.itoa n) = .ok n := by
    unfold Lib.itoa
    by_cases hn : n < 0
    · rw [if_pos hn]
      unfold Lib.atoiAll
      have := h.1
      simp only [show (45 : UInt8).toNat = 45 from rfl]
      rw [if_pos (by simp), mag_dec (by omega)]
      simp
      rw [if_neg (by omega)]
      congr 1; omega
    · rw [if_neg hn]
      have h2 := h.2
      cases hd : Lib.decDigits n.toNat with
      | nil => exact absurd hd (decD_ne _)
      | cons c r =>
        have hc := decD_digit n.toNat c (by rw [hd]; exact List.mem_cons_self)
        unfold Lib.atoiAll
        simp only
        rw [if_neg (by omega), ← hd, mag_dec (by omega)]
        simp only
        rw [if_neg (by omega), if_neg (by omega), if_neg (by omega)]
        congr 1; omega
  unfold atoiV
  rw [show (itoaS n).data.toList = Lib.itoa n from rfl, key]
theorem atoiV_in (s : ByteArray) : in64 (atoiV s).1 := by
  unfold atoiV
  cases h : Lib.atoiAll s.data.toList with
  | ok v =>
    simp only
    unfold Lib.atoiAll at h
    cases hl : s.data.toList with
    | nil => rw [hl] at h; cases h
    | cons c r =>
      rw [hl] at h
      simp only at h
      cases hm : Lib.parseMag (if c.toNat = 43 ∨ c.toNat = 45 then r else c :: r) with
      | ok u =>
        rw [hm] at h
        simp only at h
        split at h
        · cases h
        · split at h
          · cases h
          · injection h with h
            subst h
            unfold in64
            split <;> omega
      | _ => rw [hm] at h; cases h
  | range =>
    simp only
    unfold Lib.atoiSat in64
    split <;> omega
  | _ => simp only; unfold in64; omega
theorem Atoi_ok {s : ByteArray} (hs : s.size ≤ 1000000) : V.strconv_Atoi s = some (atoiV s) := by
  apply V.strconv_Atoi.of
  show atoiB s = _
  unfold atoiB
  exact guard_dec (by omega)
noncomputable def numR (s : ByteArray) : Int × Bool := (V.pleachref06_number s).getD (0, false)
theorem number_ok {s : ByteArray} (hs : s.size ≤ 1000000) : V.pleachref06_number s = some (numR s) ∧ in64 (numR s).1 := by
  have z : in64 0 := by unfold in64; omega
  obtain ⟨r, h1, h2⟩ := number_tot s hs s.size 0 0 (by omega) z
  have : ∃ r, V.pleachref06_number s = some r ∧ in64 r.1 := by
    have B := fun {r} => V.pleachref06_number.of s (r := r)
    unfold F.pleachref06_number.B at B
    by_cases e0 : s.size = 0
    · exact ⟨(0, false), B (by rw [e0]; rfl), z⟩
    · by_cases e1 : (s.size : Int) > 20
      · exact ⟨(0, false), B (by rw [show ((s.size : Int) == 0) = false from beq_eq_false_iff_ne.2 (by omega), if_yes e1]; rfl), z⟩
      · exact ⟨r, B (by rw [show ((s.size : Int) == 0) = false from beq_eq_false_iff_ne.2 (by omega), cond_false, if_no e1, guard_dec (by omega)]; exact h1), h2⟩
  obtain ⟨r, e1, e2⟩ := this
  unfold numR
  rw [e1]
  exact ⟨rfl, e2⟩
theorem numR_itoa {n : Int} (h : in64 n) : numR (itoaS n) = (n, true) := by unfold numR; rw [number_itoa h]; rfl
theorem numR_nil : (numR ⟨#[]⟩).2 = false := by
  have : V.pleachref06_number (⟨#[]⟩ : ByteArray) = some (0, false) := by
    apply V.pleachref06_number.of; unfold F.pleachref06_number.B; rfl
  unfold numR; rw [this]; rfl

/-! ### What a word is read as -/
abbrev trueS : ByteArray := ⟨#[116, 114, 117, 101]⟩
abbrev falseS : ByteArray := ⟨#[102, 97, 108, 115, 101]⟩
def readF (f : ByteArray → Int × Bool) (s : ByteArray) : TValue × Bool :=
  if s = trueS then ((1, 1, ⟨#[]⟩), true) else if s = falseS then ((1, 0, ⟨#[]⟩), true)
  else if 0 < s.size ∧ byteAt s 0 = 39 then ((3, 0, s.extract 1 s.size), true)
  else if 0 < s.size ∧ byteAt s 0 = 35 then ((3, 0, (unhexV (s.extract 1 s.size)).1), (unhexV (s.extract 1 s.size)).2)
  else ((2, (f s).1, ⟨#[]⟩), (f s).2)
theorem one_byte (c : UInt8) (t : ByteArray) : byteAt ((⟨#[c]⟩ : ByteArray) ++ t) 0 = (c.toNat : Int) := by
  unfold byteAt; simp
theorem one_tail (c : UInt8) (t : ByteArray) : ((⟨#[c]⟩ : ByteArray) ++ t).extract 1 ((⟨#[c]⟩ : ByteArray) ++ t).size = t := by
  apply bytes_ext
  rw [ByteArray.toList_eq, ByteArray.toList_eq, extract_toList]
  simp
  rw [List.take_of_length_le]
  rw [data_len]; show _ ≤ 1 + _ - 1; omega
theorem in_one {a b : ByteArray} (h : byteAt a 0 ≠ byteAt b 0) : a ≠ b := fun e => h (by rw [e])
theorem readF_show {f : ByteArray → Int × Bool} (hf : ∀ n, in64 n → f (itoaS n) = (n, true)) {v : TValue} (hv : valueB v = true) (hb : in64 v.2.1) : readF f (showB v) = (v, true) := by
  obtain ⟨k, n, t⟩ := v
  unfold showB
  rw [if_pos hv]
  unfold valueB at hv
  simp only [Bool.or_eq_true, Bool.and_eq_true, beq_iff_eq, decide_eq_true_eq] at hv
  simp only at hb ⊢
  rcases hv with (⟨⟨rfl, hn⟩, ht⟩ | ⟨rfl, ht⟩) | ⟨⟨rfl, rfl⟩, ht⟩
  · obtain rfl := size_zero ht
    rw [if_pos rfl]
    rcases hn with rfl | rfl
    · rw [if_neg (by decide)]
      unfold readF
      rw [if_neg (by decide), if_pos rfl]
    · rw [if_pos rfl]
      unfold readF
      rw [if_pos rfl]
  · obtain rfl := size_zero ht
    rw [if_neg (by decide), if_pos rfl]
    have hd : byteAt (itoaS n) 0 = 45 ∨ (48 ≤ byteAt (itoaS n) 0 ∧ byteAt (itoaS n) 0 ≤ 57) := by
      by_cases hn : n < 0
      · left; rw [itoaS_neg hn, one_byte]; rfl
      · right
        obtain ⟨m, rfl⟩ := Int.eq_ofNat_of_zero_le (show 0 ≤ n by omega)
        rw [itoaS_pos]
        exact dB_digit (i := 0) (dB_pos m)
    unfold readF
    rw [if_neg (in_one (by rw [show byteAt trueS 0 = 116 from rfl]; omega)), if_neg (in_one (by rw [show byteAt falseS 0 = 102 from rfl]; omega)), if_neg (fun h => by omega), if_neg (fun h => by omega), hf n hb]
  · rw [if_neg (by decide), if_neg (by decide)]
    unfold readF
    by_cases hp : plainB t = true
    · rw [if_pos hp]
      have b0 := one_byte 39 t
      rw [if_neg (in_one (by rw [b0]; decide)), if_neg (in_one (by rw [b0]; decide)), if_pos ⟨by rw [ByteArray.size_append]; show 0 < 1 + _; omega, by rw [b0]; rfl⟩, one_tail]
    · rw [if_neg hp]
      have b0 := one_byte 35 (hexB t)
      rw [if_neg (in_one (by rw [b0]; decide)), if_neg (in_one (by rw [b0]; decide)), if_neg (fun h => by rw [b0] at h; exact absurd h.2 (by decide)), if_pos ⟨by rw [ByteArray.size_append]; show 0 < 1 + _; omega, by rw [b0]; rfl⟩, one_tail, unhex_hex]
theorem readF_nil {f : ByteArray → Int × Bool} (hf : (f ⟨#[]⟩).2 = false) : (readF f ⟨#[]⟩).2 = false := by
  unfold readF
  rw [if_neg (by decide), if_neg (by decide), if_neg (fun h => by exact absurd h.1 (by decide)), if_neg (fun h => by exact absurd h.1 (by decide))]
  exact hf
theorem readF_in {f : ByteArray → Int × Bool} (hf : ∀ s, s.size ≤ 1000000 → in64 (f s).1) {s : ByteArray} (hs : s.size ≤ 1000000) : in64 (readF f s).1.2.1 := by
  have z : in64 0 := by unfold in64; omega
  have o : in64 1 := by unfold in64; omega
  unfold readF
  split
  · exact o
  · split
    · exact z
    · split
      · exact z
      · split
        · exact z
        · exact hf s hs
theorem tail_guard {α : Type} {s : ByteArray} {a : Option α} (h : 0 < s.size) : guardK (decide (1 ≤ (s.size : Int)) && decide ((s.size : Int) ≤ (s.size : Int))) a = a := guard_of (by simp; omega)
noncomputable def parseF (f : ByteArray → Int × Bool) (s : ByteArray) : Option TValue := if (readF f s).2 = true ∧ showB (readF f s).1 = s then some (readF f s).1 else none
theorem parse_iff {f : ByteArray → Int × Bool} (hf : ∀ n, in64 n → f (itoaS n) = (n, true)) (h0 : (f ⟨#[]⟩).2 = false) (hi : ∀ s, s.size ≤ 1000000 → in64 (f s).1) {s : ByteArray} (hs : s.size ≤ 1000000) (v : TValue) :
    parseF f s = some v ↔ valueB v = true ∧ in64 v.2.1 ∧ showB v = s := by
  unfold parseF
  constructor
  · intro h
    split at h
    · rename_i hh
      cases h
      refine ⟨?_, readF_in hi hs, hh.2⟩
      cases hv : valueB (readF f s).1 with
      | true => rfl
      | false =>
        have hz := hh.2
        unfold showB at hz
        rw [hv, if_neg (by decide)] at hz
        rw [← hz, readF_nil h0] at hh
        exact absurd hh.1 (by decide)
    · cases h
  · rintro ⟨h1, h2, rfl⟩
    rw [readF_show hf h1 h2, if_pos ⟨rfl, rfl⟩]
theorem refParse_ok {s : ByteArray} (hs : s.size ≤ 1000000) : V.pleachref06_Parse s = some (match parseF numR s with | some v => (v, true) | none => ((0, 0, (⟨#[]⟩ : ByteArray)), false)) := by
  apply V.pleachref06_Parse.of; unfold F.pleachref06_Parse.B
  have hb := readF_in (f := numR) (fun s h => (number_ok h).2) hs
  have hx := extract_size s 1 s.size
  obtain ⟨n1, n2⟩ := number_ok hs
  have z : -9223372036854775808 ≤ (0 : Int) ∧ (0 : Int) ≤ 9223372036854775807 := by omega
  have u1 := refUnhex_ok (s.extract 1 s.size) (by omega)
  have s1 := refShow_ok (3, 0, s.extract 1 s.size) z
  have s2 := refShow_ok (3, 0, (unhexV (s.extract 1 s.size)).1) z
  have s3 := refShow_ok (2, (numR s).1, ⟨#[]⟩) n2
  rw [strEq_dec, strEq_dec]
  unfold parseF
  by_cases h1 : s = trueS
  · subst h1; rfl
  · rw [if_no h1]
    by_cases h2 : s = falseS
    · subst h2
      rw [if_yes rfl, if_no (by decide)]
      rfl
    · rw [if_no h2]
      have fin : ∀ (v : TValue) (b : Bool), readF numR s = (v, b) → (bif !b then (some (((0, 0, (⟨#[]⟩ : ByteArray)) : TValue), false)) else (bif !strEq (showB v) s then some (((0, 0, (⟨#[]⟩ : ByteArray)) : TValue), false) else some (v, true))) =
          some (match (if (readF numR s).2 = true ∧ showB (readF numR s).1 = s then some (readF numR s).1 else none : Option TValue) with | some v => (v, true) | none => ((0, 0, (⟨#[]⟩ : ByteArray)), false)) := by
        intro v b e
        rw [e, strEq_dec]
        cases b with
        | false => simp
        | true => by_cases g : showB v = s <;> simp [g]
      have r0 : readF numR s = if 0 < s.size ∧ byteAt s 0 = 39 then ((3, 0, s.extract 1 s.size), true) else if 0 < s.size ∧ byteAt s 0 = 35 then ((3, 0, (unhexV (s.extract 1 s.size)).1), (unhexV (s.extract 1 s.size)).2) else ((2, (numR s).1, ⟨#[]⟩), (numR s).2) := by
        unfold readF; rw [if_neg h1, if_neg h2]
      have num : ((V.pleachref06_number s).bind fun t3 => (bif (!t3.2) then (some (((0, 0, (⟨#[]⟩ : ByteArray)) : TValue), false)) else ((V.pleachref06_Show (2, t3.1, (⟨#[]⟩ : ByteArray))).bind fun t4 => (bif (!strEq t4 s) then (some (((0, 0, (⟨#[]⟩ : ByteArray)) : TValue), false)) else (some ((2, t3.1, (⟨#[]⟩ : ByteArray)), true)))))) =
          (bif !(numR s).2 then (some (((0, 0, (⟨#[]⟩ : ByteArray)) : TValue), false)) else (bif !strEq (showB (2, (numR s).1, ⟨#[]⟩)) s then some (((0, 0, (⟨#[]⟩ : ByteArray)) : TValue), false) else some ((2, (numR s).1, ⟨#[]⟩), true))) := by
        rw [n1, Option.bind_some, s3, Option.bind_some]
      rw [num]
      by_cases h3 : 0 < s.size
      · rw [if_yes (show (s.size : Int) > 0 by omega), guard_dec (by omega), if_yes (show (s.size : Int) > 0 by omega), guard_dec (by omega), tail_guard h3, tail_guard h3, nat_cast, s1, u1, Option.bind_some, Option.bind_some, s2, Option.bind_some]
        by_cases h4 : byteAt s 0 = 39
        · rw [show (byteAt s 0 == 39) = true from beq_iff_eq.2 h4, cond_true]
          rw [← fin (3, 0, s.extract 1 s.size) true (by rw [r0, if_pos ⟨h3, h4⟩])]
          rfl
        · rw [show (byteAt s 0 == 39) = false from beq_eq_false_iff_ne.2 h4, cond_false]
          by_cases h5 : byteAt s 0 = 35
          · rw [show (byteAt s 0 == 35) = true from beq_iff_eq.2 h5, cond_true]
            rw [← fin (3, 0, (unhexV (s.extract 1 s.size)).1) (unhexV (s.extract 1 s.size)).2 (by rw [r0, if_neg (fun h => h4 h.2), if_pos ⟨h3, h5⟩])]
          · rw [show (byteAt s 0 == 35) = false from beq_eq_false_iff_ne.2 h5, cond_false]
            exact fin (2, (numR s).1, ⟨#[]⟩) (numR s).2 (by rw [r0, if_neg (fun h => h4 h.2), if_neg (fun h => h5 h.2)])
      · rw [if_no (show ¬ (s.size : Int) > 0 by omega), if_no (show ¬ (s.size : Int) > 0 by omega)]
        exact fin (2, (numR s).1, ⟨#[]⟩) (numR s).2 (by rw [r0, if_neg (fun h => h3 h.1), if_neg (fun h => h3 h.1)])
end Go.Proofs.YtmhonabmnphflaaGreatDoor.AE
end
section
set_option linter.unusedVariables false
set_option linter.unusedSimpArgs false
namespace Go.Proofs.YtmhonabmnphflaaGreatDoor.AE
open Go

theorem lim_at {α : Type} {a : Nat → Option α} {r : α} (N : Nat) (h : ∀ K, a (K + N) = some r) : AE.lim (fun v => a (v 0)) = some r :=
  lim_some.2 ⟨N, fun v hv => by
    have := hv 0
    obtain ⟨k, hk⟩ : ∃ k, v 0 = k + N := ⟨v 0 - N, by omega⟩
    show a (v 0) = some r
    rw [hk]; exact h k⟩
theorem FewOps_lf (l : List TOp) (hl : l.length ≤ 140737488351232) : ∀ (d i : Nat) (x : Int), i + d = l.length → ∃ b, V.pleachref26_FewOps.l11010 l x (i : Int) = some b
  | 0, i, x, h => by
    have e : V.pleachref26_FewOps.l11010 l x (i : Int) = some (if l.length ≤ 70 then decide (x ≤ 5000) else false) := by
      refine V.pleachref26_FewOps.l11010.of _ _ _ ?_
      unfold F.pleachref26_FewOps.l11010.B
      rw [if_out (by omega)]
      by_cases g : l.length ≤ 70
      · rw [if_yes (by omega), if_pos g]
      · rw [if_no (by omega), if_neg g]
    exact ⟨_, e⟩
  | d + 1, i, x, h => by
    have hi : i < l.length := by omega
    by_cases g : i ≤ 70
    · have key : ∀ y, ∃ b, V.pleachref26_FewOps.l11010 l y ((i + 1 : Nat) : Int) = some b := fun y => FewOps_lf l hl d (i + 1) y (by omega)
      have B := fun {r} => V.pleachref26_FewOps.l11010.of l x (i : Int) (r := r)
      unfold F.pleachref26_FewOps.l11010.B at B
      rw [if_in hi, if_yes (by omega : (i : Int) ≤ 70), guard_in hi, guard_in hi, guard_in hi, guard_in hi, guard_in hi, w64_up hi hl] at B
      obtain ⟨b, hb⟩ := key _
      exact ⟨b, B hb⟩
    · have e : V.pleachref26_FewOps.l11010 l x (i : Int) = some false := by
        refine V.pleachref26_FewOps.l11010.of _ _ _ ?_
        unfold F.pleachref26_FewOps.l11010.B
        rw [if_in hi, if_no (by omega : ¬ (i : Int) ≤ 70), if_no (by omega)]
      exact ⟨_, e⟩
theorem FewOps_f (l : List TOp) (hl : l.length ≤ 140737488351232) : ∃ b, V.pleachref26_FewOps l = some b := by
  obtain ⟨b, h⟩ := FewOps_lf l hl l.length 0 0 (by omega)
  exact ⟨b, V.pleachref26_FewOps.of _ h⟩
theorem Few_one (c : TCall) (hl : ((((((c).2).2).2).2).2).1.length ≤ 140737488351232) : ∃ b, V.pleachref40_Few [c] 1 = some b := by
  have e1 : ∀ x : Int, ∃ b, V.pleachref40_Few.l11010 [c] 1 x 1 = some b := fun x => by
    refine ⟨decide (x ≤ 6000), V.pleachref40_Few.l11010.of _ _ _ _ ?_⟩
    unfold F.pleachref40_Few.l11010.B
    rfl
  have w1 : w64 (0 + 1) = 1 := by rw [w64_id (by omega) (by omega)]; rfl
  have key : ∃ b, V.pleachref40_Few.l11010 [c] 1 0 0 = some b := by
    have B := fun {r} => V.pleachref40_Few.l11010.of [c] 1 0 0 (r := r)
    unfold F.pleachref40_Few.l11010.B at B
    rw [w1] at B
    rw [show (decide ((0 : Int) < (([c] : List TCall).length : Int))) = true from rfl, cond_true, show (decide ((0 : Int) ≤ 1)) = true from rfl, cond_true, show (decide (0 ≤ (0 : Int)) && true) = true from rfl, guard_tt] at B
    rw [show rd sCall ([c] : List TCall) (0 : Int).toNat = c from rfl] at B
    by_cases h : ((((((((c).2).2).2).2).2).1).length : Int) > 70
    · exact ⟨false, B (by rw [if_yes h])⟩
    · obtain ⟨b, hb⟩ := FewOps_f _ hl
      cases b with
      | false => exact ⟨false, B (by rw [if_no h, hb, Option.bind_some]; rfl)⟩
      | true =>
        obtain ⟨b, hb'⟩ := e1 _
        exact ⟨b, B (by rw [if_no h, hb, Option.bind_some, Bool.not_true, cond_false]; exact hb')⟩
  obtain ⟨b, h⟩ := key
  exact ⟨b, V.pleachref40_Few.of _ _ h⟩
end Go.Proofs.YtmhonabmnphflaaGreatDoor.AE
end
section
set_option linter.unusedVariables false
set_option linter.unusedSimpArgs false
namespace Go.Proofs.YtmhonabmnphflaaGreatDoor.AE
open Go
def nameC (n : Int) : ByteArray := (⟨#[35]⟩ : ByteArray) ++ itoaS n
theorem Name_ok {n : Int} (h : in64 n) : V.model_Name n = some (nameC n) := by
  have := itoaS_size h.1 h.2
  apply V.model_Name.of; unfold F.model_Name.B
  rw [Itoa_ok h.1 h.2, Option.bind_some, guard_dec (by show 1 + _ ≤ _; simp only [i64max]; omega)]; rfl
theorem rName_ok {n : Int} (h : in64 n) : V.pleachref40_Name n = some (nameC n) := by
  have := itoaS_size h.1 h.2
  apply V.pleachref40_Name.of; unfold F.pleachref40_Name.B
  rw [Digits_ok h.1 h.2, Option.bind_some, guard_dec (by show 1 + _ ≤ _; simp only [i64max]; omega)]; rfl
theorem itoa_pos (n : Int) (h : in64 n) : 0 < (itoaS n).size := by
  by_cases hn : n < 0
  · rw [itoaS_neg hn, one_app]; omega
  · obtain ⟨m, rfl⟩ := Int.eq_ofNat_of_zero_le (show 0 ≤ n by omega)
    rw [itoaS_pos]; exact dB_pos m
def progN (s : ByteArray) : Option Int := if s = ⟨#[]⟩ then none else if (atoiV (s.extract 1 s.size)).2 = true ∧ nameC (atoiV (s.extract 1 s.size)).1 = s then some (atoiV (s.extract 1 s.size)).1 else none
theorem progN_iff (s : ByteArray) (n : Int) : progN s = some n ↔ in64 n ∧ nameC n = s := by
  unfold progN
  constructor
  · intro h
    split at h
    · cases h
    · split at h
      · rename_i g; cases h; exact ⟨atoiV_in _, g.2⟩
      · cases h
  · rintro ⟨h, rfl⟩
    have e : (nameC n).extract 1 (nameC n).size = itoaS n := one_tail 35 (itoaS n)
    rw [if_neg (fun e => by
      have := congrArg ByteArray.size e
      unfold nameC at this; rw [one_app] at this
      have z : (⟨#[]⟩ : ByteArray).size = 0 := rfl
      omega), e, atoi_itoa h, if_pos ⟨rfl, rfl⟩]
theorem Number_ok {s : ByteArray} (hs : s.size ≤ 1000000) : V.model_Number s = some (match progN s with | some n => (n, true) | none => (0, false)) := by
  have hx := extract_size s 1 s.size
  apply V.model_Number.of; unfold F.model_Number.B progN
  rw [strEq_dec]
  by_cases h : s = ⟨#[]⟩
  · rw [if_yes h, if_pos h]
  · have hp : 0 < s.size := by
      rcases Nat.eq_zero_or_pos s.size with z | z
      · exact absurd (size_zero z) h
      · exact z
    rw [if_no h, if_neg h, tail_guard hp, nat_cast, Atoi_ok (by omega), Option.bind_some]
    cases ha : (atoiV (s.extract 1 s.size)).2 with
    | false => simp
    | true =>
      rw [Name_ok (atoiV_in _), Option.bind_some, strEq_dec]
      by_cases g : nameC (atoiV (s.extract 1 s.size)).1 = s
      · simp [g]
      · simp [g]
noncomputable def refN (s : ByteArray) : Option Int := if 2 ≤ s.size ∧ byteAt s 0 = 35 then (match parseF numR (s.extract 1 s.size) with | some v => if v.1 = 2 ∧ nameC v.2.1 = s then some v.2.1 else none | none => none) else none
theorem refN_iff {s : ByteArray} (hs : s.size ≤ 1000000) (n : Int) : refN s = some n ↔ in64 n ∧ nameC n = s := by
  have hx := extract_size s 1 s.size
  have PI := fun v => parse_iff (f := numR) (fun n h => numR_itoa h) numR_nil (fun s h => (number_ok h).2) (s := s.extract 1 s.size) (by omega) v
  unfold refN
  constructor
  · intro h
    split at h
    · split at h
      · rename_i v hv
        split at h
        · rename_i g; cases h; exact ⟨((PI v).1 hv).2.1, g.2⟩
        · cases h
      · cases h
    · cases h
  · rintro ⟨h, rfl⟩
    have e : (nameC n).extract 1 (nameC n).size = itoaS n := one_tail 35 (itoaS n)
    have hp := itoa_pos n h
    rw [if_pos ⟨by unfold nameC; rw [one_app]; omega, one_byte 35 _⟩]
    have hv : valueB (2, n, ⟨#[]⟩) = true := by simp [valueB, ByteArray.size]
    have hw : showB (2, n, ⟨#[]⟩) = itoaS n := by unfold showB; rw [if_pos hv, if_neg (show ¬ ((2 : Int), n, (⟨#[]⟩ : ByteArray)).1 = 1 from (by decide : ¬ (2 : Int) = 1)), if_pos rfl]
    rw [(PI (2, n, ⟨#[]⟩)).2 ⟨hv, h, by rw [hw, e]⟩]
    simp
theorem rNumber_ok {s : ByteArray} (hs : s.size ≤ 1000000) : V.pleachref40_Number s = some (match refN s with | some n => (n, true) | none => (0, false)) := by
  have hx := extract_size s 1 s.size
  have PI := fun v => parse_iff (f := numR) (fun n h => numR_itoa h) numR_nil (fun s h => (number_ok h).2) (s := s.extract 1 s.size) (by omega) v
  apply V.pleachref40_Number.of; unfold F.pleachref40_Number.B refN
  by_cases h : s.size < 2
  · rw [if_yes (by omega), if_neg (fun g => by omega)]
  · rw [if_no (by omega), guard_dec (by omega)]
    by_cases g : byteAt s 0 = 35
    · rw [show (byteAt s 0 != 35) = false by simp [g], cond_false, tail_guard (by omega), nat_cast, refParse_ok (by omega), Option.bind_some, if_pos ⟨by omega, g⟩]
      cases hv : parseF numR (s.extract 1 s.size) with
      | none => rfl
      | some v =>
        simp only [Bool.not_true, cond_false]
        by_cases k : v.1 = 2
        · rw [show (v.1 != 2) = false by simp [k], cond_false, rName_ok ((PI v).1 hv).2.1, Option.bind_some, strEq_dec]
          by_cases q : nameC v.2.1 = s
          · simp [q, k]
          · simp [q]
        · rw [show (v.1 != 2) = true by simp [k], cond_true, if_neg (fun q => k q.1)]
    · rw [show (byteAt s 0 != 35) = true by simp [g], cond_true, if_neg (fun q => g q.2)]
theorem N_same {s : ByteArray} (hs : s.size ≤ 1000000) : refN s = progN s := by
  cases h : progN s with
  | some n => exact (refN_iff hs n).2 ((progN_iff s n).1 h)
  | none =>
    cases g : refN s with
    | none => rfl
    | some n => rw [(progN_iff s n).2 ((refN_iff hs n).1 g)] at h; cases h
theorem awake40 : V.pleachlaw40_awake = some true := lim_at 200 fun K => by kernel_rfl
theorem Same_nil : V.pleachref40_Same (1, 0, (⟨#[]⟩ : ByteArray), ([], []), [], [], [], [], []) (1, 0, (⟨#[]⟩ : ByteArray), ([], []), [], [], [], [], []) = some true := by
  unfold V.pleachref40_Same
  exact lim_at (a := fun K => F.pleachref40_Same K (1, 0, (⟨#[]⟩ : ByteArray), ([], []), [], [], [], [], []) (1, 0, (⟨#[]⟩ : ByteArray), ([], []), [], [], [], [], [])) 60 fun K => by kernel_rfl
theorem Do_nil (c : TCall) : V.model_State_Do_nil c = some (1, 0, (⟨#[]⟩ : ByteArray), ([], []), [], [], [], [], []) := by
  apply V.model_State_Do_nil.of; unfold F.model_State_Do_nil.B
  rw [show V.model_fail 1 = some (1, 0, (⟨#[]⟩ : ByteArray), ([], []), [], [], [], [], []) from V.model_fail.of 1 rfl]; rfl
theorem ModelNames_pure (n : Int) (s : ByteArray) (c : TCall) (hn : in64 n) (hl : ((((((c).2).2).2).2).2).1.length ≤ 140737488351232) : V.pleachlaw40_ModelNames n s c = some true := by
  apply V.pleachlaw40_ModelNames.of; unfold F.pleachlaw40_ModelNames.B
  have E : (c.1, c.2.1, c.2.2.1, c.2.2.2.1, c.2.2.2.2.1, c.2.2.2.2.2.1, c.2.2.2.2.2.2.1, c.2.2.2.2.2.2.2) = c := rfl
  rw [awake40, E]
  obtain ⟨b, hb⟩ := Few_one c hl
  by_cases h : (s.size : Int) > 100
  · rw [if_yes h]; rfl
  · rw [if_no h, hb, Option.bind_some]
    cases b with
    | false => rfl
    | true =>
      have hz := itoaS_size hn.1 hn.2
      have hx : (nameC n).size ≤ 1000000 := by unfold nameC; rw [one_app]; omega
      have hp : progN (nameC n) = some n := (progN_iff _ n).2 ⟨hn, rfl⟩
      rw [Number_ok (by omega), rNumber_ok (by omega), Name_ok hn, rName_ok hn, N_same (by omega)]
      simp only [Bool.not_true, cond_false, Option.bind_some]
      rw [Number_ok hx, hp]
      simp only [Option.bind_some, strEq_self, beq_self_eq_true, cond_true]
      rw [show V.model_State_Copy_nil = some () from V.model_State_Copy_nil.of rfl, show V.model_State_Seen_nil = some ([], [], 0) from V.model_State_Seen_nil.of rfl, Do_nil]
      simp only [Option.bind_some, beq_self_eq_true, cond_true]
      rw [Same_nil]
      rfl
end Go.Proofs.YtmhonabmnphflaaGreatDoor.AE
end
section
namespace Go.Proofs.YtmhonabmnphflaaGreatDoor.AE
open Go Go.ChangeShapes Go.WideShapes Go.ChangeAt Go.RowKit Go.Lib Go.Sort
variable {W₀ : World}
theorem weights_each {H : Type} {P : Program} {p : Nat → Bool} {ts : List TypeId} {ds : List (DataW H)} (h : (DataW.weightsEach P ts ds).all p = true) {j : Nat} {t : TypeId} {d : DataW H} (ht : ts[j]? = some t) (hd : ds[j]? = some d) : ∀ n ∈ d.weights P t, p n = true :=
  fun n hn => List.all_eq_true.1 h _ (DataW.weights_mem_each ht hd n hn)
theorem own : ownKnob Tryz.prog.godebug = none := by kernel_rfl
theorem laidOut : laidOutB Tryz.prog = true := by kernel_rfl
theorem mix : Tryz.prog.follows .mixedOrders = true := by kernel_rfl
theorem numGoB : (Tryz.prog.funcs.all fun fn => !(fn.name == "runtime.NumGoroutine")) = true := by kernel_rfl
theorem num (f : FuncId) (fn : Func) (h : Tryz.prog.funcs[f]? = some fn) : (fn.name == "runtime.NumGoroutine") = false := by
  have := Array.all_eq_true_iff_forall_mem.1 numGoB fn (Array.mem_of_getElem? h)
  simpa using this
def rho232 : Go.Shelf.Ren := ⟨fun i => match i with | 29 => 244 | _ => 245, fun i => match i with | 24 => 46 | 9 => 9 | 3 => 3 | 4 => 4 | _ => 0, fun x => x⟩
theorem ins232 : InsOk Tryz.prog rho232 232 "slices.Insert[[]string,string]" Tryz.f244 .str := by
  refine ⟨⟨mix, Tryz.func232.trans (congrArg some (by kernel_rfl)), Tryz.func244, by kernel_rfl, by kernel_rfl, by kernel_rfl, by kernel_rfl, by kernel_rfl, by kernel_rfl, by kernel_rfl, by kernel_rfl, by kernel_rfl, by decide⟩, by kernel_rfl, by kernel_rfl, by kernel_rfl, by kernel_rfl, by decide⟩
def rho195 : Go.Shelf.Ren := ⟨fun i => match i with | 29 => 217 | _ => 218, fun i => match i with | 24 => 90 | 9 => 100 | 3 => 3 | 4 => 4 | _ => 0, fun x => x⟩
theorem ins195 : InsOk Tryz.prog rho195 195 "slices.Insert[[]pleach/api.Prop,pleach/api.Prop]" Tryz.f217 sProp := by
  refine ⟨⟨mix, Tryz.func195.trans (congrArg some (by kernel_rfl)), Tryz.func217, by kernel_rfl, by kernel_rfl, by kernel_rfl, by kernel_rfl, by kernel_rfl, by kernel_rfl, by kernel_rfl, by kernel_rfl, by kernel_rfl, by decide⟩, by kernel_rfl, by kernel_rfl, by kernel_rfl, by kernel_rfl, by decide⟩
def rho165 : Go.Shelf.Ren := ⟨fun i => match i with | 29 => 203 | _ => 204, fun i => match i with | 24 => 41 | 9 => 95 | 3 => 3 | 4 => 4 | _ => 0, fun x => x⟩
theorem ins165 : InsOk Tryz.prog rho165 165 "slices.Insert[[]pleach/api.Edge,pleach/api.Edge]" Tryz.f203 sEdge := by
  refine ⟨⟨mix, Tryz.func165.trans (congrArg some (by kernel_rfl)), Tryz.func203, by kernel_rfl, by kernel_rfl, by kernel_rfl, by kernel_rfl, by kernel_rfl, by kernel_rfl, by kernel_rfl, by kernel_rfl, by kernel_rfl, by decide⟩, by kernel_rfl, by kernel_rfl, by kernel_rfl, by kernel_rfl, by decide⟩
def rho164 : Go.Shelf.Ren := ⟨fun i => match i with | 29 => 201 | _ => 202, fun i => match i with | 24 => 40 | 9 => 92 | 3 => 3 | 4 => 4 | _ => 0, fun x => x⟩
theorem ins164 : InsOk Tryz.prog rho164 164 "slices.Insert[[]pleach/api.Node,pleach/api.Node]" Tryz.f201 sNode := by
  refine ⟨⟨mix, Tryz.func164.trans (congrArg some (by kernel_rfl)), Tryz.func201, by kernel_rfl, by kernel_rfl, by kernel_rfl, by kernel_rfl, by kernel_rfl, by kernel_rfl, by kernel_rfl, by kernel_rfl, by kernel_rfl, by decide⟩, by kernel_rfl, by kernel_rfl, by kernel_rfl, by kernel_rfl, by decide⟩
def rho86 : Go.Shelf.Ren := ⟨fun i => match i with | 29 => 118 | _ => 119, fun i => match i with | 24 => 34 | 9 => 70 | 3 => 3 | 4 => 4 | _ => 0, fun x => x⟩
theorem ins86 : InsOk Tryz.prog rho86 86 "slices.Insert[[]pleach/api.Ref,pleach/api.Ref]" Tryz.f118 sRef := by
  refine ⟨⟨mix, Tryz.func86.trans (congrArg some (by kernel_rfl)), Tryz.func118, by kernel_rfl, by kernel_rfl, by kernel_rfl, by kernel_rfl, by kernel_rfl, by kernel_rfl, by kernel_rfl, by kernel_rfl, by kernel_rfl, by decide⟩, by kernel_rfl, by kernel_rfl, by kernel_rfl, by kernel_rfl, by decide⟩
def layItoa_ren : Go.Shelf.Ren := ⟨fun i => match i with | 129 => 154 | 171 => 18 | 243 => 45 | 246 => 80 | 283 => 112 | 284 => 113 | 285 => 114 | 286 => 115 | 317 => 153 | 318 => 155 | 319 => 156 | 320 => 157 | 337 => 189 | 338 => 190 | _ => 0, fun i => match i with | 0 => 0 | 2 => 2 | 3 => 3 | 4 => 4 | 5 => 5 | 9 => 9 | 20 => 20 | 37 => 136 | 46 => 190 | 51 => 249 | 53 => 87 | 171 => 194 | 173 => 197 | 212 => 248 | 213 => 250 | 232 => 305 | 233 => 306 | _ => 0, fun i => match i with | 17 => 2 | 18 => 4 | 19 => 5 | _ => 0⟩
set_option maxRecDepth 100000 in
theorem layItoa : Go.Proofs.LaysM.n171 Tryz.prog layItoa_ren where
  mixed := mix
  f129 := Tryz.func154.trans (congrArg some (by kernel_rfl))
  f171 := Tryz.func18.trans (congrArg some (by kernel_rfl))
  f243 := Tryz.func45.trans (congrArg some (by kernel_rfl))
  f246 := Tryz.func80.trans (congrArg some (by kernel_rfl))
  f283 := Tryz.func112.trans (congrArg some (by kernel_rfl))
  f284 := Tryz.func113.trans (congrArg some (by kernel_rfl))
  f285 := Tryz.func114.trans (congrArg some (by kernel_rfl))
  f286 := Tryz.func115.trans (congrArg some (by kernel_rfl))
  f317 := Tryz.func153.trans (congrArg some (by kernel_rfl))
  f318 := Tryz.func155.trans (congrArg some (by kernel_rfl))
  f319 := Tryz.func156.trans (congrArg some (by kernel_rfl))
  f320 := Tryz.func157.trans (congrArg some (by kernel_rfl))
  f337 := Tryz.func189.trans (congrArg some (by kernel_rfl))
  f338 := Tryz.func190.trans (congrArg some (by kernel_rfl))
  t0 := by kernel_rfl
  a0 := by intro w; kernel_rfl
  z0 := by intro w; kernel_rfl
  v0 := by intro w; kernel_rfl
  t2 := by kernel_rfl
  a2 := by intro w; kernel_rfl
  z2 := by intro w; kernel_rfl
  v2 := by intro w; kernel_rfl
  t3 := by kernel_rfl
  a3 := by intro w; kernel_rfl
  z3 := by intro w; kernel_rfl
  v3 := by intro w; kernel_rfl
  t4 := by kernel_rfl
  a4 := by intro w; kernel_rfl
  z4 := by intro w; kernel_rfl
  v4 := by intro w; kernel_rfl
  t5 := by kernel_rfl
  a5 := by intro w; kernel_rfl
  z5 := by intro w; kernel_rfl
  v5 := by intro w; kernel_rfl
  t9 := by kernel_rfl
  a9 := by intro w; kernel_rfl
  z9 := by intro w; kernel_rfl
  v9 := by intro w; kernel_rfl
  t20 := by kernel_rfl
  a20 := by intro w; kernel_rfl
  z20 := by intro w; kernel_rfl
  v20 := by intro w; kernel_rfl
  t37 := by kernel_rfl
  a37 := by intro w; kernel_rfl
  z37 := by intro w; kernel_rfl
  v37 := by intro w; kernel_rfl
  t46 := by kernel_rfl
  a46 := by intro w; kernel_rfl
  z46 := by intro w; kernel_rfl
  v46 := by intro w; kernel_rfl
  t51 := by kernel_rfl
  a51 := by intro w; kernel_rfl
  z51 := by intro w; kernel_rfl
  v51 := by intro w; kernel_rfl
  t53 := by kernel_rfl
  a53 := by intro w; kernel_rfl
  z53 := by intro w; kernel_rfl
  v53 := by intro w; kernel_rfl
  t171 := by kernel_rfl
  a171 := by intro w; kernel_rfl
  z171 := by intro w; kernel_rfl
  v171 := by intro w; kernel_rfl
  t173 := by kernel_rfl
  a173 := by intro w; kernel_rfl
  z173 := by intro w; kernel_rfl
  v173 := by intro w; kernel_rfl
  t212 := by kernel_rfl
  a212 := by intro w; kernel_rfl
  z212 := by intro w; kernel_rfl
  v212 := by intro w; kernel_rfl
  t213 := by kernel_rfl
  a213 := by intro w; kernel_rfl
  z213 := by intro w; kernel_rfl
  t232 := by kernel_rfl
  a232 := by intro w; kernel_rfl
  z232 := by intro w; kernel_rfl
  v232 := by intro w; kernel_rfl
  t233 := by kernel_rfl
  a233 := by intro w; kernel_rfl
  z233 := by intro w; kernel_rfl
  v233 := by intro w; kernel_rfl
  g17 := by kernel_rfl
  g18 := by kernel_rfl
  g19 := by kernel_rfl
  i0 := by kernel_rfl
  i2 := by kernel_rfl
  i3 := by kernel_rfl
  i4 := by kernel_rfl
  i5 := by kernel_rfl
  i9 := by kernel_rfl
  i20 := by kernel_rfl
  i37 := by kernel_rfl
  i46 := by kernel_rfl
  i51 := by kernel_rfl
  i53 := by kernel_rfl
  i171 := by kernel_rfl
  i173 := by kernel_rfl
  i212 := by kernel_rfl
  i232 := by kernel_rfl
  i233 := by kernel_rfl
  m17 := by kernel_rfl
  m18 := by kernel_rfl
  m19 := by kernel_rfl
def layAtoi_ren : Go.Shelf.Ren := ⟨fun i => match i with | 129 => 154 | 171 => 18 | 172 => 16 | 205 => 111 | 243 => 45 | 244 => 40 | 245 => 41 | 246 => 80 | 247 => 71 | 279 => 72 | 280 => 73 | 281 => 74 | 282 => 75 | 283 => 112 | 284 => 113 | 285 => 114 | 286 => 115 | 287 => 109 | 316 => 110 | 317 => 153 | 318 => 155 | 319 => 156 | 320 => 157 | 321 => 151 | 322 => 152 | 337 => 189 | 338 => 190 | _ => 0, fun i => match i with | 0 => 0 | 2 => 2 | 3 => 3 | 4 => 4 | 5 => 5 | 9 => 9 | 20 => 20 | 21 => 21 | 37 => 136 | 46 => 190 | 51 => 249 | 53 => 87 | 75 => 58 | 76 => 59 | 80 => 336 | 85 => 137 | 127 => 242 | 143 => 243 | 145 => 245 | 167 => 135 | 168 => 139 | 171 => 194 | 173 => 197 | 175 => 188 | 210 => 192 | 212 => 248 | 213 => 250 | 232 => 305 | 233 => 306 | _ => 0, fun i => match i with | 15 => 0 | 16 => 1 | 17 => 2 | 18 => 4 | 19 => 5 | _ => 0⟩
set_option maxRecDepth 100000 in
theorem layAtoi : Go.Proofs.LaysC.n172 Tryz.prog layAtoi_ren where
  mixed := mix
  f129 := Tryz.func154.trans (congrArg some (by kernel_rfl))
  f171 := Tryz.func18.trans (congrArg some (by kernel_rfl))
  f172 := Tryz.func16.trans (congrArg some (by kernel_rfl))
  f205 := Tryz.func111.trans (congrArg some (by kernel_rfl))
  f243 := Tryz.func45.trans (congrArg some (by kernel_rfl))
  f244 := Tryz.func40.trans (congrArg some (by kernel_rfl))
  f245 := Tryz.func41.trans (congrArg some (by kernel_rfl))
  f246 := Tryz.func80.trans (congrArg some (by kernel_rfl))
  f247 := Tryz.func71.trans (congrArg some (by kernel_rfl))
  f279 := Tryz.func72.trans (congrArg some (by kernel_rfl))
  f280 := Tryz.func73.trans (congrArg some (by kernel_rfl))
  f281 := Tryz.func74.trans (congrArg some (by kernel_rfl))
  f282 := Tryz.func75.trans (congrArg some (by kernel_rfl))
  f283 := Tryz.func112.trans (congrArg some (by kernel_rfl))
  f284 := Tryz.func113.trans (congrArg some (by kernel_rfl))
  f285 := Tryz.func114.trans (congrArg some (by kernel_rfl))
  f286 := Tryz.func115.trans (congrArg some (by kernel_rfl))
  f287 := Tryz.func109.trans (congrArg some (by kernel_rfl))
  f316 := Tryz.func110.trans (congrArg some (by kernel_rfl))
  f317 := Tryz.func153.trans (congrArg some (by kernel_rfl))
  f318 := Tryz.func155.trans (congrArg some (by kernel_rfl))
  f319 := Tryz.func156.trans (congrArg some (by kernel_rfl))
  f320 := Tryz.func157.trans (congrArg some (by kernel_rfl))
  f321 := Tryz.func151.trans (congrArg some (by kernel_rfl))
  f322 := Tryz.func152.trans (congrArg some (by kernel_rfl))
  f337 := Tryz.func189.trans (congrArg some (by kernel_rfl))
  f338 := Tryz.func190.trans (congrArg some (by kernel_rfl))
  t0 := by kernel_rfl
  a0 := by intro w; kernel_rfl
  z0 := by intro w; kernel_rfl
  v0 := by intro w; kernel_rfl
  t2 := by kernel_rfl
  a2 := by intro w; kernel_rfl
  z2 := by intro w; kernel_rfl
  v2 := by intro w; kernel_rfl
  t3 := by kernel_rfl
  a3 := by intro w; kernel_rfl
  z3 := by intro w; kernel_rfl
  v3 := by intro w; kernel_rfl
  t4 := by kernel_rfl
  a4 := by intro w; kernel_rfl
  z4 := by intro w; kernel_rfl
  v4 := by intro w; kernel_rfl
  t5 := by kernel_rfl
  a5 := by intro w; kernel_rfl
  z5 := by intro w; kernel_rfl
  v5 := by intro w; kernel_rfl
  t9 := by kernel_rfl
  a9 := by intro w; kernel_rfl
  z9 := by intro w; kernel_rfl
  v9 := by intro w; kernel_rfl
  t20 := by kernel_rfl
  a20 := by intro w; kernel_rfl
  z20 := by intro w; kernel_rfl
  v20 := by intro w; kernel_rfl
  t21 := by kernel_rfl
  a21 := by intro w; kernel_rfl
  z21 := by intro w; kernel_rfl
  v21 := by intro w; kernel_rfl
  t37 := by kernel_rfl
  a37 := by intro w; kernel_rfl
  z37 := by intro w; kernel_rfl
  v37 := by intro w; kernel_rfl
  t46 := by kernel_rfl
  a46 := by intro w; kernel_rfl
  z46 := by intro w; kernel_rfl
  v46 := by intro w; kernel_rfl
  t51 := by kernel_rfl
  a51 := by intro w; kernel_rfl
  z51 := by intro w; kernel_rfl
  v51 := by intro w; kernel_rfl
  t53 := by kernel_rfl
  a53 := by intro w; kernel_rfl
  z53 := by intro w; kernel_rfl
  v53 := by intro w; kernel_rfl
  t75 := by kernel_rfl
  a75 := by intro w; kernel_rfl
  z75 := by intro w; kernel_rfl
  v75 := by intro w; kernel_rfl
  t76 := by kernel_rfl
  a76 := by intro w; kernel_rfl
  z76 := by intro w; kernel_rfl
  v76 := by intro w; kernel_rfl
  t85 := by kernel_rfl
  a85 := by intro w; kernel_rfl
  z85 := by intro w; kernel_rfl
  v85 := by intro w; kernel_rfl
  t127 := by kernel_rfl
  a127 := by intro w; kernel_rfl
  z127 := by intro w; kernel_rfl
  v127 := by intro w; kernel_rfl
  t143 := by kernel_rfl
  a143 := by intro w; kernel_rfl
  z143 := by intro w; kernel_rfl
  v143 := by intro w; kernel_rfl
  t145 := by kernel_rfl
  a145 := by intro w; kernel_rfl
  z145 := by intro w; kernel_rfl
  v145 := by intro w; kernel_rfl
  t167 := by kernel_rfl
  a167 := by intro w; kernel_rfl
  z167 := by intro w; kernel_rfl
  v167 := by intro w; kernel_rfl
  t168 := by kernel_rfl
  a168 := by intro w; kernel_rfl
  z168 := by intro w; kernel_rfl
  v168 := by intro w; kernel_rfl
  t171 := by kernel_rfl
  a171 := by intro w; kernel_rfl
  z171 := by intro w; kernel_rfl
  v171 := by intro w; kernel_rfl
  t173 := by kernel_rfl
  a173 := by intro w; kernel_rfl
  z173 := by intro w; kernel_rfl
  v173 := by intro w; kernel_rfl
  t175 := by kernel_rfl
  a175 := by intro w; kernel_rfl
  z175 := by intro w; kernel_rfl
  v175 := by intro w; kernel_rfl
  t210 := by kernel_rfl
  a210 := by intro w; kernel_rfl
  z210 := by intro w; kernel_rfl
  v210 := by intro w; kernel_rfl
  t212 := by kernel_rfl
  a212 := by intro w; kernel_rfl
  z212 := by intro w; kernel_rfl
  v212 := by intro w; kernel_rfl
  t213 := by kernel_rfl
  a213 := by intro w; kernel_rfl
  z213 := by intro w; kernel_rfl
  t232 := by kernel_rfl
  a232 := by intro w; kernel_rfl
  z232 := by intro w; kernel_rfl
  v232 := by intro w; kernel_rfl
  t233 := by kernel_rfl
  a233 := by intro w; kernel_rfl
  z233 := by intro w; kernel_rfl
  v233 := by intro w; kernel_rfl
  g15 := by kernel_rfl
  g16 := by kernel_rfl
  g17 := by kernel_rfl
  g18 := by kernel_rfl
  g19 := by kernel_rfl
  t80 := by kernel_rfl
  a80 := by intro w; kernel_rfl
  z80 := by intro w; kernel_rfl
  v80 := by intro w; kernel_rfl
  i0 := by kernel_rfl
  i2 := by kernel_rfl
  i3 := by kernel_rfl
  i4 := by kernel_rfl
  i5 := by kernel_rfl
  i9 := by kernel_rfl
  i20 := by kernel_rfl
  i21 := by kernel_rfl
  i37 := by kernel_rfl
  i46 := by kernel_rfl
  i51 := by kernel_rfl
  i53 := by kernel_rfl
  i75 := by kernel_rfl
  i76 := by kernel_rfl
  i80 := by kernel_rfl
  i85 := by kernel_rfl
  i127 := by kernel_rfl
  i143 := by kernel_rfl
  i145 := by kernel_rfl
  i167 := by kernel_rfl
  i168 := by kernel_rfl
  i171 := by kernel_rfl
  i173 := by kernel_rfl
  i175 := by kernel_rfl
  i210 := by kernel_rfl
  i212 := by kernel_rfl
  i232 := by kernel_rfl
  i233 := by kernel_rfl
  m15 := by kernel_rfl
  m16 := by kernel_rfl
  m17 := by kernel_rfl
  m18 := by kernel_rfl
  m19 := by kernel_rfl
  c0 := by kernel_rfl
  c2 := by kernel_rfl
  c3 := by kernel_rfl
  c4 := by kernel_rfl
  c5 := by kernel_rfl
  c9 := by kernel_rfl
  c20 := by kernel_rfl
  c21 := by kernel_rfl
  c37 := by kernel_rfl
  c46 := by kernel_rfl
  c51 := by kernel_rfl
  c53 := by kernel_rfl
  c75 := by kernel_rfl
  c76 := by kernel_rfl
  c80 := by kernel_rfl
  c85 := by kernel_rfl
  c127 := by kernel_rfl
  c143 := by kernel_rfl
  c145 := by kernel_rfl
  c167 := by kernel_rfl
  c168 := by kernel_rfl
  c171 := by kernel_rfl
  c173 := by kernel_rfl
  c175 := by kernel_rfl
  c210 := by kernel_rfl
  c212 := by kernel_rfl
  c213 := by kernel_rfl
  c232 := by kernel_rfl
  c233 := by kernel_rfl
theorem starErr : "*" ++ "errors.errorString" = "*errors.errorString" := by decide
theorem rowErr (u : TypeId) (h : Tryz.prog.typeName? 3 u = some "*errors.errorString") : u = 243 :=
  typeName_ptr_named (nm := "errors.errorString") (by rw [starErr]; kernel_rfl) (by kernel_rfl) (by decide) u (by rw [starErr]; exact h)
theorem extok (htab : Lib.TabIs Tryz.prog W₀ "internal/strconv.uint64pow10" .u64 Lib.pow10Tab) {t1 t2 : TypeId} {p1 p2 : Value} (hsyn : W₀.var? Tryz.prog "strconv.ErrSyntax" = some #[.iface t1 p1]) (hran : W₀.var? Tryz.prog "strconv.ErrRange" = some #[.iface t2 p2]) : ExtOk W₀ Tryz.prog sg := .of (show extAll W₀ Tryz.prog sgT from
  ⟨.nothing rfl rfl,
  ⟨.nothing rfl rfl,
  ⟨.nothing rfl rfl,
  ⟨.nothing rfl rfl,
  ⟨.nothing rfl rfl,
  ⟨.nothing rfl rfl,
  ⟨.nothing rfl rfl,
  ⟨.nothing rfl rfl,
  ⟨.nothing rfl rfl,
  ⟨.nothing rfl rfl,
  ⟨.nothing rfl rfl,
  ⟨.nothing rfl rfl,
  ⟨.nothing rfl rfl,
  ⟨(atoi_ext layAtoi rfl hsyn hran),
  ⟨.nothing rfl rfl,
  ⟨(itoa_ext layItoa rfl htab),
  ⟨.nothing rfl rfl,
  ⟨.nothing rfl rfl,
  ⟨.nothing rfl rfl,
  ⟨.nothing rfl rfl,
  ⟨.nothing rfl rfl,
  ⟨.nothing rfl rfl,
  ⟨.nothing rfl rfl,
  ⟨.nothing rfl rfl,
  ⟨.nothing rfl rfl,
  ⟨.nothing rfl rfl,
  ⟨.nothing rfl rfl,
  ⟨.nothing rfl rfl,
  ⟨.nothing rfl rfl,
  ⟨.nothing rfl rfl,
  ⟨.nothing rfl rfl,
  ⟨.nothing rfl rfl,
  ⟨.nothing rfl rfl,
  ⟨.nothing rfl rfl,
  ⟨.nothing rfl rfl,
  ⟨.nothing rfl rfl,
  ⟨.nothing rfl rfl,
  ⟨.nothing rfl rfl,
  ⟨.nothing rfl rfl,
  ⟨.nothing rfl rfl,
  ⟨.nothing rfl rfl,
  ⟨.nothing rfl rfl,
  ⟨.nothing rfl rfl,
  ⟨.nothing rfl rfl,
  ⟨.nothing rfl rfl,
  ⟨.nothing rfl rfl,
  ⟨.nothing rfl rfl,
  ⟨.nothing rfl rfl,
  ⟨.nothing rfl rfl,
  ⟨.nothing rfl rfl,
  ⟨.nothing rfl rfl,
  ⟨.nothing rfl rfl,
  ⟨.nothing rfl rfl,
  ⟨.nothing rfl rfl,
  ⟨.nothing rfl rfl,
  ⟨.nothing rfl rfl,
  ⟨.nothing rfl rfl,
  ⟨.nothing rfl rfl,
  ⟨.nothing rfl rfl,
  ⟨.nothing rfl rfl,
  ⟨.nothing rfl rfl,
  ⟨.nothing rfl rfl,
  ⟨.nothing rfl rfl,
  ⟨.nothing rfl rfl,
  ⟨.nothing rfl rfl,
  ⟨.nothing rfl rfl,
  ⟨.nothing rfl rfl,
  ⟨.nothing rfl rfl,
  ⟨.nothing rfl rfl,
  ⟨.nothing rfl rfl,
  ⟨.nothing rfl rfl,
  ⟨.nothing rfl rfl,
  ⟨.nothing rfl rfl,
  ⟨(ins_ext ins86),
  ⟨.nothing rfl rfl,
  ⟨.nothing rfl rfl,
  ⟨.nothing rfl rfl,
  ⟨.nothing rfl rfl,
  ⟨.nothing rfl rfl,
  ⟨.nothing rfl rfl,
  ⟨.nothing rfl rfl,
  ⟨.nothing rfl rfl,
  ⟨.nothing rfl rfl,
  ⟨.nothing rfl rfl,
  ⟨.nothing rfl rfl,
  ⟨.nothing rfl rfl,
  ⟨.nothing rfl rfl,
  ⟨.nothing rfl rfl,
  ⟨.nothing rfl rfl,
  ⟨.nothing rfl rfl,
  ⟨.nothing rfl rfl,
  ⟨.nothing rfl rfl,
  ⟨.nothing rfl rfl,
  ⟨.nothing rfl rfl,
  ⟨.nothing rfl rfl,
  ⟨.nothing rfl rfl,
  ⟨.nothing rfl rfl,
  ⟨.nothing rfl rfl,
  ⟨.nothing rfl rfl,
  ⟨.nothing rfl rfl,
  ⟨.nothing rfl rfl,
  ⟨.nothing rfl rfl,
  ⟨.nothing rfl rfl,
  ⟨.nothing rfl rfl,
  ⟨.nothing rfl rfl,
  ⟨.nothing rfl rfl,
  ⟨.nothing rfl rfl,
  ⟨.nothing rfl rfl,
  ⟨.nothing rfl rfl,
  ⟨.nothing rfl rfl,
  ⟨.nothing rfl rfl,
  ⟨.nothing rfl rfl,
  ⟨.nothing rfl rfl,
  ⟨.nothing rfl rfl,
  ⟨.nothing rfl rfl,
  ⟨.nothing rfl rfl,
  ⟨.nothing rfl rfl,
  ⟨.nothing rfl rfl,
  ⟨.nothing rfl rfl,
  ⟨.nothing rfl rfl,
  ⟨.nothing rfl rfl,
  ⟨.nothing rfl rfl,
  ⟨.nothing rfl rfl,
  ⟨.nothing rfl rfl,
  ⟨.nothing rfl rfl,
  ⟨(ins_ext ins164),
  ⟨(ins_ext ins165),
  ⟨.nothing rfl rfl,
  ⟨.nothing rfl rfl,
  ⟨.nothing rfl rfl,
  ⟨.nothing rfl rfl,
  ⟨.nothing rfl rfl,
  ⟨.nothing rfl rfl,
  ⟨.nothing rfl rfl,
  ⟨.nothing rfl rfl,
  ⟨.nothing rfl rfl,
  ⟨.nothing rfl rfl,
  ⟨.nothing rfl rfl,
  ⟨.nothing rfl rfl,
  ⟨.nothing rfl rfl,
  ⟨.nothing rfl rfl,
  ⟨.nothing rfl rfl,
  ⟨.nothing rfl rfl,
  ⟨.nothing rfl rfl,
  ⟨.nothing rfl rfl,
  ⟨.nothing rfl rfl,
  ⟨.nothing rfl rfl,
  ⟨.nothing rfl rfl,
  ⟨.nothing rfl rfl,
  ⟨(ins_ext ins195),
  ⟨.nothing rfl rfl,
  ⟨.nothing rfl rfl,
  ⟨.nothing rfl rfl,
  ⟨.nothing rfl rfl,
  ⟨.nothing rfl rfl,
  ⟨.nothing rfl rfl,
  ⟨.ofOp rfl rfl (opCompare_ok Tryz.func206 (by kernel_rfl) (by kernel_rfl) (by kernel_rfl) (by kernel_rfl)),
  ⟨.nothing rfl rfl,
  ⟨.nothing rfl rfl,
  ⟨.nothing rfl rfl,
  ⟨.nothing rfl rfl,
  ⟨.nothing rfl rfl,
  ⟨.nothing rfl rfl,
  ⟨.nothing rfl rfl,
  ⟨.nothing rfl rfl,
  ⟨.nothing rfl rfl,
  ⟨.nothing rfl rfl,
  ⟨.nothing rfl rfl,
  ⟨.nothing rfl rfl,
  ⟨.nothing rfl rfl,
  ⟨(ins_ext ins232),
  ⟨.nothing rfl rfl,
  ⟨.nothing rfl rfl,
  ⟨.nothing rfl rfl,
  ⟨.ofOp rfl rfl (opIndexByte_ok Tryz.func255 (by kernel_rfl) (by kernel_rfl) (by kernel_rfl) (by kernel_rfl)),
  trivial⟩⟩⟩⟩⟩⟩⟩⟩⟩⟩⟩⟩⟩⟩⟩⟩⟩⟩⟩⟩⟩⟩⟩⟩⟩⟩⟩⟩⟩⟩⟩⟩⟩⟩⟩⟩⟩⟩⟩⟩⟩⟩⟩⟩⟩⟩⟩⟩⟩⟩⟩⟩⟩⟩⟩⟩⟩⟩⟩⟩⟩⟩⟩⟩⟩⟩⟩⟩⟩⟩⟩⟩⟩⟩⟩⟩⟩⟩⟩⟩⟩⟩⟩⟩⟩⟩⟩⟩⟩⟩⟩⟩⟩⟩⟩⟩⟩⟩⟩⟩⟩⟩⟩⟩⟩⟩⟩⟩⟩⟩⟩⟩⟩⟩⟩⟩⟩⟩⟩⟩⟩⟩⟩⟩⟩⟩⟩⟩⟩⟩⟩⟩⟩⟩⟩⟩⟩⟩⟩⟩⟩⟩⟩⟩⟩⟩⟩⟩⟩⟩⟩⟩⟩⟩⟩⟩⟩⟩⟩⟩⟩⟩⟩⟩⟩⟩⟩⟩⟩⟩⟩⟩⟩⟩⟩)
end Go.Proofs.YtmhonabmnphflaaGreatDoor.AE
end
section
namespace Go.Proofs.YtmhonabmnphflaaGreatDoor.AE.modelNames
open Go Go.ChangeShapes Go.WideShapes Go.ChangeAt Go.RowKit
open Go.ChangeMaps (open_string shut_string)
set_option linter.unusedVariables false
def Pure : Prop := ∀ (x0 : den ((.int .i64))) (x1 : den .str) (x2 : den ((.prod (.int .i64) (.prod .str (.prod .str (.prod .str (.prod .str (.prod (.list (.prod (.int .i64) (.prod .str (.prod .str (.prod .str (.prod .str (.prod (.int .i64) (.prod (.int .i64) .str)))))))) (.prod .str .str))))))))), Gd ((.int .i64)) x0 → Gd .str x1 → Gd ((.prod (.int .i64) (.prod .str (.prod .str (.prod .str (.prod .str (.prod (.list (.prod (.int .i64) (.prod .str (.prod .str (.prod .str (.prod .str (.prod (.int .i64) (.prod (.int .i64) .str)))))))) (.prod .str .str)))))))) x2 → ∃ K, F.pleachlaw40_ModelNames K x0 x1 x2 = some true
theorem door_met (os : Os) (args : Array Value) : laidMetH Tryz.prog Rows.modelNamesRow.laid ((World.doorLaid Tryz.prog 400 os).forCall (fun _ _ => 0) ⟨#[], args, []⟩).memory :=
  laidMetH_of_parts3 (fuel := 8) (laidMet_of_run' 8 (by kernel_rfl) (by kernel_rfl)) (by kernel_rfl) (by kernel_rfl)
theorem tab_is : (Rows.laid_internal_strconv_uint64pow10 : DataW Unit) = Lib.tabData .u64 Lib.pow10Tab := by kernel_rfl
theorem tab_of {W : World} (h : laidMetH Tryz.prog Rows.modelNamesRow.laid W) : Lib.TabIs Tryz.prog W "internal/strconv.uint64pow10" .u64 Lib.pow10Tab := by
  rw [MakeChecks.laidMetH_plain _ _ _ (by kernel_rfl)] at h
  obtain ⟨ps, ⟨_, _, _, _, _, _, _, _, _, _, ⟨_, _, _, _, _, _, _, _, _, _, ⟨g, t, cs, f, p, q, hg, ht, hv, hd, _, _⟩, _⟩, _⟩, _, _⟩ := h
  obtain rfl := Option.some.inj ((show Tryz.prog.globalNamed "internal/strconv.uint64pow10" = some 2 by kernel_rfl).symm.trans hg)
  obtain rfl := Option.some.inj ((show (Tryz.prog.globals[2]?).map (·.type) = some 248 by kernel_rfl).symm.trans ht)
  rw [tab_is] at hd
  unfold Lib.TabIs
  rw [hv, ← Lib.cells_of_tab Tryz.underlying248 Tryz.underlying87 (by kernel_rfl) (by kernel_rfl) hd]
theorem syn_of {W : World} (h : laidMetH Tryz.prog Rows.modelNamesRow.laid W) : ∃ t p, W.var? Tryz.prog "strconv.ErrSyntax" = some #[.iface t p] := by
  rw [MakeChecks.laidMetH_plain _ _ _ (by kernel_rfl)] at h
  obtain ⟨a1, s1, hv1, _⟩ := laid_sentinel (show laidMet Tryz.prog (_ :: _) W from h.tail.tail.tail.tail) (show Tryz.prog.globalNamed "strconv.ErrSyntax" = some 0 by kernel_rfl) (show (Tryz.prog.globals[0]?).map (·.type) = some 58 by kernel_rfl) Tryz.underlying58 rowErr Tryz.underlying243 Tryz.underlying245 rfl rfl Tryz.underlying9 (by kernel_rfl) (by kernel_rfl)
  exact ⟨_, _, hv1⟩
theorem ran_of {W : World} (h : laidMetH Tryz.prog Rows.modelNamesRow.laid W) : ∃ t p, W.var? Tryz.prog "strconv.ErrRange" = some #[.iface t p] := by
  rw [MakeChecks.laidMetH_plain _ _ _ (by kernel_rfl)] at h
  obtain ⟨a1, s1, hv1, _⟩ := laid_sentinel (show laidMet Tryz.prog (_ :: _) W from h.tail.tail.tail) (show Tryz.prog.globalNamed "strconv.ErrRange" = some 1 by kernel_rfl) (show (Tryz.prog.globals[1]?).map (·.type) = some 58 by kernel_rfl) Tryz.underlying58 rowErr Tryz.underlying243 Tryz.underlying245 rfl rfl Tryz.underlying9 (by kernel_rfl) (by kernel_rfl)
  exact ⟨_, _, hv1⟩
set_option maxRecDepth 100000 in
theorem lifted (pure : Pure) (os : Os) (started : os.Started) (H : Type) (enc : TypeId × Value → H) :
    ReturnsInHanded {} Tryz.checked os 3 .any (fun w args => (Rows.modelNamesSpec.pre enc Tryz.prog Tryz.f3 Rows.modelNamesRow.domain false w args ∧ laidMetH Tryz.prog Rows.modelNamesRow.laid w) ∧ sizedMet enc Tryz.prog Tryz.f3 (OpenSpec.ofChange Rows.modelNamesSpec) false w args) (Rows.modelNamesSpec.post enc Tryz.prog Tryz.f3 false true false false) := by
  refine returnsInHanded_of_change_and (C := Tryz.checked) (X := (fun w _ => laidMetH Tryz.prog Rows.modelNamesRow.laid w)) (fun _ _ _ hh h => h.of_heap hh) own started (by kernel_rfl) Tryz.func3
    (ChangeSpec.witness_shaped (enc := enc) (C := Tryz.checked) (os := os) (X := (fun w _ => laidMetH Tryz.prog Rows.modelNamesRow.laid w)) false (World.doorLaid Tryz.prog 400 os) #[.int .i64 0, .string ByteArray.empty, .agg #[.int .i64 0, .string ByteArray.empty, .string ByteArray.empty, .string ByteArray.empty, .string ByteArray.empty, .slice none 0 0, .string ByteArray.empty, .string ByteArray.empty]] 8 rfl (World.shaped_of_RefB (by kernel_rfl) (by kernel_rfl)) (by kernel_rfl) (by kernel_rfl) (by kernel_rfl) (door_met os _)) ?_
  intro W base args ds gs before hval0 hW hcnd hsz0 hL _
  have hsz : (DataW.weightsEach Tryz.prog (Tryz.f3.params.toList ++ Rows.modelNamesSpec.plain.varTypes Tryz.prog) (ds ++ gs)).all (· ≤ reachBytes) = true := hsz0
  have hval : ∀ (j : Nat) t v, Tryz.f3.params[j]? = some t → args[j]? = some v → Value.okWide Tryz.prog W .any base t v := hval0
  have hW' := hW
  obtain ⟨p, q, hA0, hV, rfl, hfz, hnd⟩ := hW
  have hA : DataW.TrodAll enc Tryz.prog W 0 (fun _ => true) true Tryz.f3.params.toList args.toList ds p := hA0
  rw [Tryz.params3] at hA hval hsz
  obtain ⟨v0, vs0, d0, ds0, p0, q0, hargs, rfl, rfl, h0, r0⟩ := trodAll_cons hA
  obtain ⟨v1, vs1, d1, ds1, p1, q1, rfl, rfl, rfl, h1, r1⟩ := trodAll_cons r0
  obtain ⟨v2, vs2, d2, ds2, p2, q2, rfl, rfl, rfl, h2, r2⟩ := trodAll_cons r1
  obtain ⟨rfl, rfl, rfl⟩ := trodAll_nil r2
  obtain rfl : args = #[v0, v1, v2] := by cases args; simp_all
  obtain ⟨rfl, rfl⟩ := trodVars_none hV
  obtain ⟨x0, rfl, rfl, rfl, G0⟩ := open_int Tryz.underlying3 (hval 0 3 v0 rfl rfl) h0
  obtain ⟨x1, rfl, rfl, rfl, y1⟩ := open_string Tryz.underlying9 (hval 1 9 v1 rfl rfl) h1
  have G1 : Gd .str x1 := by
    have z := sized_string hsz (j := 1) (t := 9) rfl rfl
    rw [Array.length_toList] at z
    exact z
  have k2 := h2
  have lt2 : ∀ x ∈ p2, x.block < W.heap.size := by obtain ⟨m, hm⟩ := k2; exact DataW.trod_lt m _ _ _ hm
  obtain ⟨cs2, rfl, _⟩ := okWide_struct Tryz.underlying24 (hval 2 24 v2 rfl rfl)
  obtain ⟨fuel2, hf2⟩ := h2
  obtain ⟨x2, S2, G2⟩ := fitT_ok (O := OX (NoX (W₀ := W)) [] []) (fun b => own_none) 20 24 ((.prod (.int .i64) (.prod .str (.prod .str (.prod .str (.prod .str (.prod (.list (.prod (.int .i64) (.prod .str (.prod .str (.prod .str (.prod .str (.prod (.int .i64) (.prod (.int .i64) .str)))))))) (.prod .str .str)))))))) (by kernel_rfl) fuel2 _ _ hf2 (fun m hm => by have hq := weights_each hsz (j := 2) (t := 24) rfl rfl m hm; exact of_decide_eq_true hq)
  obtain ⟨K, hk⟩ := pure x0 x1 x2 G0 G1 G2
  have ha : AV1sR (OX (NoX (W₀ := W)) [] []) W [] [.sc (.val (.int .i64 x0)), .sc (.val (.string x1)), .agg (inj ((.prod (.int .i64) (.prod .str (.prod .str (.prod .str (.prod .str (.prod (.list (.prod (.int .i64) (.prod .str (.prod .str (.prod .str (.prod .str (.prod (.int .i64) (.prod (.int .i64) .str)))))))) (.prod .str .str)))))))) x2)] (#[.int .i64 x0, .string x1, .agg cs2] : Array Value).toList := .cons (.sc (.val _)) (.cons (.sc (.val _)) (.cons (arg_agg S2) ⟨rfl, by simp⟩))
  refine (law_calls (good Tryz.prog sg (extok (tab_of hL) (syn_of hL).choose_spec.choose_spec (ran_of hL).choose_spec.choose_spec) mix num K) (f := 3) (t := (true : Bool)) (b := true) hk rfl (fun O w ρ vals σ v h hv => bool_of h hv) ha).mono fun e W' ⟨he, hd⟩ => ?_
  have bel : Below W.heap.size W W' := hd
  subst he
  exact ⟨_, rfl, _, _, _, [], _, [], hW', trodAll_mk1 (shut_bool Tryz.underlying4 _), (trodAll_cons_mk (shut_int Tryz.underlying3 G0) (trodAll_cons_mk (shut_string Tryz.underlying9 y1) (trodAll_cons_mk (Below.trod laidOut (by kernel_rfl) (of_decide_eq_true (by kernel_rfl)) k2 bel lt2) trodAll_mk0))), rfl, bel.frame _, fun h => by cases h⟩
theorem over (pure : Pure) : Rows.modelNamesRow.holds Tryz.pinned (OpenSpec.ofChange Rows.modelNamesSpec) :=
  OpenClaim.holds_of_wide 3 Tryz.f3 rfl rfl rfl rfl rfl rfl rfl ⟨rfl, rfl, rfl, rfl, rfl⟩ rfl rfl rfl rfl rfl (by kernel_rfl) Tryz.func3 (by kernel_rfl)
    (of_decide_eq_true (by kernel_rfl)) (by unfold Func.isWrapper; first | (rw [if_pos (by decide +kernel)]; kernel_rfl) | (rw [if_neg (by decide +kernel)]; exact ⟨rfl, rfl⟩))
    (fun os started H enc _ => lifted pure os started H enc)
theorem proved (pure : Pure) : Rows.ModelNamesSaid := over pure
theorem card (pure : Pure) : Rows.ModelNamesCardSaid :=
  Claim7.holds_tied_plain_at .later [] [.data, .data, .data, .sentinel, .sentinel] true (true, "1792f4857c168fb1c871b7f6bab0337b47bce15b765627a7024b4ed50b44b096") true
    (proved pure) (fun _ h => by cases h) (by kernel_rfl) (fun _ h => by cases h) modelNames_row_tie rfl ⟨rfl, rfl⟩ (by kernel_rfl) rfl
    (fun f fn hf hfn => by
      obtain rfl : f = 3 := Option.some.inj ((show Tryz.prog.funcNamed "pleach/pleachlaw40.ModelNames" = some 3 by kernel_rfl).symm.trans hf) |>.symm
      obtain rfl : fn = Tryz.f3 := (Option.some.inj (Tryz.func3.symm.trans hfn)).symm
      refine ⟨by kernel_rfl, fun j t ht => ?_⟩
      rw [Tryz.params3] at ht
      have hm : t ∈ [3, 9, 24] := by
        have := Array.mem_of_getElem? ht
        simpa using this
      simp only [List.mem_cons, List.mem_nil_iff, or_false] at hm
      rcases hm with rfl | rfl | rfl
      · exact (show Tryz.prog.wantsStandIn 3 = false by kernel_rfl)
      · exact (show Tryz.prog.wantsStandIn 9 = false by kernel_rfl)
      · exact (show Tryz.prog.wantsStandIn 24 = false by kernel_rfl))
    (by kernel_rfl)
end Go.Proofs.YtmhonabmnphflaaGreatDoor.AE.modelNames
end
