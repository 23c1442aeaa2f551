/- The evaluator of the program's form, its soundness, the functions of the given program as it evaluates them, and laws on these. Conditions: as each theorem says. -/
import Derived.Test.YtdblhdpnllckhaaCGraphStaysN2
import Derived.Test.YtdblhdpnllckhaaProg
section
set_option linter.unusedVariables false
set_option maxRecDepth 100000
namespace Go.Proofs.Ytdblhdpnllckhaa.AE
open Go
abbrev sEntry : Sh := (.prod .str .str)
abbrev sEdit : Sh := (.prod .str (.prod .str .bool))
abbrev TValue : Type := Int × Int × ByteArray
abbrev sValue : Sh := (.prod (.int .i64) (.prod (.int .i64) .str))
abbrev sFact : Sh := (.prod (.int .i64) (.prod .str sEntry))
abbrev TProp : Type := ByteArray × TValue
abbrev sProp : Sh := (.prod .str sValue)
abbrev sScan : Sh := (.prod .str (.prod (.int .i64) (.prod (.int .i64) .bool)))
abbrev sChange : Sh := (.prod (.int .i64) (.prod .str (.prod .str (.prod .bool (.prod .bool sEntry)))))
abbrev TNode : Type := ByteArray × (List ByteArray) × List TProp
abbrev sNode : Sh := (.prod .str (.prod (.list .str) (.list sProp)))
abbrev TOp : Type := Int × ByteArray × ByteArray × ByteArray × TProp
abbrev sOp : Sh := (.prod (.int .i64) (.prod .str (.prod .str (.prod .str sProp))))
abbrev TEdge : Type := ByteArray × ByteArray × TNode
abbrev sEdge : Sh := (.prod .str (.prod .str sNode))
abbrev TGraph : Type := (List TNode) × List TEdge
abbrev sGraph : Sh := (.prod (.list sNode) (.list sEdge))
def sgT : List (Nat × Sig) := [
  (3, { ps := [(.agg sGraph)], vals := [.sc .bool] }),
  (4, { ps := [(.sc (.list sFact)), (.sc (.list sFact)), (.sc (.list sChange))], vals := [.sc .bool] }),
  (5, { ps := [(.sc (.list sFact)), .raw, .raw], vals := [.sc .bool] }),
  (6, { ps := [(.agg sGraph), (.agg sOp)], vals := [.sc .bool] }),
  (7, { ps := [(.agg sGraph), (.sc (.list sOp)), (.agg sOp)], vals := [.sc .bool] }),
  (8, { ps := [(.agg sGraph)], vals := [.sc .bool] }),
  (9, { ps := [(.agg sGraph), (.agg sGraph)], vals := [.sc .bool] }),
  (11, { ps := [(.agg sGraph)], vals := [.sc .bool] }),
  (12, { ps := [(.agg sGraph)], vals := [.sc .bool] }),
  (13, { vals := [.sc .bool] }),
  (14, { ps := [(.agg sGraph)], vals := [.own sFact], coer := [(3, (.own sFact))], excl := [(13, [0])] }),
  (15, { ps := [(.sc (.list sFact)), (.sc (.list sFact))], vals := [.sc .bool] }),
  (16, { ps := [(.agg sGraph)], vals := [.own sFact], coer := [(3, (.own sFact))], excl := [(24, [1]), (47, [0])] }),
  (17, { ps := [(.sc (.list sFact))], vals := [.sc (.int .i64)] }),
  (18, { ps := [(.sc (.list sFact))], vals := [.sc .bool] }),
  (19, { ps := [(.sc (.list sFact))], vals := [.sc .bool] }),
  (20, { ps := [(.sc (.list sChange)), (.sc (.list sChange))], vals := [.sc .bool] }),
  (21, { ps := [(.sc (.list sFact)), (.sc (.list sFact))], vals := [.own sChange], coer := [(5, (.own sChange))], excl := [(11, [1]), (12, [0]), (15, [0, 1]), (16, [0]), (19, [1])] }),
  (22, { ps := [(.sc (.list sFact)), (.sc (.list sFact))], vals := [.own sChange], coer := [(5, (.own sChange))] }),
  (23, { ps := [(.agg sFact), (.agg sFact)], vals := [.sc .bool] }),
  (24, { ps := [(.sc (.list sFact)), (.sc (.list sChange))], vals := [.own sFact], coer := [(5, (.own sFact))], excl := [(7, [0])] }),
  (25, { ps := [(.sc (.list sFact)), (.sc (.list sChange))], vals := [.own sFact], coer := [(5, (.own sFact)), (8, (.own sFact))] }),
  (26, { ps := [(.agg sFact), (.agg sFact)], vals := [.sc (.int .i64)] }),
  (27, { vals := [.sc .str] }),
  (28, { tup := true, vals := [.sc .str, .sc .str] }),
  (29, { tup := true, vals := [.sc .str, .sc .str] }),
  (30, { ps := [(.agg sGraph)], vals := [.sc (.int .i64)] }),
  (31, { ps := [(.sc (.list sOp))], vals := [.sc .bool] }),
  (32, { vals := [.sc .bool] }),
  (33, { ps := [(.agg sOp)], vals := [.sc .bool] }),
  (34, { ps := [(.agg sOp)], vals := [.sc (.int .i64)] }),
  (35, { vals := [.sc .bool] }),
  (36, { ps := [(.sc (.list .str)), (.sc (.list sProp)), (.agg sOp)], tup := true, vals := [.own .str, .own sProp, .sc (.int .i64)], coer := [(0, (.sc (.list .str))), (1, (.sc (.list sProp)))] }),
  (37, { ps := [(.sc (.list .str)), (.sc (.list sProp)), (.agg sOp)], tup := true, vals := [.sc (.list .str), .sc (.list sProp), .sc (.int .i64)] }),
  (38, { ps := [(.sc (.list .str)), (.sc (.list .str))], vals := [.sc .bool] }),
  (39, { ps := [(.sc (.list sProp)), (.sc (.list sProp))], vals := [.sc .bool] }),
  (40, { ps := [(.agg sGraph), (.sc (.list sOp))], tup := true, vals := [.agg sGraph, .sc (.int .i64), .sc (.int .i64)] }),
  (41, { ps := [(.agg sGraph)], vals := [.sc (.int .i64)] }),
  (42, { ps := [(.agg sGraph), (.agg sGraph)], vals := [.sc .bool] }),
  (43, { ps := [(.agg sGraph)], vals := [.sc .bool] }),
  (44, { vals := [.sc .bool] }),
  (45, { ps := [(.agg sGraph)], tup := true, vals := [.agg (.prod (.list sEntry) (.prod (.list sEntry) (.prod (.list sEntry) (.list sEntry)))), .sc (.int .i64)] }),
  (46, { ps := [(.agg sGraph)], tup := true, vals := [.sc (.list sEntry), .sc (.list sEntry), .sc (.list sEntry), .sc (.list sEntry), .sc (.int .i64)], coer := [(7, (.sc (.list sEntry))), (8, (.sc (.list sEntry))), (9, (.sc (.list sEntry))), (10, (.sc (.list sEntry)))] }),
  (47, { ps := [(.sc (.list sEntry)), (.sc (.list sEntry))], vals := [.sc .bool] }),
  (48, { ps := [(.sc (.list sNode))], tup := true, vals := [.own sEntry, .sc (.int .i64)], coer := [(4, (.own sEntry))] }),
  (49, { ps := [(.sc (.list sEdge))], tup := true, vals := [.own sEntry, .sc (.int .i64)], coer := [(4, (.own sEntry))] }),
  (50, { ps := [(.sc (.list sEdge))], tup := true, vals := [.own sEntry, .sc (.int .i64)] }),
  (51, { ps := [(.sc (.list sEdge))], tup := true, vals := [.own sEntry, .sc (.int .i64)] }),
  (52, { ps := [(.agg sGraph)], vals := [.agg sGraph [0, 1]], excl := [(6, [2]), (12, [3])] }),
  (53, { ps := [(.agg sGraph), (.agg sGraph)], vals := [.sc .bool] }),
  (55, { ps := [(.sc (.list sEntry))], tup := true, vals := [.own sNode, .sc (.int .i64)], coer := [(4, (.own sNode))] }),
  (56, { ps := [(.sc (.list sEntry))], tup := true, vals := [.own sEdge, .sc (.int .i64)], coer := [(4, (.own sEdge))] }),
  (57, { ps := [(.sc (.list .str)), (.sc (.list sProp))], vals := [.sc (.int .i64)] }),
  (58, { ps := [.raw, .raw, .raw, (.sc (.list .str)), (.sc (.list sProp))], vals := [.own sFact], coer := [(11, (.own sFact))] }),
  (59, { ps := [(.own sFact), .raw], tup := true, blks := [.elems 0 sFact] }),
  (60, { ps := [(.agg sValue)], vals := [.sc .str] }),
  (61, { ps := [(.agg sFact)], vals := [.agg sChange] }),
  (62, { ps := [(.sc (.list sFact)), (.sc (.list sFact))], vals := [.own sFact], coer := [(5, (.own sFact))] }),
  (63, { ps := [(.sc (.list sFact)), (.agg sFact)], tup := true, vals := [.sc .str, .sc .bool] }),
  (64, { ps := [(.sc (.list (.int .i64)))], vals := [.sc (.int .i64)] }),
  (65, { vals := [.sc (.int .i64)] }),
  (66, { vals := [.sc (.int .i64)] }),
  (67, { tup := true, vals := [.sc .str, .sc .str, .sc .bool] }),
  (68, { ps := [(.agg sNode)], vals := [.sc (.int .i64)] }),
  (69, { ps := [(.agg sEdge)], vals := [.sc (.int .i64)] }),
  (70, { ps := [(.agg sGraph), .raw], vals := [.sc (.int .i64)] }),
  (71, { vals := [.sc .bool] }),
  (72, { ps := [(.agg sValue)], vals := [.sc .bool] }),
  (73, { vals := [.sc (.int .i64)] }),
  (74, { ps := [(.sc (.list sProp)), .raw, (.agg sValue)], tup := true, vals := [.own sProp, .sc (.int .i64)] }),
  (75, { ps := [(.sc (.list .str)), .raw], tup := true, vals := [.own .str, .sc (.int .i64)] }),
  (76, { ps := [(.sc (.list .str)), .raw], tup := true, vals := [.own .str, .sc (.int .i64)] }),
  (77, { ps := [(.sc (.list sProp)), .raw], tup := true, vals := [.own sProp, .sc (.int .i64)] }),
  (78, { ps := [(.sc (.list .str))], vals := [.own .str] }),
  (79, { ps := [(.sc (.list sProp))], vals := [.own sProp] }),
  (80, { ps := [(.sc (.list .str)), .raw], tup := true, vals := [.sc (.list .str), .sc (.int .i64)] }),
  (81, { ps := [(.sc (.list .str)), .raw], tup := true, vals := [.own .str, .sc (.int .i64)] }),
  (82, { ps := [(.sc (.list sProp)), .raw, (.agg sValue)], tup := true, vals := [.own sProp, .sc (.int .i64)], coer := [(8, (.own sProp))] }),
  (83, { ps := [(.sc (.list sProp)), .raw], tup := true, vals := [.own sProp, .sc (.int .i64)] }),
  (84, { ps := [.raw, (.agg sOp)], vals := [.sc (.int .i64)], blks := [.cells 0 sGraph [0, 1]] }),
  (85, { ps := [(.agg sNode)], vals := [.sc (.int .i64)] }),
  (86, { ps := [(.agg sEdge)], vals := [.sc (.int .i64)] }),
  (87, { ps := [(.agg sGraph), .raw], tup := true, vals := [.sc (.int .i64), .sc .bool] }),
  (88, { ps := [(.agg sNode), (.agg sNode)], vals := [.sc .bool] }),
  (89, { ps := [(.agg sEdge), (.agg sEdge)], vals := [.sc .bool] }),
  (90, { tup := true, vals := [.sc .str, .sc (.int .i64)] }),
  (91, { ps := [(.sc (.list sEntry)), .raw, .raw], vals := [.sc (.list sEntry)] }),
  (92, { ps := [(.agg sNode)], vals := [.sc .str] }),
  (93, { ps := [(.agg sEdge)], vals := [.sc .str] }),
  (94, { ps := [(.agg sNode)], tup := true, vals := [.sc .str, .sc (.int .i64)] }),
  (95, { ps := [(.own sEntry)], vals := [.own sEntry] }),
  (96, { ps := [(.agg sEdge)], tup := true, vals := [.sc .str, .sc (.int .i64)] }),
  (97, { ps := [(.sc (.list sEdge)), .raw], tup := true, vals := [.own sEntry, .sc (.int .i64)], coer := [(6, (.own sEntry))] }),
  (98, { ps := [(.agg sEdge)], tup := true, vals := [.sc .str, .sc .str] }),
  (99, { ps := [(.agg sEdge)], tup := true, vals := [.sc .str, .sc .str] }),
  (100, { ps := [(.sc (.list sNode))], vals := [.own sNode] }),
  (101, { ps := [(.sc (.list sEdge))], vals := [.own sEdge] }),
  (102, { ps := [(.sc (.list sNode)), (.sc (.list sNode)), .raw], vals := [.sc .bool] }),
  (103, { ps := [(.agg sNode), (.agg sNode)], vals := [.sc .bool] }),
  (104, { ps := [(.sc (.list .str)), (.sc (.list .str))], vals := [.sc .bool] }),
  (105, { ps := [(.sc (.list sProp)), (.sc (.list sProp))], vals := [.sc .bool] }),
  (106, { ps := [(.sc (.list sEdge)), (.sc (.list sEdge)), .raw], vals := [.sc .bool] }),
  (107, { ps := [(.agg sEdge), (.agg sEdge)], vals := [.sc .bool] }),
  (109, { tup := true, vals := [.agg sNode, .sc (.int .i64)] }),
  (110, { tup := true, vals := [.agg sEdge, .sc (.int .i64)] }),
  (111, { ps := [(.agg sValue)], tup := true, vals := [.sc .str, .sc (.int .i64)] }),
  (112, { ps := [(.own sFact), .raw, .raw], tup := true, blks := [.elems 0 sFact] }),
  (113, { vals := [.sc .str] }),
  (114, { vals := [.sc (.int .u64)] }),
  (115, { vals := [.sc .str] }),
  (116, { vals := [.sc .bool] }),
  (117, { vals := [.sc (.int .i64)] }),
  (118, { tup := true, vals := [.sc .str, .sc .str, .sc .bool] }),
  (119, { ps := [(.sc (.list .str)), (.sc (.list sProp))], vals := [.sc (.int .i64)] }),
  (120, { vals := [.sc .bool] }),
  (121, { ps := [(.agg sValue)], vals := [.sc (.int .i64)] }),
  (122, { ps := [(.sc (.list sProp)), .raw], tup := true, vals := [.sc (.int .i64), .sc .bool] }),
  (123, insSig sProp),
  (124, { ps := [(.sc (.list .str)), .raw], tup := true, vals := [.own .str, .sc .bool] }),
  (125, { ps := [(.sc (.list .str)), .raw], tup := true, vals := [.own .str, .sc .bool] }),
  (126, { ps := [(.own sProp), .raw, .raw], vals := [.own sProp], excl := [(5, [0])] }),
  (127, { ps := [(.sc (.list .str)), .raw], vals := [.sc .bool] }),
  (128, { ps := [(.sc (.list .str)), .raw], vals := [.sc (.list .str)] }),
  (129, { ps := [(.sc (.list .str)), (.sc (.list .str))], vals := [.own .str], coer := [(5, (.own .str))] }),
  (130, { ps := [(.sc (.list sProp)), .raw], vals := [.sc (.int .i64)] }),
  (131, { ps := [.raw, (.agg sOp)], vals := [.sc (.int .i64)], blks := [.cells 0 sGraph [0, 1]], excl := [(2, [1, 2]), (7, [2, 3, 4]), (9, [1, 2]), (14, [1, 3, 4])] }),
  (132, { ps := [.raw, (.agg sOp)], vals := [.sc (.int .i64)], blks := [.cells 0 sGraph [0, 1]], excl := [(2, [1, 2]), (7, [0, 1, 2]), (9, [1, 2]), (10, [1, 2]), (11, [1, 2]), (18, [0, 1, 2])] }),
  (133, { ps := [.raw, (.agg sOp)], vals := [.sc (.int .i64)], blks := [.cells 0 sGraph [0, 1]], excl := [(2, [1, 2]), (7, [1, 2])] }),
  (134, { ps := [(.sc (.list .str)), (.sc (.list sProp))], vals := [.sc (.int .i64)] }),
  (135, { ps := [(.sc (.list sNode)), .raw, .raw], tup := true, vals := [.sc (.int .i64), .sc .bool] }),
  (136, { ps := [(.agg sNode), .raw], vals := [.sc (.int .i64)] }),
  (137, { vals := [.sc (.int .i64)] }),
  (138, { ps := [(.sc (.list sEntry)), (.sc (.list sEdit))], vals := [.sc (.list sEntry)], coer := [(0, (.sc (.list sEntry)))] }),
  (139, { ps := [(.sc (.list .str)), (.sc (.list sProp))], vals := [.sc .str] }),
  (140, { ps := [(.sc (.list .str)), (.sc (.list sProp))], vals := [.sc .str] }),
  (141, { ps := [(.own sEntry), .raw], tup := true, blks := [.elems 0 sEntry] }),
  (142, { ps := [(.agg sEntry), (.agg sEntry)], vals := [.sc (.int .i64)] }),
  (143, { vals := [.sc .str] }),
  (145, { vals := [.ptr 230 sScan] }),
  (146, { tup := true, vals := [.own .str, .own sProp], blks := [.cells 0 sScan], coer := [(2, (.own .str)), (3, (.own sProp))] }),
  (147, { vals := [.sc (.int .i64)], blks := [.cells 0 sScan], excl := [(1, [0])] }),
  (148, { vals := [.sc .str], blks := [.cells 0 sScan] }),
  (149, { vals := [.sc .str] }),
  (150, { ps := [(.own sFact), .raw, .raw, .raw], tup := true, blks := [.elems 0 sFact], excl := [(6, [0])] }),
  (151, { ps := [(.own sFact), .raw, .raw, .raw, .raw], tup := true, blks := [.elems 0 sFact], excl := [(11, [0]), (23, [0])] }),
  (152, { vals := [.own (.int .i64)] }),
  (153, { op := some opCompare }),
  (154, { vals := [.sc (.int .i64)] }),
  (155, { ps := [(.sc (.list .str))], vals := [.sc (.int .i64)] }),
  (156, { ps := [(.sc (.list sProp))], vals := [.sc (.int .i64)] }),
  (157, { ps := [(.sc (.list sProp)), .raw, .raw], tup := true, vals := [.sc (.int .i64), .sc .bool] }),
  (158, { ps := [(.agg sProp), .raw], vals := [.sc (.int .i64)] }),
  (161, { ps := [(.sc (.list .str)), .raw], tup := true, vals := [.sc (.int .i64), .sc .bool] }),
  (162, insSig .str),
  (163, { ps := [(.own .str), .raw, .raw], vals := [.own .str], excl := [(5, [0])] }),
  (164, { ps := [(.sc (.list .str)), .raw], vals := [.sc (.int .i64)] }),
  (165, { ps := [(.agg sGraph), .raw], tup := true, vals := [.sc (.int .i64), .sc .bool] }),
  (166, insSig sNode),
  (167, insSig sEdge),
  (168, { ps := [(.own sEdge), .raw, .raw], vals := [.own sEdge], excl := [(5, [0])] }),
  (169, { ps := [(.sc (.list sEdge)), .raw], vals := [.sc .bool], blks := [.cells 0 sOp] }),
  (170, { ps := [(.agg sEdge)], vals := [.sc .bool], blks := [.cells 0 sOp] }),
  (171, { ps := [(.own sNode), .raw, .raw], vals := [.own sNode], excl := [(5, [0])] }),
  (172, { ps := [(.sc (.list .str))], vals := [.sc (.int .i64)] }),
  (173, { ps := [(.sc (.list sProp))], vals := [.sc (.int .i64)] }),
  (174, { vals := [.sc .bool] }),
  (175, { ps := [(.sc (.list sEntry)), (.agg sEdit)], vals := [.own sEntry], coer := [(5, (.own sEntry))] }),
  (176, { vals := [.sc .str] }),
  (177, { vals := [.sc .str] }),
  (178, { ps := [(.own sEntry), .raw, .raw, .raw, .raw], tup := true, blks := [.elems 0 sEntry] }),
  (179, { vals := [.sc (.int .i64)] }),
  (180, { vals := [.sc .str] }),
  (182, { vals := [.sc (.int .i64)], blks := [.cells 0 sScan] }),
  (183, { vals := [.agg sValue], blks := [.cells 0 sScan] }),
  (184, { vals := [.sc (.int .i64)], blks := [.cells 0 sScan] }),
  (185, { vals := [.sc .str], blks := [.cells 0 sScan] }),
  (186, { vals := [.sc .str] }),
  (187, { ps := [(.own sFact), .raw, .raw, .raw, .raw], tup := true, blks := [.elems 0 sFact] }),
  (188, { vals := [.sc (.int .i64)] }),
  (193, { ps := [(.sc (.list .str)), .raw], tup := true, vals := [.sc (.int .i64), .sc .bool] }),
  (196, { ps := [(.sc (.list sEdge)), .raw, .raw], tup := true, vals := [.sc (.int .i64), .sc .bool] }),
  (197, { ps := [(.agg sEdge), .raw], vals := [.sc (.int .i64)] }),
  (202, { ps := [(.sc (.list sEdge)), .raw], vals := [.sc (.int .i64)], blks := [.cells 0 sOp] }),
  (203, { ps := [(.own sEntry), .raw, .raw, .raw], tup := true, blks := [.elems 0 sEntry], excl := [(6, [0])] }),
  (204, { ps := [(.own sEntry), .raw, .raw, .raw], tup := true, blks := [.elems 0 sEntry], excl := [(10, [0])] }),
  (205, { ps := [(.own sEntry), .raw, .raw, .raw], tup := true, blks := [.elems 0 sEntry], excl := [(10, [0])] }),
  (206, { ps := [(.own sEntry), .raw, .raw, .raw], tup := true, vals := [.sc (.int .i64), .sc (.int .i64)], blks := [.elems 0 sEntry] }),
  (207, { ps := [(.own sEntry), .raw, .raw, .raw], tup := true, blks := [.elems 0 sEntry], excl := [(3, [0])] }),
  (208, { ps := [(.own sEntry), .raw, .raw, .raw], vals := [.sc .bool], blks := [.elems 0 sEntry], excl := [(11, [0]), (17, [0]), (23, [0])] }),
  (209, { ps := [(.own sEntry), .raw, .raw, .raw, .raw], vals := [.sc (.int .i64)], blks := [.elems 0 sEntry], excl := [(1, [0]), (8, [0])] }),
  (210, { ps := [(.own sEntry), .raw, .raw, .raw, .raw], tup := true, vals := [.sc (.int .i64), .sc .bool], blks := [.elems 0 sEntry], excl := [(1, [0]), (8, [0]), (10, [0]), (18, [0]), (21, [0])] }),
  (212, { vals := [.sc (.int .i64)] }),
  (213, { tup := true, vals := [.sc (.int .u64), .sc (.int .i64), .sc .bool] }),
  (214, { tup := true, blks := [.cells 0 sScan] }),
  (215, { vals := [.sc (.int .i64)], blks := [.cells 0 sScan] }),
  (216, { vals := [.sc (.int .i64)], blks := [.cells 0 sScan] }),
  (217, { tup := true, blks := [.cells 0 sScan] }),
  (218, { vals := [.sc (.int .u64)] }),
  (219, { ps := [(.own sFact), .raw, .raw, .raw, .raw], tup := true, blks := [.elems 0 sFact], excl := [(3, [0])] }),
  (220, { op := some opIndexByte }),
  (223, { vals := [.sc .bool] }),
  (224, { vals := [.sc .bool] }),
  (228, { ps := [(.own sEntry), .raw, .raw, .raw, .raw], tup := true, blks := [.elems 0 sEntry], excl := [(6, [0])] }),
  (229, { vals := [.sc (.int .u64)] }),
  (230, { vals := [.sc (.int .u64)], blks := [.cells 0 (.int .u64)], excl := [(1, [0]), (2, [0]), (3, [0])] }),
  (231, { ps := [(.own sEntry), .raw, .raw, .raw], vals := [.sc (.int .i64)], blks := [.elems 0 sEntry, .cells 1 (.int .i64)] }),
  (232, { ps := [(.own sEntry), .raw, .raw, .raw, .raw, .raw], vals := [.sc (.int .i64)], blks := [.elems 0 sEntry, .cells 1 (.int .i64)] }),
  (233, { tup := true, vals := [.sc (.int .i64), .sc (.int .i64), .sc .bool] }),
  (237, { ps := [(.own sEntry), .raw, .raw, .raw, .raw], tup := true, vals := [.sc (.int .i64), .sc (.int .i64)], blks := [.elems 0 sEntry, .cells 1 (.int .i64)] }),
  (238, { vals := [.sc (.int .i64)] })]
abbrev sg : FuncId → Sig := sigOf sgT
noncomputable def F.pleachref26_weight (K : Nat) (a0 : List ByteArray) (a1 : List TProp) : Option (Int) := evFn Try.prog sg K 57 [.sc (.list .str a0 false), .sc (.list sProp a1 false)] []
noncomputable def F.pleachref26_weight.at (K : Nat) (p ns : List Nat) (s : St) : Option (Int) := atFn Try.prog sg K 57 0 p ns s
noncomputable def F.pleachref26_weight.in (K : Nat) (H : List Nat → List Nat → St → Option (Int)) (p ns : List Nat) (s : St) : Option (Int) := inFn Try.prog sg K 57 0 [] H p ns s
theorem F.pleachref26_weight.in_eq K p ns s : F.pleachref26_weight.at K p ns s = F.pleachref26_weight.in K (F.pleachref26_weight.at K) p ns s := atFn_eq (P := Try.prog) (sg := sg) (K := K) (f := 57) (m := 0) [] p ns s
theorem F.pleachref26_weight.in_main K a0 a1 : F.pleachref26_weight (K + 1) a0 a1 = F.pleachref26_weight.in K (F.pleachref26_weight.at K) [] [] ⟨slots [.sc (.list .str a0 false), .sc (.list sProp a1 false)] 0, []⟩ := evFn_eq (P := Try.prog) (sg := sg) (K := K) (f := 57) (args := [.sc (.list .str a0 false), .sc (.list sProp a1 false)]) (σ := []) [] (by kernel_rfl)
def F.pleachref26_weight.l111010.st (a0 : List ByteArray) (a1 : List TProp) (x0 : Int) (x1 : Int) : St := ⟨[(0, vL .str a0), (1, vL sProp a1), (5, vI x0), (6, vI x1)], []⟩
noncomputable def F.pleachref26_weight.l111010 (K n0 : Nat) (a0 : List ByteArray) (a1 : List TProp) (x0 : Int) (x1 : Int) := F.pleachref26_weight.at K [1, 1, 1, 0, 1, 0] [n0] (F.pleachref26_weight.l111010.st a0 a1 x0 x1)
def F.pleachref26_weight.l1111010.st (a0 : List ByteArray) (a1 : List TProp) (x0 : Int) (x1 : Int) : St := ⟨[(1, vL sProp a1), (5, vI x0), (7, vI x1)], []⟩
noncomputable def F.pleachref26_weight.l1111010 (K n0 : Nat) (a0 : List ByteArray) (a1 : List TProp) (x0 : Int) (x1 : Int) := F.pleachref26_weight.at K [1, 1, 1, 1, 0, 1, 0] [n0] (F.pleachref26_weight.l1111010.st a0 a1 x0 x1)
noncomputable def F.pleachref26_weight.l111010.B (c0 : (List ByteArray) → (List TProp) → (Int) → (Int) → Option (Int)) (c1 : (List ByteArray) → (List TProp) → (Int) → (Int) → Option (Int)) (a0 : List ByteArray) (a1 : List TProp) (x0 : Int) (x1 : Int) : Option (Int) :=
    (bif (decide (x1 < (a0.length : Int))) then (guardK (decide (0 ≤ x1) && decide (x1 < (a0.length : Int))) (c0 a0 a1 (w64 (x0 + (if 5000 < ((rd .str a0 x1.toNat).size : Int) then 5000 else ((rd .str a0 x1.toNat).size : Int)))) (w64 (x1 + 1)))) else (c1 a0 a1 x0 0))
theorem F.pleachref26_weight.l111010.eq K n0 a0 a1 x0 x1 : F.pleachref26_weight.l111010 K (n0 + 1) a0 a1 x0 x1 = F.pleachref26_weight.l111010.B (F.pleachref26_weight.l111010 K n0) (F.pleachref26_weight.l1111010 K K) a0 a1 x0 x1 := (F.pleachref26_weight.in_eq K [1, 1, 1, 0, 1, 0] [n0 + 1] (F.pleachref26_weight.l111010.st a0 a1 x0 x1)).trans ((show ∀ H, F.pleachref26_weight.in K H [1, 1, 1, 0, 1, 0] [n0 + 1] (F.pleachref26_weight.l111010.st a0 a1 x0 x1) = F.pleachref26_weight.l111010.B (fun a0 a1 x0 x1 => H [1, 1, 1, 0, 1, 0] [n0] (F.pleachref26_weight.l111010.st a0 a1 x0 x1)) (fun a0 a1 x0 x1 => H [1, 1, 1, 1, 0, 1, 0] [K] (F.pleachref26_weight.l1111010.st a0 a1 x0 x1)) a0 a1 x0 x1 from by intro H; kernel_rfl) (F.pleachref26_weight.at K))
noncomputable def F.pleachref26_weight.l1111010.B (c0 : (List ByteArray) → (List TProp) → (Int) → (Int) → Option (Int)) (a0 : List ByteArray) (a1 : List TProp) (x0 : Int) (x1 : Int) : Option (Int) :=
    (bif (decide (x1 < (a1.length : Int))) then (guardK (decide (0 ≤ x1) && decide (x1 < (a1.length : Int))) (guardK (decide (0 ≤ x1) && decide (x1 < (a1.length : Int))) (c0 a0 a1 (w64 ((w64 (x0 + (if 5000 < (((rd sProp a1 x1.toNat).1).size : Int) then 5000 else (((rd sProp a1 x1.toNat).1).size : Int)))) + (if 5000 < (((((rd sProp a1 x1.toNat).2).2).2).size : Int) then 5000 else (((((rd sProp a1 x1.toNat).2).2).2).size : Int)))) (w64 (x1 + 1))))) else (some x0))
theorem F.pleachref26_weight.l1111010.eq K n0 a0 a1 x0 x1 : F.pleachref26_weight.l1111010 K (n0 + 1) a0 a1 x0 x1 = F.pleachref26_weight.l1111010.B (F.pleachref26_weight.l1111010 K n0) a0 a1 x0 x1 := (F.pleachref26_weight.in_eq K [1, 1, 1, 1, 0, 1, 0] [n0 + 1] (F.pleachref26_weight.l1111010.st a0 a1 x0 x1)).trans ((show ∀ H, F.pleachref26_weight.in K H [1, 1, 1, 1, 0, 1, 0] [n0 + 1] (F.pleachref26_weight.l1111010.st a0 a1 x0 x1) = F.pleachref26_weight.l1111010.B (fun a0 a1 x0 x1 => H [1, 1, 1, 1, 0, 1, 0] [n0] (F.pleachref26_weight.l1111010.st a0 a1 x0 x1)) a0 a1 x0 x1 from by intro H; kernel_rfl) (F.pleachref26_weight.at K))
noncomputable def F.pleachref26_weight.B (c0 : (List ByteArray) → (List TProp) → (Int) → (Int) → Option (Int)) (a0 : List ByteArray) (a1 : List TProp) : Option (Int) :=
    (bif (decide ((a0.length : Int) > 20)) then (some 100000) else (bif (decide ((a1.length : Int) > 20)) then (some 100000) else (c0 a0 a1 0 0)))
theorem F.pleachref26_weight.eq K a0 a1 : F.pleachref26_weight (K + 1) a0 a1 = F.pleachref26_weight.B (F.pleachref26_weight.l111010 K K) a0 a1 := (F.pleachref26_weight.in_main K a0 a1).trans ((show ∀ H, F.pleachref26_weight.in K H [] [] ⟨slots [.sc (.list .str a0 false), .sc (.list sProp a1 false)] 0, []⟩ = F.pleachref26_weight.B (fun a0 a1 x0 x1 => H [1, 1, 1, 0, 1, 0] [K] (F.pleachref26_weight.l111010.st a0 a1 x0 x1)) a0 a1 from by intro H; kernel_rfl) (F.pleachref26_weight.at K))
noncomputable def V.pleachref26_weight.l111010 (a0 : List ByteArray) (a1 : List TProp) (x0 : Int) (x1 : Int) := lim fun v => F.pleachref26_weight.l111010 (v 0) (v 1) a0 a1 x0 x1
noncomputable def V.pleachref26_weight.l1111010 (a0 : List ByteArray) (a1 : List TProp) (x0 : Int) (x1 : Int) := lim fun v => F.pleachref26_weight.l1111010 (v 0) (v 1) a0 a1 x0 x1
noncomputable def V.pleachref26_weight (a0 : List ByteArray) (a1 : List TProp) := lim fun v => F.pleachref26_weight (v 0) a0 a1
theorem V.pleachref26_weight.l111010.of a0 a1 x0 x1 {r} (h : F.pleachref26_weight.l111010.B V.pleachref26_weight.l111010 V.pleachref26_weight.l1111010 a0 a1 x0 x1 = some r) : V.pleachref26_weight.l111010 a0 a1 x0 x1 = some r :=
  App.to (App.step 1 (fun v => F.pleachref26_weight.l111010.eq (v 0) (v 1) a0 a1 x0 x1) (by unfold F.pleachref26_weight.l111010.B; repeat' first | exact App.val | exact App.no | exact App.lim | exact (App.enter 1 App.lim) | apply App.cond | apply App.guard | apply App.meet | apply App.ite | refine App.bind ?_ fun _ => ?_)) h
theorem V.pleachref26_weight.l1111010.of a0 a1 x0 x1 {r} (h : F.pleachref26_weight.l1111010.B V.pleachref26_weight.l1111010 a0 a1 x0 x1 = some r) : V.pleachref26_weight.l1111010 a0 a1 x0 x1 = some r :=
  App.to (App.step 1 (fun v => F.pleachref26_weight.l1111010.eq (v 0) (v 1) a0 a1 x0 x1) (by unfold F.pleachref26_weight.l1111010.B; repeat' first | exact App.val | exact App.no | exact App.lim | apply App.cond | apply App.guard | apply App.meet | apply App.ite | refine App.bind ?_ fun _ => ?_)) h
theorem V.pleachref26_weight.of a0 a1 {r} (h : F.pleachref26_weight.B V.pleachref26_weight.l111010 a0 a1 = some r) : V.pleachref26_weight a0 a1 = some r :=
  App.to (App.step 0 (fun v => F.pleachref26_weight.eq (v 0) a0 a1) (by unfold F.pleachref26_weight.B; repeat' first | exact App.val | exact App.no | exact App.lim | exact (App.enter 1 App.lim) | apply App.cond | apply App.guard | apply App.meet | apply App.ite | refine App.bind ?_ fun _ => ?_)) h
noncomputable def F.pleachref26_Few (K : Nat) (a0 : TGraph) : Option (Bool) := evFn Try.prog sg K 12 [.agg [.list sNode a0.1 false, .list sEdge a0.2 false]] []
noncomputable def F.pleachref26_Few.at (K : Nat) (p ns : List Nat) (s : St) : Option (Bool) := atFn Try.prog sg K 12 0 p ns s
noncomputable def F.pleachref26_Few.in (K : Nat) (H : List Nat → List Nat → St → Option (Bool)) (p ns : List Nat) (s : St) : Option (Bool) := inFn Try.prog sg K 12 0 [] H p ns s
theorem F.pleachref26_Few.in_eq K p ns s : F.pleachref26_Few.at K p ns s = F.pleachref26_Few.in K (F.pleachref26_Few.at K) p ns s := atFn_eq (P := Try.prog) (sg := sg) (K := K) (f := 12) (m := 0) [] p ns s
theorem F.pleachref26_Few.in_main K a0 : F.pleachref26_Few (K + 1) a0 = F.pleachref26_Few.in K (F.pleachref26_Few.at K) [] [] ⟨slots [.agg [.list sNode a0.1 false, .list sEdge a0.2 false]] 0, []⟩ := evFn_eq (P := Try.prog) (sg := sg) (K := K) (f := 12) (args := [.agg [.list sNode a0.1 false, .list sEdge a0.2 false]]) (σ := []) [] (by kernel_rfl)
def F.pleachref26_Few.l111010.st (a0 : TGraph) (x0 : Int) (x1 : Int) : St := ⟨[(1, .one (.sc (.ref 0 0))), (3, vI x0), (4, vI x1)], [.cells 25 [.list sNode a0.1 false, .list sEdge a0.2 false]]⟩
noncomputable def F.pleachref26_Few.l111010 (K n0 : Nat) (a0 : TGraph) (x0 : Int) (x1 : Int) := F.pleachref26_Few.at K [1, 1, 1, 0, 1, 0] [n0] (F.pleachref26_Few.l111010.st a0 x0 x1)
def F.pleachref26_Few.l1111010.st (a0 : TGraph) (x0 : Int) (x1 : Int) : St := ⟨[(1, .one (.sc (.ref 0 0))), (3, vI x0), (5, vI x1)], [.cells 25 [.list sNode a0.1 false, .list sEdge a0.2 false]]⟩
noncomputable def F.pleachref26_Few.l1111010 (K n0 : Nat) (a0 : TGraph) (x0 : Int) (x1 : Int) := F.pleachref26_Few.at K [1, 1, 1, 1, 0, 1, 0] [n0] (F.pleachref26_Few.l1111010.st a0 x0 x1)
noncomputable def F.pleachref26_Few.l111010.B (c0 : (List ByteArray) → (List TProp) → Option (Int)) (c1 : (TGraph) → (Int) → (Int) → Option (Bool)) (c2 : (TGraph) → (Int) → (Int) → Option (Bool)) (a0 : TGraph) (x0 : Int) (x1 : Int) : Option (Bool) :=
    (bif (decide (x1 < (a0.1.length : Int))) then (guardK (decide (0 ≤ x1) && decide (x1 < (a0.1.length : Int))) (guardK (decide (0 ≤ x1) && decide (x1 < (a0.1.length : Int))) (guardK (decide (0 ≤ x1) && decide (x1 < (a0.1.length : Int))) ((c0 (((rd sNode a0.1 x1.toNat).2).1) (((rd sNode a0.1 x1.toNat).2).2)).bind fun t0 => (c1 a0 (w64 ((w64 (x0 + (if 5000 < (((rd sNode a0.1 x1.toNat).1).size : Int) then 5000 else (((rd sNode a0.1 x1.toNat).1).size : Int)))) + t0)) (w64 (x1 + 1))))))) else (c2 a0 x0 0))
theorem F.pleachref26_Few.l111010.eq K n0 a0 x0 x1 : F.pleachref26_Few.l111010 K (n0 + 1) a0 x0 x1 = F.pleachref26_Few.l111010.B (F.pleachref26_weight K) (F.pleachref26_Few.l111010 K n0) (F.pleachref26_Few.l1111010 K K) a0 x0 x1 := (F.pleachref26_Few.in_eq K [1, 1, 1, 0, 1, 0] [n0 + 1] (F.pleachref26_Few.l111010.st a0 x0 x1)).trans ((show ∀ H, F.pleachref26_Few.in K H [1, 1, 1, 0, 1, 0] [n0 + 1] (F.pleachref26_Few.l111010.st a0 x0 x1) = F.pleachref26_Few.l111010.B (F.pleachref26_weight K) (fun a0 x0 x1 => H [1, 1, 1, 0, 1, 0] [n0] (F.pleachref26_Few.l111010.st a0 x0 x1)) (fun a0 x0 x1 => H [1, 1, 1, 1, 0, 1, 0] [K] (F.pleachref26_Few.l1111010.st a0 x0 x1)) a0 x0 x1 from by intro H; kernel_rfl) (F.pleachref26_Few.at K))
noncomputable def F.pleachref26_Few.l1111010.B (c0 : (List ByteArray) → (List TProp) → Option (Int)) (c1 : (TGraph) → (Int) → (Int) → Option (Bool)) (a0 : TGraph) (x0 : Int) (x1 : Int) : Option (Bool) :=
    (bif (decide (x1 < (a0.2.length : Int))) then (guardK (decide (0 ≤ x1) && decide (x1 < (a0.2.length : Int))) ((c0 (((((rd sEdge a0.2 x1.toNat).2).2).2).1) (((((rd sEdge a0.2 x1.toNat).2).2).2).2)).bind fun t1 => (c1 a0 (w64 ((w64 ((w64 ((w64 (x0 + (if 5000 < (((rd sEdge a0.2 x1.toNat).1).size : Int) then 5000 else (((rd sEdge a0.2 x1.toNat).1).size : Int)))) + (if 5000 < ((((rd sEdge a0.2 x1.toNat).2).1).size : Int) then 5000 else ((((rd sEdge a0.2 x1.toNat).2).1).size : Int)))) + (if 5000 < (((((rd sEdge a0.2 x1.toNat).2).2).1).size : Int) then 5000 else (((((rd sEdge a0.2 x1.toNat).2).2).1).size : Int)))) + t1)) (w64 (x1 + 1))))) else (some (decide (x0 ≤ 5000))))
theorem F.pleachref26_Few.l1111010.eq K n0 a0 x0 x1 : F.pleachref26_Few.l1111010 K (n0 + 1) a0 x0 x1 = F.pleachref26_Few.l1111010.B (F.pleachref26_weight K) (F.pleachref26_Few.l1111010 K n0) a0 x0 x1 := (F.pleachref26_Few.in_eq K [1, 1, 1, 1, 0, 1, 0] [n0 + 1] (F.pleachref26_Few.l1111010.st a0 x0 x1)).trans ((show ∀ H, F.pleachref26_Few.in K H [1, 1, 1, 1, 0, 1, 0] [n0 + 1] (F.pleachref26_Few.l1111010.st a0 x0 x1) = F.pleachref26_Few.l1111010.B (F.pleachref26_weight K) (fun a0 x0 x1 => H [1, 1, 1, 1, 0, 1, 0] [n0] (F.pleachref26_Few.l1111010.st a0 x0 x1)) a0 x0 x1 from by intro H; kernel_rfl) (F.pleachref26_Few.at K))
noncomputable def F.pleachref26_Few.B (c0 : (TGraph) → (Int) → (Int) → Option (Bool)) (a0 : TGraph) : Option (Bool) :=
    (bif (decide ((a0.1.length : Int) > 40)) then (some false) else (bif (decide ((a0.2.length : Int) > 60)) then (some false) else (c0 a0 0 0)))
theorem F.pleachref26_Few.eq K a0 : F.pleachref26_Few (K + 1) a0 = F.pleachref26_Few.B (F.pleachref26_Few.l111010 K K) a0 := (F.pleachref26_Few.in_main K a0).trans ((show ∀ H, F.pleachref26_Few.in K H [] [] ⟨slots [.agg [.list sNode a0.1 false, .list sEdge a0.2 false]] 0, []⟩ = F.pleachref26_Few.B (fun a0 x0 x1 => H [1, 1, 1, 0, 1, 0] [K] (F.pleachref26_Few.l111010.st a0 x0 x1)) a0 from by intro H; kernel_rfl) (F.pleachref26_Few.at K))
noncomputable def V.pleachref26_Few.l111010 (a0 : TGraph) (x0 : Int) (x1 : Int) := lim fun v => F.pleachref26_Few.l111010 (v 0) (v 1) a0 x0 x1
noncomputable def V.pleachref26_Few.l1111010 (a0 : TGraph) (x0 : Int) (x1 : Int) := lim fun v => F.pleachref26_Few.l1111010 (v 0) (v 1) a0 x0 x1
noncomputable def V.pleachref26_Few (a0 : TGraph) := lim fun v => F.pleachref26_Few (v 0) a0
theorem V.pleachref26_Few.l111010.of a0 x0 x1 {r} (h : F.pleachref26_Few.l111010.B V.pleachref26_weight V.pleachref26_Few.l111010 V.pleachref26_Few.l1111010 a0 x0 x1 = some r) : V.pleachref26_Few.l111010 a0 x0 x1 = some r :=
  App.to (App.step 1 (fun v => F.pleachref26_Few.l111010.eq (v 0) (v 1) a0 x0 x1) (by unfold F.pleachref26_Few.l111010.B; repeat' first | exact App.val | exact App.no | exact App.lim | exact (App.enter 1 App.lim) | apply App.cond | apply App.guard | apply App.meet | apply App.ite | refine App.bind ?_ fun _ => ?_)) h
theorem V.pleachref26_Few.l1111010.of a0 x0 x1 {r} (h : F.pleachref26_Few.l1111010.B V.pleachref26_weight V.pleachref26_Few.l1111010 a0 x0 x1 = some r) : V.pleachref26_Few.l1111010 a0 x0 x1 = some r :=
  App.to (App.step 1 (fun v => F.pleachref26_Few.l1111010.eq (v 0) (v 1) a0 x0 x1) (by unfold F.pleachref26_Few.l1111010.B; repeat' first | exact App.val | exact App.no | exact App.lim | apply App.cond | apply App.guard | apply App.meet | apply App.ite | refine App.bind ?_ fun _ => ?_)) h
theorem V.pleachref26_Few.of a0 {r} (h : F.pleachref26_Few.B V.pleachref26_Few.l111010 a0 = some r) : V.pleachref26_Few a0 = some r :=
  App.to (App.step 0 (fun v => F.pleachref26_Few.eq (v 0) a0) (by unfold F.pleachref26_Few.B; repeat' first | exact App.val | exact App.no | exact App.lim | exact (App.enter 1 App.lim) | apply App.cond | apply App.guard | apply App.meet | apply App.ite | refine App.bind ?_ fun _ => ?_)) h
noncomputable def F.name_fits (K : Nat) (a0 : Int) : Option (Bool) := evFn Try.prog sg K 120 [.sc (.val (.int .u8 a0))] []
noncomputable def F.name_fits.B (a0 : Int) : Option (Bool) :=
    (bif (decide (a0 ≥ 97)) then (bif (decide (a0 ≤ 122)) then (some true) else (bif (decide (a0 ≥ 48)) then (bif (decide (a0 ≤ 57)) then (some true) else (some (a0 == 45))) else (some (a0 == 45)))) else (bif (decide (a0 ≥ 48)) then (bif (decide (a0 ≤ 57)) then (some true) else (some (a0 == 45))) else (some (a0 == 45))))
theorem F.name_fits.eq K a0 : F.name_fits (K + 1) a0 = F.name_fits.B a0 := by kernel_rfl
noncomputable def V.name_fits (a0 : Int) := lim fun v => F.name_fits (v 0) a0
theorem V.name_fits.of a0 {r} (h : F.name_fits.B a0 = some r) : V.name_fits a0 = some r :=
  App.to (App.step 0 (fun v => F.name_fits.eq (v 0) a0) (by unfold F.name_fits.B; repeat' first | exact App.val | exact App.no | exact App.lim | apply App.cond | apply App.guard | apply App.meet | apply App.ite | refine App.bind ?_ fun _ => ?_)) h
noncomputable def F.name_Check (K : Nat) (a0 : ByteArray) : Option (Int) := evFn Try.prog sg K 73 [.sc (.val (.string a0))] []
noncomputable def F.name_Check.at (K : Nat) (p ns : List Nat) (s : St) : Option (Int) := atFn Try.prog sg K 73 0 p ns s
noncomputable def F.name_Check.in (K : Nat) (H : List Nat → List Nat → St → Option (Int)) (p ns : List Nat) (s : St) : Option (Int) := inFn Try.prog sg K 73 0 [] H p ns s
theorem F.name_Check.in_eq K p ns s : F.name_Check.at K p ns s = F.name_Check.in K (F.name_Check.at K) p ns s := atFn_eq (P := Try.prog) (sg := sg) (K := K) (f := 73) (m := 0) [] p ns s
theorem F.name_Check.in_main K a0 : F.name_Check (K + 1) a0 = F.name_Check.in K (F.name_Check.at K) [] [] ⟨slots [.sc (.val (.string a0))] 0, []⟩ := evFn_eq (P := Try.prog) (sg := sg) (K := K) (f := 73) (args := [.sc (.val (.string a0))]) (σ := []) [] (by kernel_rfl)
def F.name_Check.l11010.st (a0 : ByteArray) (x0 : Int) : St := ⟨[(0, vS a0), (12, vI (a0.size : Int)), (13, vI x0)], []⟩
noncomputable def F.name_Check.l11010 (K n0 : Nat) (a0 : ByteArray) (x0 : Int) := F.name_Check.at K [1, 1, 0, 1, 0] [n0] (F.name_Check.l11010.st a0 x0)
noncomputable def F.name_Check.l11010.B (c0 : (Int) → Option (Bool)) (c1 : (ByteArray) → (Int) → Option (Int)) (a0 : ByteArray) (x0 : Int) : Option (Int) :=
    (bif (decide (x0 < (a0.size : Int))) then (guardK (decide (0 ≤ x0) && decide (x0 < (a0.size : Int))) ((c0 (byteAt a0 x0)).bind fun t0 => (bif (!t0) then (some 2) else (c1 a0 (w64 (x0 + 1)))))) else (some 0))
theorem F.name_Check.l11010.eq K n0 a0 x0 : F.name_Check.l11010 K (n0 + 1) a0 x0 = F.name_Check.l11010.B (F.name_fits K) (F.name_Check.l11010 K n0) a0 x0 := (F.name_Check.in_eq K [1, 1, 0, 1, 0] [n0 + 1] (F.name_Check.l11010.st a0 x0)).trans ((show ∀ H, F.name_Check.in K H [1, 1, 0, 1, 0] [n0 + 1] (F.name_Check.l11010.st a0 x0) = F.name_Check.l11010.B (F.name_fits K) (fun a0 x0 => H [1, 1, 0, 1, 0] [n0] (F.name_Check.l11010.st a0 x0)) a0 x0 from by intro H; kernel_rfl) (F.name_Check.at K))
noncomputable def F.name_Check.B (c0 : (ByteArray) → (Int) → Option (Int)) (a0 : ByteArray) : Option (Int) :=
    (bif (strEq a0 (⟨#[]⟩ : ByteArray)) then (some 2) else (bif (decide ((a0.size : Int) > 12)) then (some 2) else (c0 a0 0)))
theorem F.name_Check.eq K a0 : F.name_Check (K + 1) a0 = F.name_Check.B (F.name_Check.l11010 K K) a0 := (F.name_Check.in_main K a0).trans ((show ∀ H, F.name_Check.in K H [] [] ⟨slots [.sc (.val (.string a0))] 0, []⟩ = F.name_Check.B (fun a0 x0 => H [1, 1, 0, 1, 0] [K] (F.name_Check.l11010.st a0 x0)) a0 from by intro H; kernel_rfl) (F.name_Check.at K))
noncomputable def V.name_Check.l11010 (a0 : ByteArray) (x0 : Int) := lim fun v => F.name_Check.l11010 (v 0) (v 1) a0 x0
noncomputable def V.name_Check (a0 : ByteArray) := lim fun v => F.name_Check (v 0) a0
theorem V.name_Check.l11010.of a0 x0 {r} (h : F.name_Check.l11010.B V.name_fits V.name_Check.l11010 a0 x0 = some r) : V.name_Check.l11010 a0 x0 = some r :=
  App.to (App.step 1 (fun v => F.name_Check.l11010.eq (v 0) (v 1) a0 x0) (by unfold F.name_Check.l11010.B; repeat' first | exact App.val | exact App.no | exact App.lim | apply App.cond | apply App.guard | apply App.meet | apply App.ite | refine App.bind ?_ fun _ => ?_)) h
theorem V.name_Check.of a0 {r} (h : F.name_Check.B V.name_Check.l11010 a0 = some r) : V.name_Check a0 = some r :=
  App.to (App.step 0 (fun v => F.name_Check.eq (v 0) a0) (by unfold F.name_Check.B; repeat' first | exact App.val | exact App.no | exact App.lim | exact (App.enter 1 App.lim) | apply App.cond | apply App.guard | apply App.meet | apply App.ite | refine App.bind ?_ fun _ => ?_)) h
noncomputable def F.name_Row (K : Nat) (a0 : List ByteArray) : Option (Int) := evFn Try.prog sg K 172 [.sc (.list .str a0 false)] []
noncomputable def F.name_Row.at (K : Nat) (p ns : List Nat) (s : St) : Option (Int) := atFn Try.prog sg K 172 0 p ns s
noncomputable def F.name_Row.in (K : Nat) (H : List Nat → List Nat → St → Option (Int)) (p ns : List Nat) (s : St) : Option (Int) := inFn Try.prog sg K 172 0 [] H p ns s
theorem F.name_Row.in_eq K p ns s : F.name_Row.at K p ns s = F.name_Row.in K (F.name_Row.at K) p ns s := atFn_eq (P := Try.prog) (sg := sg) (K := K) (f := 172) (m := 0) [] p ns s
theorem F.name_Row.in_main K a0 : F.name_Row (K + 1) a0 = F.name_Row.in K (F.name_Row.at K) [] [] ⟨slots [.sc (.list .str a0 false)] 0, []⟩ := evFn_eq (P := Try.prog) (sg := sg) (K := K) (f := 172) (args := [.sc (.list .str a0 false)]) (σ := []) [] (by kernel_rfl)
def F.name_Row.l1010.st (a0 : List ByteArray) (x0 : Int) : St := ⟨[(0, vL .str a0), (6, vL .str a0), (7, vI (a0.length : Int)), (8, vI x0)], []⟩
noncomputable def F.name_Row.l1010 (K n0 : Nat) (a0 : List ByteArray) (x0 : Int) := F.name_Row.at K [1, 0, 1, 0] [n0] (F.name_Row.l1010.st a0 x0)
noncomputable def F.name_Row.l1010.B (c0 : (ByteArray) → Option (Int)) (c1 : (List ByteArray) → (Int) → Option (Int)) (a0 : List ByteArray) (x0 : Int) : Option (Int) :=
    (bif (decide (x0 < (a0.length : Int))) then (guardK (decide (0 ≤ x0) && decide (x0 < (a0.length : Int))) ((c0 (rd .str a0 x0.toNat)).bind fun t0 => (bif (t0 != 0) then (some t0) else (bif (decide (x0 > 0)) then (guardK (decide (0 ≤ (w64 (x0 - 1))) && decide ((w64 (x0 - 1)) < (a0.length : Int))) (bif (!strLt (rd .str a0 ((w64 (x0 - 1)).toNat)) (rd .str a0 x0.toNat)) then (some 4) else (c1 a0 (w64 (x0 + 1))))) else (c1 a0 (w64 (x0 + 1))))))) else (some 0))
theorem F.name_Row.l1010.eq K n0 a0 x0 : F.name_Row.l1010 K (n0 + 1) a0 x0 = F.name_Row.l1010.B (F.name_Check K) (F.name_Row.l1010 K n0) a0 x0 := (F.name_Row.in_eq K [1, 0, 1, 0] [n0 + 1] (F.name_Row.l1010.st a0 x0)).trans ((show ∀ H, F.name_Row.in K H [1, 0, 1, 0] [n0 + 1] (F.name_Row.l1010.st a0 x0) = F.name_Row.l1010.B (F.name_Check K) (fun a0 x0 => H [1, 0, 1, 0] [n0] (F.name_Row.l1010.st a0 x0)) a0 x0 from by intro H; kernel_rfl) (F.name_Row.at K))
noncomputable def F.name_Row.B (c0 : (List ByteArray) → (Int) → Option (Int)) (a0 : List ByteArray) : Option (Int) :=
    (c0 a0 0)
theorem F.name_Row.eq K a0 : F.name_Row (K + 1) a0 = F.name_Row.B (F.name_Row.l1010 K K) a0 := (F.name_Row.in_main K a0).trans ((show ∀ H, F.name_Row.in K H [] [] ⟨slots [.sc (.list .str a0 false)] 0, []⟩ = F.name_Row.B (fun a0 x0 => H [1, 0, 1, 0] [K] (F.name_Row.l1010.st a0 x0)) a0 from by intro H; kernel_rfl) (F.name_Row.at K))
noncomputable def V.name_Row.l1010 (a0 : List ByteArray) (x0 : Int) := lim fun v => F.name_Row.l1010 (v 0) (v 1) a0 x0
noncomputable def V.name_Row (a0 : List ByteArray) := lim fun v => F.name_Row (v 0) a0
theorem V.name_Row.l1010.of a0 x0 {r} (h : F.name_Row.l1010.B V.name_Check V.name_Row.l1010 a0 x0 = some r) : V.name_Row.l1010 a0 x0 = some r :=
  App.to (App.step 1 (fun v => F.name_Row.l1010.eq (v 0) (v 1) a0 x0) (by unfold F.name_Row.l1010.B; repeat' first | exact App.val | exact App.no | exact App.lim | apply App.cond | apply App.guard | apply App.meet | apply App.ite | refine App.bind ?_ fun _ => ?_)) h
theorem V.name_Row.of a0 {r} (h : F.name_Row.B V.name_Row.l1010 a0 = some r) : V.name_Row a0 = some r :=
  App.to (App.step 0 (fun v => F.name_Row.eq (v 0) a0) (by unfold F.name_Row.B; repeat' first | exact App.val | exact App.no | exact App.lim | exact (App.enter 1 App.lim) | apply App.cond | apply App.guard | apply App.meet | apply App.ite | refine App.bind ?_ fun _ => ?_)) h
noncomputable def F.value_Check (K : Nat) (a0 : TValue) : Option (Int) := evFn Try.prog sg K 121 [.agg [.val (.int .i64 a0.1), .val (.int .i64 a0.2.1), .val (.string a0.2.2)]] []
noncomputable def F.value_Check.B (a0 : TValue) : Option (Int) :=
    (bif (a0.1 == 1) then (bif (a0.2.1 == 0) then (bif (!(strEq a0.2.2 (⟨#[]⟩ : ByteArray))) then (some 2) else (some 0)) else (bif (a0.2.1 == 1) then (bif (!(strEq a0.2.2 (⟨#[]⟩ : ByteArray))) then (some 2) else (some 0)) else (some 2))) else (bif (a0.1 == 2) then (bif (!(strEq a0.2.2 (⟨#[]⟩ : ByteArray))) then (some 2) else (some 0)) else (bif (a0.1 == 3) then (bif (a0.2.1 == 0) then (bif (!(decide ((a0.2.2.size : Int) ≤ 64))) then (some 2) else (some 0)) else (some 2)) else (some 2))))
theorem F.value_Check.eq K a0 : F.value_Check (K + 1) a0 = F.value_Check.B a0 := by kernel_rfl
noncomputable def V.value_Check (a0 : TValue) := lim fun v => F.value_Check (v 0) a0
theorem V.value_Check.of a0 {r} (h : F.value_Check.B a0 = some r) : V.value_Check a0 = some r :=
  App.to (App.step 0 (fun v => F.value_Check.eq (v 0) a0) (by unfold F.value_Check.B; repeat' first | exact App.val | exact App.no | exact App.lim | apply App.cond | apply App.guard | apply App.meet | apply App.ite | refine App.bind ?_ fun _ => ?_)) h
noncomputable def F.elem_CheckProps (K : Nat) (a0 : List TProp) : Option (Int) := evFn Try.prog sg K 173 [.sc (.list sProp a0 false)] []
noncomputable def F.elem_CheckProps.at (K : Nat) (p ns : List Nat) (s : St) : Option (Int) := atFn Try.prog sg K 173 0 p ns s
noncomputable def F.elem_CheckProps.in (K : Nat) (H : List Nat → List Nat → St → Option (Int)) (p ns : List Nat) (s : St) : Option (Int) := inFn Try.prog sg K 173 0 [] H p ns s
theorem F.elem_CheckProps.in_eq K p ns s : F.elem_CheckProps.at K p ns s = F.elem_CheckProps.in K (F.elem_CheckProps.at K) p ns s := atFn_eq (P := Try.prog) (sg := sg) (K := K) (f := 173) (m := 0) [] p ns s
theorem F.elem_CheckProps.in_main K a0 : F.elem_CheckProps (K + 1) a0 = F.elem_CheckProps.in K (F.elem_CheckProps.at K) [] [] ⟨slots [.sc (.list sProp a0 false)] 0, []⟩ := evFn_eq (P := Try.prog) (sg := sg) (K := K) (f := 173) (args := [.sc (.list sProp a0 false)]) (σ := []) [] (by kernel_rfl)
def F.elem_CheckProps.l11010.st (a0 : List TProp) (x0 : Int) : St := ⟨[(0, vL sProp a0), (8, vL sProp a0), (9, vI (a0.length : Int)), (10, vI x0)], []⟩
noncomputable def F.elem_CheckProps.l11010 (K n0 : Nat) (a0 : List TProp) (x0 : Int) := F.elem_CheckProps.at K [1, 1, 0, 1, 0] [n0] (F.elem_CheckProps.l11010.st a0 x0)
noncomputable def F.elem_CheckProps.l11010.B (c0 : (ByteArray) → Option (Int)) (c1 : (TValue) → Option (Int)) (c2 : (List TProp) → (Int) → Option (Int)) (a0 : List TProp) (x0 : Int) : Option (Int) :=
    (bif (decide (x0 < (a0.length : Int))) then (guardK (decide (0 ≤ x0) && decide (x0 < (a0.length : Int))) ((c0 ((rd sProp a0 x0.toNat).1)).bind fun t0 => (bif (t0 != 0) then (some 2) else ((c1 (((rd sProp a0 x0.toNat).2).1, (((rd sProp a0 x0.toNat).2).2).1, (((rd sProp a0 x0.toNat).2).2).2)).bind fun t1 => (bif (t1 != 0) then (some 2) else (bif (decide (x0 > 0)) then (guardK (decide (0 ≤ (w64 (x0 - 1))) && decide ((w64 (x0 - 1)) < (a0.length : Int))) (bif (!strLt ((rd sProp a0 ((w64 (x0 - 1)).toNat)).1) ((rd sProp a0 x0.toNat).1)) then (some 4) else (c2 a0 (w64 (x0 + 1))))) else (c2 a0 (w64 (x0 + 1))))))))) else (some 0))
theorem F.elem_CheckProps.l11010.eq K n0 a0 x0 : F.elem_CheckProps.l11010 K (n0 + 1) a0 x0 = F.elem_CheckProps.l11010.B (F.name_Check K) (F.value_Check K) (F.elem_CheckProps.l11010 K n0) a0 x0 := (F.elem_CheckProps.in_eq K [1, 1, 0, 1, 0] [n0 + 1] (F.elem_CheckProps.l11010.st a0 x0)).trans ((show ∀ H, F.elem_CheckProps.in K H [1, 1, 0, 1, 0] [n0 + 1] (F.elem_CheckProps.l11010.st a0 x0) = F.elem_CheckProps.l11010.B (F.name_Check K) (F.value_Check K) (fun a0 x0 => H [1, 1, 0, 1, 0] [n0] (F.elem_CheckProps.l11010.st a0 x0)) a0 x0 from by intro H; kernel_rfl) (F.elem_CheckProps.at K))
noncomputable def F.elem_CheckProps.B (c0 : (List TProp) → (Int) → Option (Int)) (a0 : List TProp) : Option (Int) :=
    (bif (decide ((a0.length : Int) > 8)) then (some 5) else (c0 a0 0))
theorem F.elem_CheckProps.eq K a0 : F.elem_CheckProps (K + 1) a0 = F.elem_CheckProps.B (F.elem_CheckProps.l11010 K K) a0 := (F.elem_CheckProps.in_main K a0).trans ((show ∀ H, F.elem_CheckProps.in K H [] [] ⟨slots [.sc (.list sProp a0 false)] 0, []⟩ = F.elem_CheckProps.B (fun a0 x0 => H [1, 1, 0, 1, 0] [K] (F.elem_CheckProps.l11010.st a0 x0)) a0 from by intro H; kernel_rfl) (F.elem_CheckProps.at K))
noncomputable def V.elem_CheckProps.l11010 (a0 : List TProp) (x0 : Int) := lim fun v => F.elem_CheckProps.l11010 (v 0) (v 1) a0 x0
noncomputable def V.elem_CheckProps (a0 : List TProp) := lim fun v => F.elem_CheckProps (v 0) a0
theorem V.elem_CheckProps.l11010.of a0 x0 {r} (h : F.elem_CheckProps.l11010.B V.name_Check V.value_Check V.elem_CheckProps.l11010 a0 x0 = some r) : V.elem_CheckProps.l11010 a0 x0 = some r :=
  App.to (App.step 1 (fun v => F.elem_CheckProps.l11010.eq (v 0) (v 1) a0 x0) (by unfold F.elem_CheckProps.l11010.B; repeat' first | exact App.val | exact App.no | exact App.lim | apply App.cond | apply App.guard | apply App.meet | apply App.ite | refine App.bind ?_ fun _ => ?_)) h
theorem V.elem_CheckProps.of a0 {r} (h : F.elem_CheckProps.B V.elem_CheckProps.l11010 a0 = some r) : V.elem_CheckProps a0 = some r :=
  App.to (App.step 0 (fun v => F.elem_CheckProps.eq (v 0) a0) (by unfold F.elem_CheckProps.B; repeat' first | exact App.val | exact App.no | exact App.lim | exact (App.enter 1 App.lim) | apply App.cond | apply App.guard | apply App.meet | apply App.ite | refine App.bind ?_ fun _ => ?_)) h
noncomputable def F.elem_rest (K : Nat) (a0 : List ByteArray) (a1 : List TProp) : Option (Int) := evFn Try.prog sg K 134 [.sc (.list .str a0 false), .sc (.list sProp a1 false)] []
noncomputable def F.elem_rest.B (c0 : (List ByteArray) → Option (Int)) (c1 : (List TProp) → Option (Int)) (a0 : List ByteArray) (a1 : List TProp) : Option (Int) :=
    (bif (decide ((a0.length : Int) > 8)) then (some 5) else ((c0 a0).bind fun t0 => (bif (t0 != 0) then (some t0) else ((c1 a1).bind fun t1 => (some t1)))))
theorem F.elem_rest.eq K a0 a1 : F.elem_rest (K + 1) a0 a1 = F.elem_rest.B (F.name_Row K) (F.elem_CheckProps K) a0 a1 := by kernel_rfl
noncomputable def V.elem_rest (a0 : List ByteArray) (a1 : List TProp) := lim fun v => F.elem_rest (v 0) a0 a1
theorem V.elem_rest.of a0 a1 {r} (h : F.elem_rest.B V.name_Row V.elem_CheckProps a0 a1 = some r) : V.elem_rest a0 a1 = some r :=
  App.to (App.step 0 (fun v => F.elem_rest.eq (v 0) a0 a1) (by unfold F.elem_rest.B; repeat' first | exact App.val | exact App.no | exact App.lim | apply App.cond | apply App.guard | apply App.meet | apply App.ite | refine App.bind ?_ fun _ => ?_)) h
noncomputable def F.elem_CheckNode (K : Nat) (a0 : TNode) : Option (Int) := evFn Try.prog sg K 85 [.agg [.val (.string a0.1), .list .str a0.2.1 false, .list sProp a0.2.2 false]] []
noncomputable def F.elem_CheckNode.B (c0 : (ByteArray) → Option (Int)) (c1 : (List ByteArray) → (List TProp) → Option (Int)) (a0 : TNode) : Option (Int) :=
    ((c0 a0.1).bind fun t0 => (bif (t0 != 0) then (some t0) else ((c1 a0.2.1 a0.2.2).bind fun t1 => (some t1))))
theorem F.elem_CheckNode.eq K a0 : F.elem_CheckNode (K + 1) a0 = F.elem_CheckNode.B (F.name_Check K) (F.elem_rest K) a0 := by kernel_rfl
noncomputable def V.elem_CheckNode (a0 : TNode) := lim fun v => F.elem_CheckNode (v 0) a0
theorem V.elem_CheckNode.of a0 {r} (h : F.elem_CheckNode.B V.name_Check V.elem_rest a0 = some r) : V.elem_CheckNode a0 = some r :=
  App.to (App.step 0 (fun v => F.elem_CheckNode.eq (v 0) a0) (by unfold F.elem_CheckNode.B; repeat' first | exact App.val | exact App.no | exact App.lim | apply App.cond | apply App.guard | apply App.meet | apply App.ite | refine App.bind ?_ fun _ => ?_)) h
noncomputable def F.cmp_isNaN_string (K : Nat) (a0 : ByteArray) : Option (Bool) := evFn Try.prog sg K 174 [.sc (.val (.string a0))] []
noncomputable def F.cmp_isNaN_string.B (a0 : ByteArray) : Option (Bool) :=
    (some (!strEq a0 a0))
theorem F.cmp_isNaN_string.eq K a0 : F.cmp_isNaN_string (K + 1) a0 = F.cmp_isNaN_string.B a0 := by kernel_rfl
noncomputable def V.cmp_isNaN_string (a0 : ByteArray) := lim fun v => F.cmp_isNaN_string (v 0) a0
theorem V.cmp_isNaN_string.of a0 {r} (h : F.cmp_isNaN_string.B a0 = some r) : V.cmp_isNaN_string a0 = some r :=
  App.to (App.step 0 (fun v => F.cmp_isNaN_string.eq (v 0) a0) (by unfold F.cmp_isNaN_string.B; repeat' first | exact App.val | exact App.no | exact App.lim | apply App.cond | apply App.guard | apply App.meet | apply App.ite | refine App.bind ?_ fun _ => ?_)) h
noncomputable def F.cmp_Compare_string (K : Nat) (a0 : ByteArray) (a1 : ByteArray) : Option (Int) := evFn Try.prog sg K 137 [.sc (.val (.string a0)), .sc (.val (.string a1))] []
noncomputable def F.cmp_Compare_string.B (c0 : (ByteArray) → Option (Bool)) (a0 : ByteArray) (a1 : ByteArray) : Option (Int) :=
    ((c0 a0).bind fun t0 => ((c0 a1).bind fun t1 => (bif t0 then (bif t1 then (some 0) else (some (-1))) else (bif t1 then (some 1) else (bif (strLt a0 a1) then (some (-1)) else (bif (!(strLt a0 a1 || strEq a0 a1)) then (some 1) else (some 0)))))))
theorem F.cmp_Compare_string.eq K a0 a1 : F.cmp_Compare_string (K + 1) a0 a1 = F.cmp_Compare_string.B (F.cmp_isNaN_string K) a0 a1 := by kernel_rfl
noncomputable def V.cmp_Compare_string (a0 : ByteArray) (a1 : ByteArray) := lim fun v => F.cmp_Compare_string (v 0) a0 a1
theorem V.cmp_Compare_string.of a0 a1 {r} (h : F.cmp_Compare_string.B V.cmp_isNaN_string a0 a1 = some r) : V.cmp_Compare_string a0 a1 = some r :=
  App.to (App.step 0 (fun v => F.cmp_Compare_string.eq (v 0) a0 a1) (by unfold F.cmp_Compare_string.B; repeat' first | exact App.val | exact App.no | exact App.lim | apply App.cond | apply App.guard | apply App.meet | apply App.ite | refine App.bind ?_ fun _ => ?_)) h
noncomputable def F.elem_CheckEdge (K : Nat) (a0 : TEdge) : Option (Int) := evFn Try.prog sg K 86 [.agg [.val (.string a0.1), .val (.string a0.2.1), .val (.string a0.2.2.1), .list .str a0.2.2.2.1 false, .list sProp a0.2.2.2.2 false]] []
noncomputable def F.elem_CheckEdge.at (K : Nat) (p ns : List Nat) (s : St) : Option (Int) := atFn Try.prog sg K 86 0 p ns s
noncomputable def F.elem_CheckEdge.in (K : Nat) (H : List Nat → List Nat → St → Option (Int)) (p ns : List Nat) (s : St) : Option (Int) := inFn Try.prog sg K 86 0 [] H p ns s
theorem F.elem_CheckEdge.in_eq K p ns s : F.elem_CheckEdge.at K p ns s = F.elem_CheckEdge.in K (F.elem_CheckEdge.at K) p ns s := atFn_eq (P := Try.prog) (sg := sg) (K := K) (f := 86) (m := 0) [] p ns s
theorem F.elem_CheckEdge.in_main K a0 : F.elem_CheckEdge (K + 1) a0 = F.elem_CheckEdge.in K (F.elem_CheckEdge.at K) [] [] ⟨slots [.agg [.val (.string a0.1), .val (.string a0.2.1), .val (.string a0.2.2.1), .list .str a0.2.2.2.1 false, .list sProp a0.2.2.2.2 false]] 0, []⟩ := evFn_eq (P := Try.prog) (sg := sg) (K := K) (f := 86) (args := [.agg [.val (.string a0.1), .val (.string a0.2.1), .val (.string a0.2.2.1), .list .str a0.2.2.2.1 false, .list sProp a0.2.2.2.2 false]]) (σ := []) [] (by kernel_rfl)
def F.elem_CheckEdge.l1010.st (a0 : TEdge) (x0 : Int) : St := ⟨[(1, .one (.sc (.ref 0 0))), (12, .one (.agg [.val (.string a0.1), .val (.string a0.2.1), .val (.string a0.2.2.1)])), (13, vI x0)], [.cells 95 [.val (.string a0.1), .val (.string a0.2.1), .val (.string a0.2.2.1), .list .str a0.2.2.2.1 false, .list sProp a0.2.2.2.2 false]]⟩
noncomputable def F.elem_CheckEdge.l1010 (K n0 : Nat) (a0 : TEdge) (x0 : Int) := F.elem_CheckEdge.at K [1, 0, 1, 0] [n0] (F.elem_CheckEdge.l1010.st a0 x0)
noncomputable def F.elem_CheckEdge.l1010.B (c0 : (ByteArray) → Option (Int)) (c1 : (TEdge) → (Int) → Option (Int)) (c2 : (List ByteArray) → (List TProp) → Option (Int)) (a0 : TEdge) (x0 : Int) : Option (Int) :=
    (bif (decide (x0 < 3)) then (bif (x0 == 0) then ((c0 a0.1).bind fun t0 => (bif (t0 != 0) then (some t0) else (c1 a0 (w64 (x0 + 1))))) else (bif (x0 == 1) then ((c0 a0.2.1).bind fun t1 => (bif (t1 != 0) then (some t1) else (c1 a0 (w64 (x0 + 1))))) else (bif (x0 == 2) then ((c0 a0.2.2.1).bind fun t2 => (bif (t2 != 0) then (some t2) else (c1 a0 (w64 (x0 + 1))))) else none))) else ((c2 a0.2.2.2.1 a0.2.2.2.2).bind fun t3 => (some t3)))
theorem F.elem_CheckEdge.l1010.eq K n0 a0 x0 : F.elem_CheckEdge.l1010 K (n0 + 1) a0 x0 = F.elem_CheckEdge.l1010.B (F.name_Check K) (F.elem_CheckEdge.l1010 K n0) (F.elem_rest K) a0 x0 := (F.elem_CheckEdge.in_eq K [1, 0, 1, 0] [n0 + 1] (F.elem_CheckEdge.l1010.st a0 x0)).trans ((show ∀ H, F.elem_CheckEdge.in K H [1, 0, 1, 0] [n0 + 1] (F.elem_CheckEdge.l1010.st a0 x0) = F.elem_CheckEdge.l1010.B (F.name_Check K) (fun a0 x0 => H [1, 0, 1, 0] [n0] (F.elem_CheckEdge.l1010.st a0 x0)) (F.elem_rest K) a0 x0 from by intro H; kernel_rfl) (F.elem_CheckEdge.at K))
noncomputable def F.elem_CheckEdge.B (c0 : (TEdge) → (Int) → Option (Int)) (a0 : TEdge) : Option (Int) :=
    (c0 a0 0)
theorem F.elem_CheckEdge.eq K a0 : F.elem_CheckEdge (K + 1) a0 = F.elem_CheckEdge.B (F.elem_CheckEdge.l1010 K K) a0 := (F.elem_CheckEdge.in_main K a0).trans ((show ∀ H, F.elem_CheckEdge.in K H [] [] ⟨slots [.agg [.val (.string a0.1), .val (.string a0.2.1), .val (.string a0.2.2.1), .list .str a0.2.2.2.1 false, .list sProp a0.2.2.2.2 false]] 0, []⟩ = F.elem_CheckEdge.B (fun a0 x0 => H [1, 0, 1, 0] [K] (F.elem_CheckEdge.l1010.st a0 x0)) a0 from by intro H; kernel_rfl) (F.elem_CheckEdge.at K))
noncomputable def V.elem_CheckEdge.l1010 (a0 : TEdge) (x0 : Int) := lim fun v => F.elem_CheckEdge.l1010 (v 0) (v 1) a0 x0
noncomputable def V.elem_CheckEdge (a0 : TEdge) := lim fun v => F.elem_CheckEdge (v 0) a0
theorem V.elem_CheckEdge.l1010.of a0 x0 {r} (h : F.elem_CheckEdge.l1010.B V.name_Check V.elem_CheckEdge.l1010 V.elem_rest a0 x0 = some r) : V.elem_CheckEdge.l1010 a0 x0 = some r :=
  App.to (App.step 1 (fun v => F.elem_CheckEdge.l1010.eq (v 0) (v 1) a0 x0) (by unfold F.elem_CheckEdge.l1010.B; repeat' first | exact App.val | exact App.no | exact App.lim | apply App.cond | apply App.guard | apply App.meet | apply App.ite | refine App.bind ?_ fun _ => ?_)) h
theorem V.elem_CheckEdge.of a0 {r} (h : F.elem_CheckEdge.B V.elem_CheckEdge.l1010 a0 = some r) : V.elem_CheckEdge a0 = some r :=
  App.to (App.step 0 (fun v => F.elem_CheckEdge.eq (v 0) a0) (by unfold F.elem_CheckEdge.B; repeat' first | exact App.val | exact App.no | exact App.lim | exact (App.enter 1 App.lim) | apply App.cond | apply App.guard | apply App.meet | apply App.ite | refine App.bind ?_ fun _ => ?_)) h
noncomputable def F.graph_node_1 (K : Nat) (a0 : TNode) (a1 : ByteArray) : Option (Int) := evFn Try.prog sg K 136 [.agg [.val (.string a0.1), .list .str a0.2.1 false, .list sProp a0.2.2 false], .sc (.val (.string a1))] []
noncomputable def F.graph_node_1.B (c0 : (ByteArray) → (ByteArray) → Option (Int)) (a0 : TNode) (a1 : ByteArray) : Option (Int) :=
    ((c0 a0.1 a1).bind fun t0 => (some t0))
theorem F.graph_node_1.eq K a0 a1 : F.graph_node_1 (K + 1) a0 a1 = F.graph_node_1.B (F.cmp_Compare_string K) a0 a1 := by kernel_rfl
noncomputable def V.graph_node_1 (a0 : TNode) (a1 : ByteArray) := lim fun v => F.graph_node_1 (v 0) a0 a1
theorem V.graph_node_1.of a0 a1 {r} (h : F.graph_node_1.B V.cmp_Compare_string a0 a1 = some r) : V.graph_node_1 a0 a1 = some r :=
  App.to (App.step 0 (fun v => F.graph_node_1.eq (v 0) a0 a1) (by unfold F.graph_node_1.B; repeat' first | exact App.val | exact App.no | exact App.lim | apply App.cond | apply App.guard | apply App.meet | apply App.ite | refine App.bind ?_ fun _ => ?_)) h
noncomputable def F.slices_BinarySearchFunc_apiNodeapiNodestring_by_graph_node_1 (K : Nat) (a0 : List TNode) (a1 : ByteArray) : Option (Int × Bool) := evFn Try.prog sg K 135 [.sc (.list sNode a0 false), .sc (.val (.string a1)), .sc (.fn 136 [])] []
noncomputable def F.slices_BinarySearchFunc_apiNodeapiNodestring_by_graph_node_1.at (K : Nat) (p ns : List Nat) (s : St) : Option (Int × Bool) := atFn Try.prog sg K 135 0 p ns s
noncomputable def F.slices_BinarySearchFunc_apiNodeapiNodestring_by_graph_node_1.in (K : Nat) (H : List Nat → List Nat → St → Option (Int × Bool)) (p ns : List Nat) (s : St) : Option (Int × Bool) := inFn Try.prog sg K 135 0 [] H p ns s
theorem F.slices_BinarySearchFunc_apiNodeapiNodestring_by_graph_node_1.in_eq K p ns s : F.slices_BinarySearchFunc_apiNodeapiNodestring_by_graph_node_1.at K p ns s = F.slices_BinarySearchFunc_apiNodeapiNodestring_by_graph_node_1.in K (F.slices_BinarySearchFunc_apiNodeapiNodestring_by_graph_node_1.at K) p ns s := atFn_eq (P := Try.prog) (sg := sg) (K := K) (f := 135) (m := 0) [] p ns s
theorem F.slices_BinarySearchFunc_apiNodeapiNodestring_by_graph_node_1.in_main K a0 a1 : F.slices_BinarySearchFunc_apiNodeapiNodestring_by_graph_node_1 (K + 1) a0 a1 = F.slices_BinarySearchFunc_apiNodeapiNodestring_by_graph_node_1.in K (F.slices_BinarySearchFunc_apiNodeapiNodestring_by_graph_node_1.at K) [] [] ⟨slots [.sc (.list sNode a0 false), .sc (.val (.string a1)), .sc (.fn 136 [])] 0, []⟩ := evFn_eq (P := Try.prog) (sg := sg) (K := K) (f := 135) (args := [.sc (.list sNode a0 false), .sc (.val (.string a1)), .sc (.fn 136 [])]) (σ := []) [] (by kernel_rfl)
def F.slices_BinarySearchFunc_apiNodeapiNodestring_by_graph_node_1.l11100.st (a0 : List TNode) (a1 : ByteArray) (x0 : Int) (x1 : Int) : St := ⟨[(0, vL sNode a0), (1, vS a1), (2, .one (.sc (.fn 136 []))), (8, vI (a0.length : Int)), (9, vI x0), (10, vI x1)], []⟩
noncomputable def F.slices_BinarySearchFunc_apiNodeapiNodestring_by_graph_node_1.l11100 (K n0 : Nat) (a0 : List TNode) (a1 : ByteArray) (x0 : Int) (x1 : Int) := F.slices_BinarySearchFunc_apiNodeapiNodestring_by_graph_node_1.at K [1, 1, 1, 0, 0] [n0] (F.slices_BinarySearchFunc_apiNodeapiNodestring_by_graph_node_1.l11100.st a0 a1 x0 x1)
noncomputable def F.slices_BinarySearchFunc_apiNodeapiNodestring_by_graph_node_1.l11100.B (c0 : (TNode) → (ByteArray) → Option (Int)) (c1 : (List TNode) → (ByteArray) → (Int) → (Int) → Option (Int × Bool)) (a0 : List TNode) (a1 : ByteArray) (x0 : Int) (x1 : Int) : Option (Int × Bool) :=
    (bif (decide (x0 < x1)) then (guardK (decide (0 ≤ (w64 (Int.fdiv (IntKind.wrap .u64 (w64 (x0 + x1))) (2 ^ 1)))) && decide ((w64 (Int.fdiv (IntKind.wrap .u64 (w64 (x0 + x1))) (2 ^ 1))) < (a0.length : Int))) ((c0 ((rd sNode a0 ((w64 (Int.fdiv (IntKind.wrap .u64 (w64 (x0 + x1))) (2 ^ 1))).toNat)).1, ((rd sNode a0 ((w64 (Int.fdiv (IntKind.wrap .u64 (w64 (x0 + x1))) (2 ^ 1))).toNat)).2).1, ((rd sNode a0 ((w64 (Int.fdiv (IntKind.wrap .u64 (w64 (x0 + x1))) (2 ^ 1))).toNat)).2).2) a1).bind fun t0 => (bif (decide (t0 < 0)) then (c1 a0 a1 (w64 ((w64 (Int.fdiv (IntKind.wrap .u64 (w64 (x0 + x1))) (2 ^ 1))) + 1)) x1) else (c1 a0 a1 x0 (w64 (Int.fdiv (IntKind.wrap .u64 (w64 (x0 + x1))) (2 ^ 1))))))) else (bif (decide (x0 < (a0.length : Int))) then (guardK (decide (0 ≤ x0) && decide (x0 < (a0.length : Int))) ((c0 ((rd sNode a0 x0.toNat).1, ((rd sNode a0 x0.toNat).2).1, ((rd sNode a0 x0.toNat).2).2) a1).bind fun t1 => (some (x0, (t1 == 0))))) else (some (x0, false))))
theorem F.slices_BinarySearchFunc_apiNodeapiNodestring_by_graph_node_1.l11100.eq K n0 a0 a1 x0 x1 : F.slices_BinarySearchFunc_apiNodeapiNodestring_by_graph_node_1.l11100 K (n0 + 1) a0 a1 x0 x1 = F.slices_BinarySearchFunc_apiNodeapiNodestring_by_graph_node_1.l11100.B (F.graph_node_1 K) (F.slices_BinarySearchFunc_apiNodeapiNodestring_by_graph_node_1.l11100 K n0) a0 a1 x0 x1 := (F.slices_BinarySearchFunc_apiNodeapiNodestring_by_graph_node_1.in_eq K [1, 1, 1, 0, 0] [n0 + 1] (F.slices_BinarySearchFunc_apiNodeapiNodestring_by_graph_node_1.l11100.st a0 a1 x0 x1)).trans ((show ∀ H, F.slices_BinarySearchFunc_apiNodeapiNodestring_by_graph_node_1.in K H [1, 1, 1, 0, 0] [n0 + 1] (F.slices_BinarySearchFunc_apiNodeapiNodestring_by_graph_node_1.l11100.st a0 a1 x0 x1) = F.slices_BinarySearchFunc_apiNodeapiNodestring_by_graph_node_1.l11100.B (F.graph_node_1 K) (fun a0 a1 x0 x1 => H [1, 1, 1, 0, 0] [n0] (F.slices_BinarySearchFunc_apiNodeapiNodestring_by_graph_node_1.l11100.st a0 a1 x0 x1)) a0 a1 x0 x1 from by intro H; kernel_rfl) (F.slices_BinarySearchFunc_apiNodeapiNodestring_by_graph_node_1.at K))
noncomputable def F.slices_BinarySearchFunc_apiNodeapiNodestring_by_graph_node_1.B (c0 : (List TNode) → (ByteArray) → (Int) → (Int) → Option (Int × Bool)) (a0 : List TNode) (a1 : ByteArray) : Option (Int × Bool) :=
    (c0 a0 a1 0 (a0.length : Int))
theorem F.slices_BinarySearchFunc_apiNodeapiNodestring_by_graph_node_1.eq K a0 a1 : F.slices_BinarySearchFunc_apiNodeapiNodestring_by_graph_node_1 (K + 1) a0 a1 = F.slices_BinarySearchFunc_apiNodeapiNodestring_by_graph_node_1.B (F.slices_BinarySearchFunc_apiNodeapiNodestring_by_graph_node_1.l11100 K K) a0 a1 := (F.slices_BinarySearchFunc_apiNodeapiNodestring_by_graph_node_1.in_main K a0 a1).trans ((show ∀ H, F.slices_BinarySearchFunc_apiNodeapiNodestring_by_graph_node_1.in K H [] [] ⟨slots [.sc (.list sNode a0 false), .sc (.val (.string a1)), .sc (.fn 136 [])] 0, []⟩ = F.slices_BinarySearchFunc_apiNodeapiNodestring_by_graph_node_1.B (fun a0 a1 x0 x1 => H [1, 1, 1, 0, 0] [K] (F.slices_BinarySearchFunc_apiNodeapiNodestring_by_graph_node_1.l11100.st a0 a1 x0 x1)) a0 a1 from by intro H; kernel_rfl) (F.slices_BinarySearchFunc_apiNodeapiNodestring_by_graph_node_1.at K))
noncomputable def V.slices_BinarySearchFunc_apiNodeapiNodestring_by_graph_node_1.l11100 (a0 : List TNode) (a1 : ByteArray) (x0 : Int) (x1 : Int) := lim fun v => F.slices_BinarySearchFunc_apiNodeapiNodestring_by_graph_node_1.l11100 (v 0) (v 1) a0 a1 x0 x1
noncomputable def V.slices_BinarySearchFunc_apiNodeapiNodestring_by_graph_node_1 (a0 : List TNode) (a1 : ByteArray) := lim fun v => F.slices_BinarySearchFunc_apiNodeapiNodestring_by_graph_node_1 (v 0) a0 a1
theorem V.slices_BinarySearchFunc_apiNodeapiNodestring_by_graph_node_1.l11100.of a0 a1 x0 x1 {r} (h : F.slices_BinarySearchFunc_apiNodeapiNodestring_by_graph_node_1.l11100.B V.graph_node_1 V.slices_BinarySearchFunc_apiNodeapiNodestring_by_graph_node_1.l11100 a0 a1 x0 x1 = some r) : V.slices_BinarySearchFunc_apiNodeapiNodestring_by_graph_node_1.l11100 a0 a1 x0 x1 = some r :=
  App.to (App.step 1 (fun v => F.slices_BinarySearchFunc_apiNodeapiNodestring_by_graph_node_1.l11100.eq (v 0) (v 1) a0 a1 x0 x1) (by unfold F.slices_BinarySearchFunc_apiNodeapiNodestring_by_graph_node_1.l11100.B; repeat' first | exact App.val | exact App.no | exact App.lim | apply App.cond | apply App.guard | apply App.meet | apply App.ite | refine App.bind ?_ fun _ => ?_)) h
theorem V.slices_BinarySearchFunc_apiNodeapiNodestring_by_graph_node_1.of a0 a1 {r} (h : F.slices_BinarySearchFunc_apiNodeapiNodestring_by_graph_node_1.B V.slices_BinarySearchFunc_apiNodeapiNodestring_by_graph_node_1.l11100 a0 a1 = some r) : V.slices_BinarySearchFunc_apiNodeapiNodestring_by_graph_node_1 a0 a1 = some r :=
  App.to (App.step 0 (fun v => F.slices_BinarySearchFunc_apiNodeapiNodestring_by_graph_node_1.eq (v 0) a0 a1) (by unfold F.slices_BinarySearchFunc_apiNodeapiNodestring_by_graph_node_1.B; repeat' first | exact App.val | exact App.no | exact App.lim | exact (App.enter 1 App.lim) | apply App.cond | apply App.guard | apply App.meet | apply App.ite | refine App.bind ?_ fun _ => ?_)) h
noncomputable def F.graph_node (K : Nat) (a0 : TGraph) (a1 : ByteArray) : Option (Int × Bool) := evFn Try.prog sg K 87 [.agg [.list sNode a0.1 false, .list sEdge a0.2 false], .sc (.val (.string a1))] []
noncomputable def F.graph_node.B (c0 : (List TNode) → (ByteArray) → Option (Int × Bool)) (a0 : TGraph) (a1 : ByteArray) : Option (Int × Bool) :=
    ((c0 a0.1 a1).bind fun t0 => (some (t0.1, t0.2)))
theorem F.graph_node.eq K a0 a1 : F.graph_node (K + 1) a0 a1 = F.graph_node.B (F.slices_BinarySearchFunc_apiNodeapiNodestring_by_graph_node_1 K) a0 a1 := by kernel_rfl
noncomputable def V.graph_node (a0 : TGraph) (a1 : ByteArray) := lim fun v => F.graph_node (v 0) a0 a1
theorem V.graph_node.of a0 a1 {r} (h : F.graph_node.B V.slices_BinarySearchFunc_apiNodeapiNodestring_by_graph_node_1 a0 a1 = some r) : V.graph_node a0 a1 = some r :=
  App.to (App.step 0 (fun v => F.graph_node.eq (v 0) a0 a1) (by unfold F.graph_node.B; repeat' first | exact App.val | exact App.no | exact App.lim | apply App.cond | apply App.guard | apply App.meet | apply App.ite | refine App.bind ?_ fun _ => ?_)) h
noncomputable def F.graph_Check (K : Nat) (a0 : TGraph) : Option (Int) := evFn Try.prog sg K 41 [.agg [.list sNode a0.1 false, .list sEdge a0.2 false]] []
noncomputable def F.graph_Check.at (K : Nat) (p ns : List Nat) (s : St) : Option (Int) := atFn Try.prog sg K 41 0 p ns s
noncomputable def F.graph_Check.in (K : Nat) (H : List Nat → List Nat → St → Option (Int)) (p ns : List Nat) (s : St) : Option (Int) := inFn Try.prog sg K 41 0 [] H p ns s
theorem F.graph_Check.in_eq K p ns s : F.graph_Check.at K p ns s = F.graph_Check.in K (F.graph_Check.at K) p ns s := atFn_eq (P := Try.prog) (sg := sg) (K := K) (f := 41) (m := 0) [] p ns s
theorem F.graph_Check.in_main K a0 : F.graph_Check (K + 1) a0 = F.graph_Check.in K (F.graph_Check.at K) [] [] ⟨slots [.agg [.list sNode a0.1 false, .list sEdge a0.2 false]] 0, []⟩ := evFn_eq (P := Try.prog) (sg := sg) (K := K) (f := 41) (args := [.agg [.list sNode a0.1 false, .list sEdge a0.2 false]]) (σ := []) [] (by kernel_rfl)
def F.graph_Check.l11010.st (a0 : TGraph) (x0 : Int) : St := ⟨[(1, .one (.sc (.ref 0 0))), (24, vL sNode a0.1), (25, vI (a0.1.length : Int)), (26, vI x0)], [.cells 25 [.list sNode a0.1 false, .list sEdge a0.2 false]]⟩
noncomputable def F.graph_Check.l11010 (K n0 : Nat) (a0 : TGraph) (x0 : Int) := F.graph_Check.at K [1, 1, 0, 1, 0] [n0] (F.graph_Check.l11010.st a0 x0)
def F.graph_Check.l111010.st (a0 : TGraph) (x0 : Int) : St := ⟨[(1, .one (.sc (.ref 0 0))), (52, vL sEdge a0.2), (53, vI (a0.2.length : Int)), (54, vI x0)], [.cells 25 [.list sNode a0.1 false, .list sEdge a0.2 false]]⟩
noncomputable def F.graph_Check.l111010 (K n0 : Nat) (a0 : TGraph) (x0 : Int) := F.graph_Check.at K [1, 1, 1, 0, 1, 0] [n0] (F.graph_Check.l111010.st a0 x0)
noncomputable def F.graph_Check.l11010.B (c0 : (TNode) → Option (Int)) (c1 : (TGraph) → (Int) → Option (Int)) (c2 : (TGraph) → (Int) → Option (Int)) (a0 : TGraph) (x0 : Int) : Option (Int) :=
    (bif (decide (x0 < (a0.1.length : Int))) then (guardK (decide (0 ≤ x0) && decide (x0 < (a0.1.length : Int))) ((c0 ((rd sNode a0.1 x0.toNat).1, ((rd sNode a0.1 x0.toNat).2).1, ((rd sNode a0.1 x0.toNat).2).2)).bind fun t0 => (bif (t0 != 0) then (some t0) else (bif (decide (x0 > 0)) then (guardK (decide (0 ≤ (w64 (x0 - 1))) && decide ((w64 (x0 - 1)) < (a0.1.length : Int))) (bif (!strLt ((rd sNode a0.1 ((w64 (x0 - 1)).toNat)).1) ((rd sNode a0.1 x0.toNat).1)) then (some 4) else (c1 a0 (w64 (x0 + 1))))) else (c1 a0 (w64 (x0 + 1))))))) else (c2 a0 0))
theorem F.graph_Check.l11010.eq K n0 a0 x0 : F.graph_Check.l11010 K (n0 + 1) a0 x0 = F.graph_Check.l11010.B (F.elem_CheckNode K) (F.graph_Check.l11010 K n0) (F.graph_Check.l111010 K K) a0 x0 := (F.graph_Check.in_eq K [1, 1, 0, 1, 0] [n0 + 1] (F.graph_Check.l11010.st a0 x0)).trans ((show ∀ H, F.graph_Check.in K H [1, 1, 0, 1, 0] [n0 + 1] (F.graph_Check.l11010.st a0 x0) = F.graph_Check.l11010.B (F.elem_CheckNode K) (fun a0 x0 => H [1, 1, 0, 1, 0] [n0] (F.graph_Check.l11010.st a0 x0)) (fun a0 x0 => H [1, 1, 1, 0, 1, 0] [K] (F.graph_Check.l111010.st a0 x0)) a0 x0 from by intro H; kernel_rfl) (F.graph_Check.at K))
noncomputable def F.graph_Check.l111010.B (c0 : (TEdge) → Option (Int)) (c1 : (TGraph) → (ByteArray) → Option (Int × Bool)) (c2 : (TGraph) → (Int) → Option (Int)) (a0 : TGraph) (x0 : Int) : Option (Int) :=
    (bif (decide (x0 < (a0.2.length : Int))) then (guardK (decide (0 ≤ x0) && decide (x0 < (a0.2.length : Int))) ((c0 ((rd sEdge a0.2 x0.toNat).1, ((rd sEdge a0.2 x0.toNat).2).1, (((rd sEdge a0.2 x0.toNat).2).2).1, ((((rd sEdge a0.2 x0.toNat).2).2).2).1, ((((rd sEdge a0.2 x0.toNat).2).2).2).2)).bind fun t1 => (bif (t1 != 0) then (some t1) else (bif (decide (x0 > 0)) then (guardK (decide (0 ≤ (w64 (x0 - 1))) && decide ((w64 (x0 - 1)) < (a0.2.length : Int))) (bif (!strLt ((rd sEdge a0.2 ((w64 (x0 - 1)).toNat)).1) ((rd sEdge a0.2 x0.toNat).1)) then (some 4) else ((c1 (a0.1, a0.2) (((rd sEdge a0.2 x0.toNat).2).1)).bind fun t2 => ((c1 (a0.1, a0.2) ((((rd sEdge a0.2 x0.toNat).2).2).1)).bind fun t3 => (bif (!t2.2) then (some 9) else (bif (!t3.2) then (some 9) else (c2 a0 (w64 (x0 + 1))))))))) else ((c1 (a0.1, a0.2) (((rd sEdge a0.2 x0.toNat).2).1)).bind fun t4 => ((c1 (a0.1, a0.2) ((((rd sEdge a0.2 x0.toNat).2).2).1)).bind fun t5 => (bif (!t4.2) then (some 9) else (bif (!t5.2) then (some 9) else (c2 a0 (w64 (x0 + 1))))))))))) else (some 0))
theorem F.graph_Check.l111010.eq K n0 a0 x0 : F.graph_Check.l111010 K (n0 + 1) a0 x0 = F.graph_Check.l111010.B (F.elem_CheckEdge K) (F.graph_node K) (F.graph_Check.l111010 K n0) a0 x0 := (F.graph_Check.in_eq K [1, 1, 1, 0, 1, 0] [n0 + 1] (F.graph_Check.l111010.st a0 x0)).trans ((show ∀ H, F.graph_Check.in K H [1, 1, 1, 0, 1, 0] [n0 + 1] (F.graph_Check.l111010.st a0 x0) = F.graph_Check.l111010.B (F.elem_CheckEdge K) (F.graph_node K) (fun a0 x0 => H [1, 1, 1, 0, 1, 0] [n0] (F.graph_Check.l111010.st a0 x0)) a0 x0 from by intro H; kernel_rfl) (F.graph_Check.at K))
noncomputable def F.graph_Check.B (c0 : (TGraph) → (Int) → Option (Int)) (a0 : TGraph) : Option (Int) :=
    (bif (decide ((a0.1.length : Int) > 500)) then (some 5) else (bif (decide ((a0.2.length : Int) > 1000)) then (some 5) else (c0 a0 0)))
theorem F.graph_Check.eq K a0 : F.graph_Check (K + 1) a0 = F.graph_Check.B (F.graph_Check.l11010 K K) a0 := (F.graph_Check.in_main K a0).trans ((show ∀ H, F.graph_Check.in K H [] [] ⟨slots [.agg [.list sNode a0.1 false, .list sEdge a0.2 false]] 0, []⟩ = F.graph_Check.B (fun a0 x0 => H [1, 1, 0, 1, 0] [K] (F.graph_Check.l11010.st a0 x0)) a0 from by intro H; kernel_rfl) (F.graph_Check.at K))
noncomputable def V.graph_Check.l11010 (a0 : TGraph) (x0 : Int) := lim fun v => F.graph_Check.l11010 (v 0) (v 1) a0 x0
noncomputable def V.graph_Check.l111010 (a0 : TGraph) (x0 : Int) := lim fun v => F.graph_Check.l111010 (v 0) (v 1) a0 x0
noncomputable def V.graph_Check (a0 : TGraph) := lim fun v => F.graph_Check (v 0) a0
theorem V.graph_Check.l11010.of a0 x0 {r} (h : F.graph_Check.l11010.B V.elem_CheckNode V.graph_Check.l11010 V.graph_Check.l111010 a0 x0 = some r) : V.graph_Check.l11010 a0 x0 = some r :=
  App.to (App.step 1 (fun v => F.graph_Check.l11010.eq (v 0) (v 1) a0 x0) (by unfold F.graph_Check.l11010.B; repeat' first | exact App.val | exact App.no | exact App.lim | exact (App.enter 1 App.lim) | apply App.cond | apply App.guard | apply App.meet | apply App.ite | refine App.bind ?_ fun _ => ?_)) h
theorem V.graph_Check.l111010.of a0 x0 {r} (h : F.graph_Check.l111010.B V.elem_CheckEdge V.graph_node V.graph_Check.l111010 a0 x0 = some r) : V.graph_Check.l111010 a0 x0 = some r :=
  App.to (App.step 1 (fun v => F.graph_Check.l111010.eq (v 0) (v 1) a0 x0) (by unfold F.graph_Check.l111010.B; repeat' first | exact App.val | exact App.no | exact App.lim | apply App.cond | apply App.guard | apply App.meet | apply App.ite | refine App.bind ?_ fun _ => ?_)) h
theorem V.graph_Check.of a0 {r} (h : F.graph_Check.B V.graph_Check.l11010 a0 = some r) : V.graph_Check a0 = some r :=
  App.to (App.step 0 (fun v => F.graph_Check.eq (v 0) a0) (by unfold F.graph_Check.B; repeat' first | exact App.val | exact App.no | exact App.lim | exact (App.enter 1 App.lim) | apply App.cond | apply App.guard | apply App.meet | apply App.ite | refine App.bind ?_ fun _ => ?_)) h
noncomputable def F.slices_Clone_apiNodeapiNode (K : Nat) (a0 : List TNode) : Option ((List TNode)) := evFn Try.prog sg K 100 [.sc (.list sNode a0 false)] []
noncomputable def F.slices_Clone_apiNodeapiNode.B (a0 : List TNode) : Option ((List TNode)) :=
    (bif a0.isEmpty then meet (some ([])) (guardK (decide (0 + a0.length ≤ nmax)) (some ([] ++ a0))) else (guardK (decide (0 + a0.length ≤ nmax)) (some ([] ++ a0))))
theorem F.slices_Clone_apiNodeapiNode.eq K a0 : F.slices_Clone_apiNodeapiNode (K + 1) a0 = F.slices_Clone_apiNodeapiNode.B a0 := by kernel_rfl
noncomputable def V.slices_Clone_apiNodeapiNode (a0 : List TNode) := lim fun v => F.slices_Clone_apiNodeapiNode (v 0) a0
theorem V.slices_Clone_apiNodeapiNode.of a0 {r} (h : F.slices_Clone_apiNodeapiNode.B a0 = some r) : V.slices_Clone_apiNodeapiNode a0 = some r :=
  App.to (App.step 0 (fun v => F.slices_Clone_apiNodeapiNode.eq (v 0) a0) (by unfold F.slices_Clone_apiNodeapiNode.B; repeat' first | exact App.val | exact App.no | exact App.lim | apply App.cond | apply App.guard | apply App.meet | apply App.ite | refine App.bind ?_ fun _ => ?_)) h
noncomputable def F.slices_Clone_apiEdgeapiEdge (K : Nat) (a0 : List TEdge) : Option ((List TEdge)) := evFn Try.prog sg K 101 [.sc (.list sEdge a0 false)] []
noncomputable def F.slices_Clone_apiEdgeapiEdge.B (a0 : List TEdge) : Option ((List TEdge)) :=
    (bif a0.isEmpty then meet (some ([])) (guardK (decide (0 + a0.length ≤ nmax)) (some ([] ++ a0))) else (guardK (decide (0 + a0.length ≤ nmax)) (some ([] ++ a0))))
theorem F.slices_Clone_apiEdgeapiEdge.eq K a0 : F.slices_Clone_apiEdgeapiEdge (K + 1) a0 = F.slices_Clone_apiEdgeapiEdge.B a0 := by kernel_rfl
noncomputable def V.slices_Clone_apiEdgeapiEdge (a0 : List TEdge) := lim fun v => F.slices_Clone_apiEdgeapiEdge (v 0) a0
theorem V.slices_Clone_apiEdgeapiEdge.of a0 {r} (h : F.slices_Clone_apiEdgeapiEdge.B a0 = some r) : V.slices_Clone_apiEdgeapiEdge a0 = some r :=
  App.to (App.step 0 (fun v => F.slices_Clone_apiEdgeapiEdge.eq (v 0) a0) (by unfold F.slices_Clone_apiEdgeapiEdge.B; repeat' first | exact App.val | exact App.no | exact App.lim | apply App.cond | apply App.guard | apply App.meet | apply App.ite | refine App.bind ?_ fun _ => ?_)) h
noncomputable def F.slices_Clone_stringstring (K : Nat) (a0 : List ByteArray) : Option ((List ByteArray)) := evFn Try.prog sg K 78 [.sc (.list .str a0 false)] []
noncomputable def F.slices_Clone_stringstring.B (a0 : List ByteArray) : Option ((List ByteArray)) :=
    (bif a0.isEmpty then meet (some ([])) (guardK (decide (0 + a0.length ≤ nmax)) (some ([] ++ a0))) else (guardK (decide (0 + a0.length ≤ nmax)) (some ([] ++ a0))))
theorem F.slices_Clone_stringstring.eq K a0 : F.slices_Clone_stringstring (K + 1) a0 = F.slices_Clone_stringstring.B a0 := by kernel_rfl
noncomputable def V.slices_Clone_stringstring (a0 : List ByteArray) := lim fun v => F.slices_Clone_stringstring (v 0) a0
theorem V.slices_Clone_stringstring.of a0 {r} (h : F.slices_Clone_stringstring.B a0 = some r) : V.slices_Clone_stringstring a0 = some r :=
  App.to (App.step 0 (fun v => F.slices_Clone_stringstring.eq (v 0) a0) (by unfold F.slices_Clone_stringstring.B; repeat' first | exact App.val | exact App.no | exact App.lim | apply App.cond | apply App.guard | apply App.meet | apply App.ite | refine App.bind ?_ fun _ => ?_)) h
noncomputable def F.slices_Clone_apiPropapiProp (K : Nat) (a0 : List TProp) : Option ((List TProp)) := evFn Try.prog sg K 79 [.sc (.list sProp a0 false)] []
noncomputable def F.slices_Clone_apiPropapiProp.B (a0 : List TProp) : Option ((List TProp)) :=
    (bif a0.isEmpty then meet (some ([])) (guardK (decide (0 + a0.length ≤ nmax)) (some ([] ++ a0))) else (guardK (decide (0 + a0.length ≤ nmax)) (some ([] ++ a0))))
theorem F.slices_Clone_apiPropapiProp.eq K a0 : F.slices_Clone_apiPropapiProp (K + 1) a0 = F.slices_Clone_apiPropapiProp.B a0 := by kernel_rfl
noncomputable def V.slices_Clone_apiPropapiProp (a0 : List TProp) := lim fun v => F.slices_Clone_apiPropapiProp (v 0) a0
theorem V.slices_Clone_apiPropapiProp.of a0 {r} (h : F.slices_Clone_apiPropapiProp.B a0 = some r) : V.slices_Clone_apiPropapiProp a0 = some r :=
  App.to (App.step 0 (fun v => F.slices_Clone_apiPropapiProp.eq (v 0) a0) (by unfold F.slices_Clone_apiPropapiProp.B; repeat' first | exact App.val | exact App.no | exact App.lim | apply App.cond | apply App.guard | apply App.meet | apply App.ite | refine App.bind ?_ fun _ => ?_)) h
noncomputable def F.graph_Copy (K : Nat) (a0 : TGraph) : Option (TGraph) := evFn Try.prog sg K 52 [.agg [.list sNode a0.1 false, .list sEdge a0.2 false]] []
noncomputable def F.graph_Copy.at (K : Nat) (p ns : List Nat) (s : St) : Option (TGraph) := atFn Try.prog sg K 52 0 p ns s
noncomputable def F.graph_Copy.in (K : Nat) (H : List Nat → List Nat → St → Option (TGraph)) (p ns : List Nat) (s : St) : Option (TGraph) := inFn Try.prog sg K 52 0 [[1, 1], [1, 1, 0, 1, 0, 0, 1, 1, 1], [1, 1, 1, 0, 1, 0, 0, 1, 1, 1]] H p ns s
theorem F.graph_Copy.in_eq K p ns s : F.graph_Copy.at K p ns s = F.graph_Copy.in K (F.graph_Copy.at K) p ns s := atFn_eq (P := Try.prog) (sg := sg) (K := K) (f := 52) (m := 0) [[1, 1], [1, 1, 0, 1, 0, 0, 1, 1, 1], [1, 1, 1, 0, 1, 0, 0, 1, 1, 1]] p ns s
theorem F.graph_Copy.in_main K a0 : F.graph_Copy (K + 1) a0 = F.graph_Copy.in K (F.graph_Copy.at K) [] [] ⟨slots [.agg [.list sNode a0.1 false, .list sEdge a0.2 false]] 0, []⟩ := evFn_eq (P := Try.prog) (sg := sg) (K := K) (f := 52) (args := [.agg [.list sNode a0.1 false, .list sEdge a0.2 false]]) (σ := []) [[1, 1], [1, 1, 0, 1, 0, 0, 1, 1, 1], [1, 1, 1, 0, 1, 0, 0, 1, 1, 1]] (by kernel_rfl)
def F.graph_Copy.j11.st (a0 : TGraph) (x0 : List TNode) (x1 : List TEdge) : St := ⟨[(2, .one (.sc (.ref 0 0))), (3, .one (.sc (.ref 1 0)))], [.cells 25 [.val (.slice none 0 0), .val (.slice none 0 0)], .cells 25 [.own 2 none, .own 3 none], .elems sNode x0, .elems sEdge x1]⟩
noncomputable def F.graph_Copy.j11 (K : Nat) (a0 : TGraph) (x0 : List TNode) (x1 : List TEdge) := F.graph_Copy.at K [1, 1] [] (F.graph_Copy.j11.st a0 x0 x1)
def F.graph_Copy.l11010.st (a0 : TGraph) (x0 : Int) (x1 : Int) (x2 : List TNode) (x3 : List TEdge) : St := ⟨[(2, .one (.sc (.ref 0 0))), (3, .one (.sc (.ref 1 0))), (17, vI x0), (18, vI x1)], [.cells 25 [.val (.slice none 0 0), .val (.slice none 0 0)], .cells 25 [.own 2 none, .own 3 none], .elems sNode x2, .elems sEdge x3]⟩
noncomputable def F.graph_Copy.l11010 (K n0 : Nat) (a0 : TGraph) (x0 : Int) (x1 : Int) (x2 : List TNode) (x3 : List TEdge) := F.graph_Copy.at K [1, 1, 0, 1, 0] [n0] (F.graph_Copy.l11010.st a0 x0 x1 x2 x3)
def F.graph_Copy.j110100111.st (a0 : TGraph) (x0 : Int) (x1 : Int) (x2 : List TNode) (x3 : List TEdge) : St := ⟨[(2, .one (.sc (.ref 0 0))), (3, .one (.sc (.ref 1 0))), (17, vI x0), (18, vI x1)], [.cells 25 [.val (.slice none 0 0), .val (.slice none 0 0)], .cells 25 [.own 2 none, .own 3 none], .elems sNode x2, .elems sEdge x3]⟩
noncomputable def F.graph_Copy.j110100111 (K n0 : Nat) (a0 : TGraph) (x0 : Int) (x1 : Int) (x2 : List TNode) (x3 : List TEdge) := F.graph_Copy.at K [1, 1, 0, 1, 0, 0, 1, 1, 1] [n0] (F.graph_Copy.j110100111.st a0 x0 x1 x2 x3)
def F.graph_Copy.l111010.st (a0 : TGraph) (x0 : Int) (x1 : Int) (x2 : List TNode) (x3 : List TEdge) : St := ⟨[(2, .one (.sc (.ref 0 0))), (3, .one (.sc (.ref 1 0))), (44, vI x0), (45, vI x1)], [.cells 25 [.val (.slice none 0 0), .val (.slice none 0 0)], .cells 25 [.own 2 none, .own 3 none], .elems sNode x2, .elems sEdge x3]⟩
noncomputable def F.graph_Copy.l111010 (K n0 : Nat) (a0 : TGraph) (x0 : Int) (x1 : Int) (x2 : List TNode) (x3 : List TEdge) := F.graph_Copy.at K [1, 1, 1, 0, 1, 0] [n0] (F.graph_Copy.l111010.st a0 x0 x1 x2 x3)
def F.graph_Copy.j1110100111.st (a0 : TGraph) (x0 : Int) (x1 : Int) (x2 : List TNode) (x3 : List TEdge) : St := ⟨[(2, .one (.sc (.ref 0 0))), (3, .one (.sc (.ref 1 0))), (44, vI x0), (45, vI x1)], [.cells 25 [.val (.slice none 0 0), .val (.slice none 0 0)], .cells 25 [.own 2 none, .own 3 none], .elems sNode x2, .elems sEdge x3]⟩
noncomputable def F.graph_Copy.j1110100111 (K n0 : Nat) (a0 : TGraph) (x0 : Int) (x1 : Int) (x2 : List TNode) (x3 : List TEdge) := F.graph_Copy.at K [1, 1, 1, 0, 1, 0, 0, 1, 1, 1] [n0] (F.graph_Copy.j1110100111.st a0 x0 x1 x2 x3)
noncomputable def F.graph_Copy.j11.B (c0 : (TGraph) → (Int) → (Int) → (List TNode) → (List TEdge) → Option (TGraph)) (a0 : TGraph) (x0 : List TNode) (x1 : List TEdge) : Option (TGraph) :=
    (c0 a0 (x0.length : Int) 0 x0 x1)
theorem F.graph_Copy.j11.eq K a0 x0 x1 : F.graph_Copy.j11 K a0 x0 x1 = F.graph_Copy.j11.B (F.graph_Copy.l11010 K K) a0 x0 x1 := (F.graph_Copy.in_eq K [1, 1] [] (F.graph_Copy.j11.st a0 x0 x1)).trans ((show ∀ H, F.graph_Copy.in K H [1, 1] [] (F.graph_Copy.j11.st a0 x0 x1) = F.graph_Copy.j11.B (fun a0 x0 x1 x2 x3 => H [1, 1, 0, 1, 0] [K] (F.graph_Copy.l11010.st a0 x0 x1 x2 x3)) a0 x0 x1 from by intro H; kernel_rfl) (F.graph_Copy.at K))
noncomputable def F.graph_Copy.l11010.B (c0 : (List ByteArray) → Option ((List ByteArray))) (c1 : (List TProp) → Option ((List TProp))) (c2 : (TGraph) → (Int) → (Int) → (List TNode) → (List TEdge) → Option (TGraph)) (c3 : (TGraph) → (Int) → (Int) → (List TNode) → (List TEdge) → Option (TGraph)) (a0 : TGraph) (x0 : Int) (x1 : Int) (x2 : List TNode) (x3 : List TEdge) : Option (TGraph) :=
    (bif (decide (x1 < x0)) then (guardK (decide (0 ≤ x1) && decide (x1 < (x2.length : Int))) (meet (meet ((c0 (((rd sNode x2 x1.toNat).2).1)).bind fun t5 => ((c1 (((rd sNode x2 x1.toNat).2).2)).bind fun t6 => (c2 a0 x0 x1 ((x2.set x1.toNat ((rd sNode x2 x1.toNat).1, t5, ((rd sNode x2 x1.toNat).2).2)).set x1.toNat ((rd sNode (x2.set x1.toNat ((rd sNode x2 x1.toNat).1, t5, ((rd sNode x2 x1.toNat).2).2)) x1.toNat).1, ((rd sNode (x2.set x1.toNat ((rd sNode x2 x1.toNat).1, t5, ((rd sNode x2 x1.toNat).2).2)) x1.toNat).2).1, t6)) x3))) ((c0 (((rd sNode x2 x1.toNat).2).1)).bind fun t7 => ((c1 (((rd sNode x2 x1.toNat).2).2)).bind fun t8 => (c2 a0 x0 x1 ((x2.set x1.toNat ((rd sNode x2 x1.toNat).1, t7, ((rd sNode x2 x1.toNat).2).2)).set x1.toNat ((rd sNode (x2.set x1.toNat ((rd sNode x2 x1.toNat).1, t7, ((rd sNode x2 x1.toNat).2).2)) x1.toNat).1, ((rd sNode (x2.set x1.toNat ((rd sNode x2 x1.toNat).1, t7, ((rd sNode x2 x1.toNat).2).2)) x1.toNat).2).1, t8)) x3)))) ((c0 (((rd sNode x2 x1.toNat).2).1)).bind fun t9 => ((c1 (((rd sNode x2 x1.toNat).2).2)).bind fun t10 => (c2 a0 x0 x1 ((x2.set x1.toNat ((rd sNode x2 x1.toNat).1, t9, ((rd sNode x2 x1.toNat).2).2)).set x1.toNat ((rd sNode (x2.set x1.toNat ((rd sNode x2 x1.toNat).1, t9, ((rd sNode x2 x1.toNat).2).2)) x1.toNat).1, ((rd sNode (x2.set x1.toNat ((rd sNode x2 x1.toNat).1, t9, ((rd sNode x2 x1.toNat).2).2)) x1.toNat).2).1, t10)) x3))))) else (c3 a0 (x3.length : Int) 0 x2 x3))
theorem F.graph_Copy.l11010.eq K n0 a0 x0 x1 x2 x3 : F.graph_Copy.l11010 K (n0 + 1) a0 x0 x1 x2 x3 = F.graph_Copy.l11010.B (F.slices_Clone_stringstring K) (F.slices_Clone_apiPropapiProp K) (F.graph_Copy.j110100111 K n0) (F.graph_Copy.l111010 K K) a0 x0 x1 x2 x3 := (F.graph_Copy.in_eq K [1, 1, 0, 1, 0] [n0 + 1] (F.graph_Copy.l11010.st a0 x0 x1 x2 x3)).trans ((show ∀ H, F.graph_Copy.in K H [1, 1, 0, 1, 0] [n0 + 1] (F.graph_Copy.l11010.st a0 x0 x1 x2 x3) = F.graph_Copy.l11010.B (F.slices_Clone_stringstring K) (F.slices_Clone_apiPropapiProp K) (fun a0 x0 x1 x2 x3 => H [1, 1, 0, 1, 0, 0, 1, 1, 1] [n0] (F.graph_Copy.j110100111.st a0 x0 x1 x2 x3)) (fun a0 x0 x1 x2 x3 => H [1, 1, 1, 0, 1, 0] [K] (F.graph_Copy.l111010.st a0 x0 x1 x2 x3)) a0 x0 x1 x2 x3 from by intro H; kernel_rfl) (F.graph_Copy.at K))
noncomputable def F.graph_Copy.j110100111.B (c0 : (TGraph) → (Int) → (Int) → (List TNode) → (List TEdge) → Option (TGraph)) (a0 : TGraph) (x0 : Int) (x1 : Int) (x2 : List TNode) (x3 : List TEdge) : Option (TGraph) :=
    (c0 a0 x0 (w64 (x1 + 1)) x2 x3)
theorem F.graph_Copy.j110100111.eq K n0 a0 x0 x1 x2 x3 : F.graph_Copy.j110100111 K n0 a0 x0 x1 x2 x3 = F.graph_Copy.j110100111.B (F.graph_Copy.l11010 K n0) a0 x0 x1 x2 x3 := (F.graph_Copy.in_eq K [1, 1, 0, 1, 0, 0, 1, 1, 1] [n0] (F.graph_Copy.j110100111.st a0 x0 x1 x2 x3)).trans ((show ∀ H, F.graph_Copy.in K H [1, 1, 0, 1, 0, 0, 1, 1, 1] [n0] (F.graph_Copy.j110100111.st a0 x0 x1 x2 x3) = F.graph_Copy.j110100111.B (fun a0 x0 x1 x2 x3 => H [1, 1, 0, 1, 0] [n0] (F.graph_Copy.l11010.st a0 x0 x1 x2 x3)) a0 x0 x1 x2 x3 from by intro H; kernel_rfl) (F.graph_Copy.at K))
noncomputable def F.graph_Copy.l111010.B (c0 : (List ByteArray) → Option ((List ByteArray))) (c1 : (List TProp) → Option ((List TProp))) (c2 : (TGraph) → (Int) → (Int) → (List TNode) → (List TEdge) → Option (TGraph)) (a0 : TGraph) (x0 : Int) (x1 : Int) (x2 : List TNode) (x3 : List TEdge) : Option (TGraph) :=
    (bif (decide (x1 < x0)) then (guardK (decide (0 ≤ x1) && decide (x1 < (x3.length : Int))) (meet (meet ((c0 (((((rd sEdge x3 x1.toNat).2).2).2).1)).bind fun t11 => ((c1 (((((rd sEdge x3 x1.toNat).2).2).2).2)).bind fun t12 => (c2 a0 x0 x1 x2 ((x3.set x1.toNat ((rd sEdge x3 x1.toNat).1, ((rd sEdge x3 x1.toNat).2).1, (((rd sEdge x3 x1.toNat).2).2).1, t11, ((((rd sEdge x3 x1.toNat).2).2).2).2)).set x1.toNat ((rd sEdge (x3.set x1.toNat ((rd sEdge x3 x1.toNat).1, ((rd sEdge x3 x1.toNat).2).1, (((rd sEdge x3 x1.toNat).2).2).1, t11, ((((rd sEdge x3 x1.toNat).2).2).2).2)) x1.toNat).1, ((rd sEdge (x3.set x1.toNat ((rd sEdge x3 x1.toNat).1, ((rd sEdge x3 x1.toNat).2).1, (((rd sEdge x3 x1.toNat).2).2).1, t11, ((((rd sEdge x3 x1.toNat).2).2).2).2)) x1.toNat).2).1, (((rd sEdge (x3.set x1.toNat ((rd sEdge x3 x1.toNat).1, ((rd sEdge x3 x1.toNat).2).1, (((rd sEdge x3 x1.toNat).2).2).1, t11, ((((rd sEdge x3 x1.toNat).2).2).2).2)) x1.toNat).2).2).1, ((((rd sEdge (x3.set x1.toNat ((rd sEdge x3 x1.toNat).1, ((rd sEdge x3 x1.toNat).2).1, (((rd sEdge x3 x1.toNat).2).2).1, t11, ((((rd sEdge x3 x1.toNat).2).2).2).2)) x1.toNat).2).2).2).1, t12))))) ((c0 (((((rd sEdge x3 x1.toNat).2).2).2).1)).bind fun t13 => ((c1 (((((rd sEdge x3 x1.toNat).2).2).2).2)).bind fun t14 => (c2 a0 x0 x1 x2 ((x3.set x1.toNat ((rd sEdge x3 x1.toNat).1, ((rd sEdge x3 x1.toNat).2).1, (((rd sEdge x3 x1.toNat).2).2).1, t13, ((((rd sEdge x3 x1.toNat).2).2).2).2)).set x1.toNat ((rd sEdge (x3.set x1.toNat ((rd sEdge x3 x1.toNat).1, ((rd sEdge x3 x1.toNat).2).1, (((rd sEdge x3 x1.toNat).2).2).1, t13, ((((rd sEdge x3 x1.toNat).2).2).2).2)) x1.toNat).1, ((rd sEdge (x3.set x1.toNat ((rd sEdge x3 x1.toNat).1, ((rd sEdge x3 x1.toNat).2).1, (((rd sEdge x3 x1.toNat).2).2).1, t13, ((((rd sEdge x3 x1.toNat).2).2).2).2)) x1.toNat).2).1, (((rd sEdge (x3.set x1.toNat ((rd sEdge x3 x1.toNat).1, ((rd sEdge x3 x1.toNat).2).1, (((rd sEdge x3 x1.toNat).2).2).1, t13, ((((rd sEdge x3 x1.toNat).2).2).2).2)) x1.toNat).2).2).1, ((((rd sEdge (x3.set x1.toNat ((rd sEdge x3 x1.toNat).1, ((rd sEdge x3 x1.toNat).2).1, (((rd sEdge x3 x1.toNat).2).2).1, t13, ((((rd sEdge x3 x1.toNat).2).2).2).2)) x1.toNat).2).2).2).1, t14)))))) ((c0 (((((rd sEdge x3 x1.toNat).2).2).2).1)).bind fun t15 => ((c1 (((((rd sEdge x3 x1.toNat).2).2).2).2)).bind fun t16 => (c2 a0 x0 x1 x2 ((x3.set x1.toNat ((rd sEdge x3 x1.toNat).1, ((rd sEdge x3 x1.toNat).2).1, (((rd sEdge x3 x1.toNat).2).2).1, t15, ((((rd sEdge x3 x1.toNat).2).2).2).2)).set x1.toNat ((rd sEdge (x3.set x1.toNat ((rd sEdge x3 x1.toNat).1, ((rd sEdge x3 x1.toNat).2).1, (((rd sEdge x3 x1.toNat).2).2).1, t15, ((((rd sEdge x3 x1.toNat).2).2).2).2)) x1.toNat).1, ((rd sEdge (x3.set x1.toNat ((rd sEdge x3 x1.toNat).1, ((rd sEdge x3 x1.toNat).2).1, (((rd sEdge x3 x1.toNat).2).2).1, t15, ((((rd sEdge x3 x1.toNat).2).2).2).2)) x1.toNat).2).1, (((rd sEdge (x3.set x1.toNat ((rd sEdge x3 x1.toNat).1, ((rd sEdge x3 x1.toNat).2).1, (((rd sEdge x3 x1.toNat).2).2).1, t15, ((((rd sEdge x3 x1.toNat).2).2).2).2)) x1.toNat).2).2).1, ((((rd sEdge (x3.set x1.toNat ((rd sEdge x3 x1.toNat).1, ((rd sEdge x3 x1.toNat).2).1, (((rd sEdge x3 x1.toNat).2).2).1, t15, ((((rd sEdge x3 x1.toNat).2).2).2).2)) x1.toNat).2).2).2).1, t16))))))) else (some (x2, x3)))
theorem F.graph_Copy.l111010.eq K n0 a0 x0 x1 x2 x3 : F.graph_Copy.l111010 K (n0 + 1) a0 x0 x1 x2 x3 = F.graph_Copy.l111010.B (F.slices_Clone_stringstring K) (F.slices_Clone_apiPropapiProp K) (F.graph_Copy.j1110100111 K n0) a0 x0 x1 x2 x3 := (F.graph_Copy.in_eq K [1, 1, 1, 0, 1, 0] [n0 + 1] (F.graph_Copy.l111010.st a0 x0 x1 x2 x3)).trans ((show ∀ H, F.graph_Copy.in K H [1, 1, 1, 0, 1, 0] [n0 + 1] (F.graph_Copy.l111010.st a0 x0 x1 x2 x3) = F.graph_Copy.l111010.B (F.slices_Clone_stringstring K) (F.slices_Clone_apiPropapiProp K) (fun a0 x0 x1 x2 x3 => H [1, 1, 1, 0, 1, 0, 0, 1, 1, 1] [n0] (F.graph_Copy.j1110100111.st a0 x0 x1 x2 x3)) a0 x0 x1 x2 x3 from by intro H; kernel_rfl) (F.graph_Copy.at K))
noncomputable def F.graph_Copy.j1110100111.B (c0 : (TGraph) → (Int) → (Int) → (List TNode) → (List TEdge) → Option (TGraph)) (a0 : TGraph) (x0 : Int) (x1 : Int) (x2 : List TNode) (x3 : List TEdge) : Option (TGraph) :=
    (c0 a0 x0 (w64 (x1 + 1)) x2 x3)
theorem F.graph_Copy.j1110100111.eq K n0 a0 x0 x1 x2 x3 : F.graph_Copy.j1110100111 K n0 a0 x0 x1 x2 x3 = F.graph_Copy.j1110100111.B (F.graph_Copy.l111010 K n0) a0 x0 x1 x2 x3 := (F.graph_Copy.in_eq K [1, 1, 1, 0, 1, 0, 0, 1, 1, 1] [n0] (F.graph_Copy.j1110100111.st a0 x0 x1 x2 x3)).trans ((show ∀ H, F.graph_Copy.in K H [1, 1, 1, 0, 1, 0, 0, 1, 1, 1] [n0] (F.graph_Copy.j1110100111.st a0 x0 x1 x2 x3) = F.graph_Copy.j1110100111.B (fun a0 x0 x1 x2 x3 => H [1, 1, 1, 0, 1, 0] [n0] (F.graph_Copy.l111010.st a0 x0 x1 x2 x3)) a0 x0 x1 x2 x3 from by intro H; kernel_rfl) (F.graph_Copy.at K))
noncomputable def F.graph_Copy.B (c0 : (List TNode) → Option ((List TNode))) (c1 : (List TEdge) → Option ((List TEdge))) (c2 : (TGraph) → (List TNode) → (List TEdge) → Option (TGraph)) (a0 : TGraph) : Option (TGraph) :=
    (meet ((c0 a0.1).bind fun t0 => (meet ((c1 a0.2).bind fun t1 => (c2 a0 t0 t1)) ((c1 a0.2).bind fun t2 => (c2 a0 t0 t2)))) ((c0 a0.1).bind fun t3 => ((c1 a0.2).bind fun t4 => (c2 a0 t3 t4))))
theorem F.graph_Copy.eq K a0 : F.graph_Copy (K + 1) a0 = F.graph_Copy.B (F.slices_Clone_apiNodeapiNode K) (F.slices_Clone_apiEdgeapiEdge K) (F.graph_Copy.j11 K) a0 := (F.graph_Copy.in_main K a0).trans ((show ∀ H, F.graph_Copy.in K H [] [] ⟨slots [.agg [.list sNode a0.1 false, .list sEdge a0.2 false]] 0, []⟩ = F.graph_Copy.B (F.slices_Clone_apiNodeapiNode K) (F.slices_Clone_apiEdgeapiEdge K) (fun a0 x0 x1 => H [1, 1] [] (F.graph_Copy.j11.st a0 x0 x1)) a0 from by intro H; kernel_rfl) (F.graph_Copy.at K))
noncomputable def V.graph_Copy.j11 (a0 : TGraph) (x0 : List TNode) (x1 : List TEdge) := lim fun v => F.graph_Copy.j11 (v 0) a0 x0 x1
noncomputable def V.graph_Copy.l11010 (a0 : TGraph) (x0 : Int) (x1 : Int) (x2 : List TNode) (x3 : List TEdge) := lim fun v => F.graph_Copy.l11010 (v 0) (v 1) a0 x0 x1 x2 x3
noncomputable def V.graph_Copy.j110100111 (a0 : TGraph) (x0 : Int) (x1 : Int) (x2 : List TNode) (x3 : List TEdge) := lim fun v => F.graph_Copy.j110100111 (v 0) (v 1) a0 x0 x1 x2 x3
noncomputable def V.graph_Copy.l111010 (a0 : TGraph) (x0 : Int) (x1 : Int) (x2 : List TNode) (x3 : List TEdge) := lim fun v => F.graph_Copy.l111010 (v 0) (v 1) a0 x0 x1 x2 x3
noncomputable def V.graph_Copy.j1110100111 (a0 : TGraph) (x0 : Int) (x1 : Int) (x2 : List TNode) (x3 : List TEdge) := lim fun v => F.graph_Copy.j1110100111 (v 0) (v 1) a0 x0 x1 x2 x3
noncomputable def V.graph_Copy (a0 : TGraph) := lim fun v => F.graph_Copy (v 0) a0
theorem V.graph_Copy.j11.of a0 x0 x1 {r} (h : F.graph_Copy.j11.B V.graph_Copy.l11010 a0 x0 x1 = some r) : V.graph_Copy.j11 a0 x0 x1 = some r :=
  App.to (App.same (fun v => F.graph_Copy.j11.eq (v 0) a0 x0 x1) (by unfold F.graph_Copy.j11.B; repeat' first | exact App.val | exact App.no | exact App.lim | exact (App.enter 1 App.lim) | apply App.cond | apply App.guard | apply App.meet | apply App.ite | refine App.bind ?_ fun _ => ?_)) h
theorem V.graph_Copy.l11010.of a0 x0 x1 x2 x3 {r} (h : F.graph_Copy.l11010.B V.slices_Clone_stringstring V.slices_Clone_apiPropapiProp V.graph_Copy.j110100111 V.graph_Copy.l111010 a0 x0 x1 x2 x3 = some r) : V.graph_Copy.l11010 a0 x0 x1 x2 x3 = some r :=
  App.to (App.step 1 (fun v => F.graph_Copy.l11010.eq (v 0) (v 1) a0 x0 x1 x2 x3) (by unfold F.graph_Copy.l11010.B; repeat' first | exact App.val | exact App.no | exact App.lim | exact (App.enter 1 App.lim) | apply App.cond | apply App.guard | apply App.meet | apply App.ite | refine App.bind ?_ fun _ => ?_)) h
theorem V.graph_Copy.j110100111.of a0 x0 x1 x2 x3 {r} (h : F.graph_Copy.j110100111.B V.graph_Copy.l11010 a0 x0 x1 x2 x3 = some r) : V.graph_Copy.j110100111 a0 x0 x1 x2 x3 = some r :=
  App.to (App.same (fun v => F.graph_Copy.j110100111.eq (v 0) (v 1) a0 x0 x1 x2 x3) (by unfold F.graph_Copy.j110100111.B; repeat' first | exact App.val | exact App.no | exact App.lim | apply App.cond | apply App.guard | apply App.meet | apply App.ite | refine App.bind ?_ fun _ => ?_)) h
theorem V.graph_Copy.l111010.of a0 x0 x1 x2 x3 {r} (h : F.graph_Copy.l111010.B V.slices_Clone_stringstring V.slices_Clone_apiPropapiProp V.graph_Copy.j1110100111 a0 x0 x1 x2 x3 = some r) : V.graph_Copy.l111010 a0 x0 x1 x2 x3 = some r :=
  App.to (App.step 1 (fun v => F.graph_Copy.l111010.eq (v 0) (v 1) a0 x0 x1 x2 x3) (by unfold F.graph_Copy.l111010.B; repeat' first | exact App.val | exact App.no | exact App.lim | apply App.cond | apply App.guard | apply App.meet | apply App.ite | refine App.bind ?_ fun _ => ?_)) h
theorem V.graph_Copy.j1110100111.of a0 x0 x1 x2 x3 {r} (h : F.graph_Copy.j1110100111.B V.graph_Copy.l111010 a0 x0 x1 x2 x3 = some r) : V.graph_Copy.j1110100111 a0 x0 x1 x2 x3 = some r :=
  App.to (App.same (fun v => F.graph_Copy.j1110100111.eq (v 0) (v 1) a0 x0 x1 x2 x3) (by unfold F.graph_Copy.j1110100111.B; repeat' first | exact App.val | exact App.no | exact App.lim | apply App.cond | apply App.guard | apply App.meet | apply App.ite | refine App.bind ?_ fun _ => ?_)) h
theorem V.graph_Copy.of a0 {r} (h : F.graph_Copy.B V.slices_Clone_apiNodeapiNode V.slices_Clone_apiEdgeapiEdge V.graph_Copy.j11 a0 = some r) : V.graph_Copy a0 = some r :=
  App.to (App.step 0 (fun v => F.graph_Copy.eq (v 0) a0) (by unfold F.graph_Copy.B; repeat' first | exact App.val | exact App.no | exact App.lim | apply App.cond | apply App.guard | apply App.meet | apply App.ite | refine App.bind ?_ fun _ => ?_)) h
noncomputable def F.elem_find_1 (K : Nat) (a0 : TProp) (a1 : ByteArray) : Option (Int) := evFn Try.prog sg K 158 [.agg [.val (.string a0.1), .val (.int .i64 a0.2.1), .val (.int .i64 a0.2.2.1), .val (.string a0.2.2.2)], .sc (.val (.string a1))] []
noncomputable def F.elem_find_1.B (c0 : (ByteArray) → (ByteArray) → Option (Int)) (a0 : TProp) (a1 : ByteArray) : Option (Int) :=
    ((c0 a0.1 a1).bind fun t0 => (some t0))
theorem F.elem_find_1.eq K a0 a1 : F.elem_find_1 (K + 1) a0 a1 = F.elem_find_1.B (F.cmp_Compare_string K) a0 a1 := by kernel_rfl
noncomputable def V.elem_find_1 (a0 : TProp) (a1 : ByteArray) := lim fun v => F.elem_find_1 (v 0) a0 a1
theorem V.elem_find_1.of a0 a1 {r} (h : F.elem_find_1.B V.cmp_Compare_string a0 a1 = some r) : V.elem_find_1 a0 a1 = some r :=
  App.to (App.step 0 (fun v => F.elem_find_1.eq (v 0) a0 a1) (by unfold F.elem_find_1.B; repeat' first | exact App.val | exact App.no | exact App.lim | apply App.cond | apply App.guard | apply App.meet | apply App.ite | refine App.bind ?_ fun _ => ?_)) h
noncomputable def F.slices_BinarySearchFunc_apiPropapiPropstring_by_elem_find_1 (K : Nat) (a0 : List TProp) (a1 : ByteArray) : Option (Int × Bool) := evFn Try.prog sg K 157 [.sc (.list sProp a0 false), .sc (.val (.string a1)), .sc (.fn 158 [])] []
noncomputable def F.slices_BinarySearchFunc_apiPropapiPropstring_by_elem_find_1.at (K : Nat) (p ns : List Nat) (s : St) : Option (Int × Bool) := atFn Try.prog sg K 157 0 p ns s
noncomputable def F.slices_BinarySearchFunc_apiPropapiPropstring_by_elem_find_1.in (K : Nat) (H : List Nat → List Nat → St → Option (Int × Bool)) (p ns : List Nat) (s : St) : Option (Int × Bool) := inFn Try.prog sg K 157 0 [] H p ns s
theorem F.slices_BinarySearchFunc_apiPropapiPropstring_by_elem_find_1.in_eq K p ns s : F.slices_BinarySearchFunc_apiPropapiPropstring_by_elem_find_1.at K p ns s = F.slices_BinarySearchFunc_apiPropapiPropstring_by_elem_find_1.in K (F.slices_BinarySearchFunc_apiPropapiPropstring_by_elem_find_1.at K) p ns s := atFn_eq (P := Try.prog) (sg := sg) (K := K) (f := 157) (m := 0) [] p ns s
theorem F.slices_BinarySearchFunc_apiPropapiPropstring_by_elem_find_1.in_main K a0 a1 : F.slices_BinarySearchFunc_apiPropapiPropstring_by_elem_find_1 (K + 1) a0 a1 = F.slices_BinarySearchFunc_apiPropapiPropstring_by_elem_find_1.in K (F.slices_BinarySearchFunc_apiPropapiPropstring_by_elem_find_1.at K) [] [] ⟨slots [.sc (.list sProp a0 false), .sc (.val (.string a1)), .sc (.fn 158 [])] 0, []⟩ := evFn_eq (P := Try.prog) (sg := sg) (K := K) (f := 157) (args := [.sc (.list sProp a0 false), .sc (.val (.string a1)), .sc (.fn 158 [])]) (σ := []) [] (by kernel_rfl)
def F.slices_BinarySearchFunc_apiPropapiPropstring_by_elem_find_1.l11100.st (a0 : List TProp) (a1 : ByteArray) (x0 : Int) (x1 : Int) : St := ⟨[(0, vL sProp a0), (1, vS a1), (2, .one (.sc (.fn 158 []))), (8, vI (a0.length : Int)), (9, vI x0), (10, vI x1)], []⟩
noncomputable def F.slices_BinarySearchFunc_apiPropapiPropstring_by_elem_find_1.l11100 (K n0 : Nat) (a0 : List TProp) (a1 : ByteArray) (x0 : Int) (x1 : Int) := F.slices_BinarySearchFunc_apiPropapiPropstring_by_elem_find_1.at K [1, 1, 1, 0, 0] [n0] (F.slices_BinarySearchFunc_apiPropapiPropstring_by_elem_find_1.l11100.st a0 a1 x0 x1)
noncomputable def F.slices_BinarySearchFunc_apiPropapiPropstring_by_elem_find_1.l11100.B (c0 : (TProp) → (ByteArray) → Option (Int)) (c1 : (List TProp) → (ByteArray) → (Int) → (Int) → Option (Int × Bool)) (a0 : List TProp) (a1 : ByteArray) (x0 : Int) (x1 : Int) : Option (Int × Bool) :=
    (bif (decide (x0 < x1)) then (guardK (decide (0 ≤ (w64 (Int.fdiv (IntKind.wrap .u64 (w64 (x0 + x1))) (2 ^ 1)))) && decide ((w64 (Int.fdiv (IntKind.wrap .u64 (w64 (x0 + x1))) (2 ^ 1))) < (a0.length : Int))) ((c0 ((rd sProp a0 ((w64 (Int.fdiv (IntKind.wrap .u64 (w64 (x0 + x1))) (2 ^ 1))).toNat)).1, ((rd sProp a0 ((w64 (Int.fdiv (IntKind.wrap .u64 (w64 (x0 + x1))) (2 ^ 1))).toNat)).2).1, (((rd sProp a0 ((w64 (Int.fdiv (IntKind.wrap .u64 (w64 (x0 + x1))) (2 ^ 1))).toNat)).2).2).1, (((rd sProp a0 ((w64 (Int.fdiv (IntKind.wrap .u64 (w64 (x0 + x1))) (2 ^ 1))).toNat)).2).2).2) a1).bind fun t0 => (bif (decide (t0 < 0)) then (c1 a0 a1 (w64 ((w64 (Int.fdiv (IntKind.wrap .u64 (w64 (x0 + x1))) (2 ^ 1))) + 1)) x1) else (c1 a0 a1 x0 (w64 (Int.fdiv (IntKind.wrap .u64 (w64 (x0 + x1))) (2 ^ 1))))))) else (bif (decide (x0 < (a0.length : Int))) then (guardK (decide (0 ≤ x0) && decide (x0 < (a0.length : Int))) ((c0 ((rd sProp a0 x0.toNat).1, ((rd sProp a0 x0.toNat).2).1, (((rd sProp a0 x0.toNat).2).2).1, (((rd sProp a0 x0.toNat).2).2).2) a1).bind fun t1 => (some (x0, (t1 == 0))))) else (some (x0, false))))
theorem F.slices_BinarySearchFunc_apiPropapiPropstring_by_elem_find_1.l11100.eq K n0 a0 a1 x0 x1 : F.slices_BinarySearchFunc_apiPropapiPropstring_by_elem_find_1.l11100 K (n0 + 1) a0 a1 x0 x1 = F.slices_BinarySearchFunc_apiPropapiPropstring_by_elem_find_1.l11100.B (F.elem_find_1 K) (F.slices_BinarySearchFunc_apiPropapiPropstring_by_elem_find_1.l11100 K n0) a0 a1 x0 x1 := (F.slices_BinarySearchFunc_apiPropapiPropstring_by_elem_find_1.in_eq K [1, 1, 1, 0, 0] [n0 + 1] (F.slices_BinarySearchFunc_apiPropapiPropstring_by_elem_find_1.l11100.st a0 a1 x0 x1)).trans ((show ∀ H, F.slices_BinarySearchFunc_apiPropapiPropstring_by_elem_find_1.in K H [1, 1, 1, 0, 0] [n0 + 1] (F.slices_BinarySearchFunc_apiPropapiPropstring_by_elem_find_1.l11100.st a0 a1 x0 x1) = F.slices_BinarySearchFunc_apiPropapiPropstring_by_elem_find_1.l11100.B (F.elem_find_1 K) (fun a0 a1 x0 x1 => H [1, 1, 1, 0, 0] [n0] (F.slices_BinarySearchFunc_apiPropapiPropstring_by_elem_find_1.l11100.st a0 a1 x0 x1)) a0 a1 x0 x1 from by intro H; kernel_rfl) (F.slices_BinarySearchFunc_apiPropapiPropstring_by_elem_find_1.at K))
noncomputable def F.slices_BinarySearchFunc_apiPropapiPropstring_by_elem_find_1.B (c0 : (List TProp) → (ByteArray) → (Int) → (Int) → Option (Int × Bool)) (a0 : List TProp) (a1 : ByteArray) : Option (Int × Bool) :=
    (c0 a0 a1 0 (a0.length : Int))
theorem F.slices_BinarySearchFunc_apiPropapiPropstring_by_elem_find_1.eq K a0 a1 : F.slices_BinarySearchFunc_apiPropapiPropstring_by_elem_find_1 (K + 1) a0 a1 = F.slices_BinarySearchFunc_apiPropapiPropstring_by_elem_find_1.B (F.slices_BinarySearchFunc_apiPropapiPropstring_by_elem_find_1.l11100 K K) a0 a1 := (F.slices_BinarySearchFunc_apiPropapiPropstring_by_elem_find_1.in_main K a0 a1).trans ((show ∀ H, F.slices_BinarySearchFunc_apiPropapiPropstring_by_elem_find_1.in K H [] [] ⟨slots [.sc (.list sProp a0 false), .sc (.val (.string a1)), .sc (.fn 158 [])] 0, []⟩ = F.slices_BinarySearchFunc_apiPropapiPropstring_by_elem_find_1.B (fun a0 a1 x0 x1 => H [1, 1, 1, 0, 0] [K] (F.slices_BinarySearchFunc_apiPropapiPropstring_by_elem_find_1.l11100.st a0 a1 x0 x1)) a0 a1 from by intro H; kernel_rfl) (F.slices_BinarySearchFunc_apiPropapiPropstring_by_elem_find_1.at K))
noncomputable def V.slices_BinarySearchFunc_apiPropapiPropstring_by_elem_find_1.l11100 (a0 : List TProp) (a1 : ByteArray) (x0 : Int) (x1 : Int) := lim fun v => F.slices_BinarySearchFunc_apiPropapiPropstring_by_elem_find_1.l11100 (v 0) (v 1) a0 a1 x0 x1
noncomputable def V.slices_BinarySearchFunc_apiPropapiPropstring_by_elem_find_1 (a0 : List TProp) (a1 : ByteArray) := lim fun v => F.slices_BinarySearchFunc_apiPropapiPropstring_by_elem_find_1 (v 0) a0 a1
theorem V.slices_BinarySearchFunc_apiPropapiPropstring_by_elem_find_1.l11100.of a0 a1 x0 x1 {r} (h : F.slices_BinarySearchFunc_apiPropapiPropstring_by_elem_find_1.l11100.B V.elem_find_1 V.slices_BinarySearchFunc_apiPropapiPropstring_by_elem_find_1.l11100 a0 a1 x0 x1 = some r) : V.slices_BinarySearchFunc_apiPropapiPropstring_by_elem_find_1.l11100 a0 a1 x0 x1 = some r :=
  App.to (App.step 1 (fun v => F.slices_BinarySearchFunc_apiPropapiPropstring_by_elem_find_1.l11100.eq (v 0) (v 1) a0 a1 x0 x1) (by unfold F.slices_BinarySearchFunc_apiPropapiPropstring_by_elem_find_1.l11100.B; repeat' first | exact App.val | exact App.no | exact App.lim | apply App.cond | apply App.guard | apply App.meet | apply App.ite | refine App.bind ?_ fun _ => ?_)) h
theorem V.slices_BinarySearchFunc_apiPropapiPropstring_by_elem_find_1.of a0 a1 {r} (h : F.slices_BinarySearchFunc_apiPropapiPropstring_by_elem_find_1.B V.slices_BinarySearchFunc_apiPropapiPropstring_by_elem_find_1.l11100 a0 a1 = some r) : V.slices_BinarySearchFunc_apiPropapiPropstring_by_elem_find_1 a0 a1 = some r :=
  App.to (App.step 0 (fun v => F.slices_BinarySearchFunc_apiPropapiPropstring_by_elem_find_1.eq (v 0) a0 a1) (by unfold F.slices_BinarySearchFunc_apiPropapiPropstring_by_elem_find_1.B; repeat' first | exact App.val | exact App.no | exact App.lim | exact (App.enter 1 App.lim) | apply App.cond | apply App.guard | apply App.meet | apply App.ite | refine App.bind ?_ fun _ => ?_)) h
noncomputable def F.elem_find (K : Nat) (a0 : List TProp) (a1 : ByteArray) : Option (Int × Bool) := evFn Try.prog sg K 122 [.sc (.list sProp a0 false), .sc (.val (.string a1))] []
noncomputable def F.elem_find.B (c0 : (List TProp) → (ByteArray) → Option (Int × Bool)) (a0 : List TProp) (a1 : ByteArray) : Option (Int × Bool) :=
    ((c0 a0 a1).bind fun t0 => (some (t0.1, t0.2)))
theorem F.elem_find.eq K a0 a1 : F.elem_find (K + 1) a0 a1 = F.elem_find.B (F.slices_BinarySearchFunc_apiPropapiPropstring_by_elem_find_1 K) a0 a1 := by kernel_rfl
noncomputable def V.elem_find (a0 : List TProp) (a1 : ByteArray) := lim fun v => F.elem_find (v 0) a0 a1
theorem V.elem_find.of a0 a1 {r} (h : F.elem_find.B V.slices_BinarySearchFunc_apiPropapiPropstring_by_elem_find_1 a0 a1 = some r) : V.elem_find a0 a1 = some r :=
  App.to (App.step 0 (fun v => F.elem_find.eq (v 0) a0 a1) (by unfold F.elem_find.B; repeat' first | exact App.val | exact App.no | exact App.lim | apply App.cond | apply App.guard | apply App.meet | apply App.ite | refine App.bind ?_ fun _ => ?_)) h
noncomputable def F.slices_Insert_apiPropapiProp (K : Nat) (a0 : List TProp) (a1 : Int) (a2 : List TProp) : Option (List TProp) := evFn Try.prog sg K 123 [.sc (.own 0 none), .sc (.val (.int .i64 a1)), .sc (.own 1 none)] [.elems sProp a0, .elems sProp a2]
noncomputable def F.slices_Insert_apiPropapiProp.B (a0 : List TProp) (a1 : Int) (a2 : List TProp) : Option (List TProp) :=
    (insB a0 a1 a2)
theorem F.slices_Insert_apiPropapiProp.eq K a0 a1 a2 : F.slices_Insert_apiPropapiProp (K + 1) a0 a1 a2 = F.slices_Insert_apiPropapiProp.B a0 a1 a2 := by kernel_rfl
noncomputable def V.slices_Insert_apiPropapiProp (a0 : List TProp) (a1 : Int) (a2 : List TProp) := lim fun v => F.slices_Insert_apiPropapiProp (v 0) a0 a1 a2
theorem V.slices_Insert_apiPropapiProp.of a0 a1 a2 {r} (h : F.slices_Insert_apiPropapiProp.B a0 a1 a2 = some r) : V.slices_Insert_apiPropapiProp a0 a1 a2 = some r :=
  App.to (App.step 0 (fun v => F.slices_Insert_apiPropapiProp.eq (v 0) a0 a1 a2) App.const) h
noncomputable def F.elem_Set (K : Nat) (a0 : List TProp) (a1 : ByteArray) (a2 : TValue) : Option ((List TProp) × Int) := evFn Try.prog sg K 74 [.sc (.list sProp a0 false), .sc (.val (.string a1)), .agg [.val (.int .i64 a2.1), .val (.int .i64 a2.2.1), .val (.string a2.2.2)]] []
noncomputable def F.elem_Set.B (c0 : (ByteArray) → Option (Int)) (c1 : (TValue) → Option (Int)) (c2 : (List TProp) → Option ((List TProp))) (c3 : (List TProp) → (ByteArray) → Option (Int × Bool)) (c4 : (List TProp) → (Int) → (List TProp) → Option ((List TProp))) (a0 : List TProp) (a1 : ByteArray) (a2 : TValue) : Option ((List TProp) × Int) :=
    ((c0 a1).bind fun t0 => (bif (t0 != 0) then (some ([], 2)) else ((c1 (a2.1, a2.2.1, a2.2.2)).bind fun t1 => (bif (t1 != 0) then (some ([], 2)) else ((c2 a0).bind fun t2 => ((c3 a0 a1).bind fun t3 => (bif t3.2 then (guardK (decide (0 ≤ t3.1) && decide (t3.1 < (t2.length : Int))) (some ((t2.set t3.1.toNat ((rd sProp t2 t3.1.toNat).1, a2.1, a2.2.1, a2.2.2)), 0))) else (bif (decide ((a0.length : Int) ≥ 8)) then (some ([], 5)) else ((c4 t2 t3.1 ([(a1, a2.1, a2.2.1, a2.2.2)])).bind fun t4 => (some (t4, 0)))))))))))
theorem F.elem_Set.eq K a0 a1 a2 : F.elem_Set (K + 1) a0 a1 a2 = F.elem_Set.B (F.name_Check K) (F.value_Check K) (F.slices_Clone_apiPropapiProp K) (F.elem_find K) (F.slices_Insert_apiPropapiProp K) a0 a1 a2 := by kernel_rfl
noncomputable def V.elem_Set (a0 : List TProp) (a1 : ByteArray) (a2 : TValue) := lim fun v => F.elem_Set (v 0) a0 a1 a2
theorem V.elem_Set.of a0 a1 a2 {r} (h : F.elem_Set.B V.name_Check V.value_Check V.slices_Clone_apiPropapiProp V.elem_find V.slices_Insert_apiPropapiProp a0 a1 a2 = some r) : V.elem_Set a0 a1 a2 = some r :=
  App.to (App.step 0 (fun v => F.elem_Set.eq (v 0) a0 a1 a2) (by unfold F.elem_Set.B; repeat' first | exact App.val | exact App.no | exact App.lim | apply App.cond | apply App.guard | apply App.meet | apply App.ite | refine App.bind ?_ fun _ => ?_)) h
noncomputable def F.graph_Right (K : Nat) (a0 : TOp) : Option (Int) := evFn Try.prog sg K 34 [.agg [.val (.int .i64 a0.1), .val (.string a0.2.1), .val (.string a0.2.2.1), .val (.string a0.2.2.2.1), .val (.string a0.2.2.2.2.1), .val (.int .i64 a0.2.2.2.2.2.1), .val (.int .i64 a0.2.2.2.2.2.2.1), .val (.string a0.2.2.2.2.2.2.2)]] []
noncomputable def F.graph_Right.at (K : Nat) (p ns : List Nat) (s : St) : Option (Int) := atFn Try.prog sg K 34 0 p ns s
noncomputable def F.graph_Right.in (K : Nat) (H : List Nat → List Nat → St → Option (Int)) (p ns : List Nat) (s : St) : Option (Int) := inFn Try.prog sg K 34 0 [[1, 1, 1, 0, 1, 0, 1], [1, 1, 1, 0, 1, 0, 1, 1, 1, 1, 1], [1, 1, 1, 0, 1, 0, 1, 1, 1, 1, 1, 1, 1], [1, 1, 1, 1], [1, 1, 1, 1, 1]] H p ns s
theorem F.graph_Right.in_eq K p ns s : F.graph_Right.at K p ns s = F.graph_Right.in K (F.graph_Right.at K) p ns s := atFn_eq (P := Try.prog) (sg := sg) (K := K) (f := 34) (m := 0) [[1, 1, 1, 0, 1, 0, 1], [1, 1, 1, 0, 1, 0, 1, 1, 1, 1, 1], [1, 1, 1, 0, 1, 0, 1, 1, 1, 1, 1, 1, 1], [1, 1, 1, 1], [1, 1, 1, 1, 1]] p ns s
theorem F.graph_Right.in_main K a0 : F.graph_Right (K + 1) a0 = F.graph_Right.in K (F.graph_Right.at K) [] [] ⟨slots [.agg [.val (.int .i64 a0.1), .val (.string a0.2.1), .val (.string a0.2.2.1), .val (.string a0.2.2.2.1), .val (.string a0.2.2.2.2.1), .val (.int .i64 a0.2.2.2.2.2.1), .val (.int .i64 a0.2.2.2.2.2.2.1), .val (.string a0.2.2.2.2.2.2.2)]] 0, []⟩ := evFn_eq (P := Try.prog) (sg := sg) (K := K) (f := 34) (args := [.agg [.val (.int .i64 a0.1), .val (.string a0.2.1), .val (.string a0.2.2.1), .val (.string a0.2.2.2.1), .val (.string a0.2.2.2.2.1), .val (.int .i64 a0.2.2.2.2.2.1), .val (.int .i64 a0.2.2.2.2.2.2.1), .val (.string a0.2.2.2.2.2.2.2)]]) (σ := []) [[1, 1, 1, 0, 1, 0, 1], [1, 1, 1, 0, 1, 0, 1, 1, 1, 1, 1], [1, 1, 1, 0, 1, 0, 1, 1, 1, 1, 1, 1, 1], [1, 1, 1, 1], [1, 1, 1, 1, 1]] (by kernel_rfl)
def F.graph_Right.j1110101.st (a0 : TOp) (x0 : Bool) : St := ⟨[(1, .one (.sc (.ref 0 0))), (3, vB true), (11, vI a0.1), (12, vB x0)], [.cells 53 [.val (.int .i64 a0.1), .val (.string a0.2.1), .val (.string a0.2.2.1), .val (.string a0.2.2.2.1), .val (.string a0.2.2.2.2.1), .val (.int .i64 a0.2.2.2.2.2.1), .val (.int .i64 a0.2.2.2.2.2.2.1), .val (.string a0.2.2.2.2.2.2.2)]]⟩
noncomputable def F.graph_Right.j1110101 (K : Nat) (a0 : TOp) (x0 : Bool) := F.graph_Right.at K [1, 1, 1, 0, 1, 0, 1] [] (F.graph_Right.j1110101.st a0 x0)
def F.graph_Right.j11101011111.st (a0 : TOp) (x0 : Bool) : St := ⟨[(1, .one (.sc (.ref 0 0))), (11, vI a0.1), (28, vB x0)], [.cells 53 [.val (.int .i64 a0.1), .val (.string a0.2.1), .val (.string a0.2.2.1), .val (.string a0.2.2.2.1), .val (.string a0.2.2.2.2.1), .val (.int .i64 a0.2.2.2.2.2.1), .val (.int .i64 a0.2.2.2.2.2.2.1), .val (.string a0.2.2.2.2.2.2.2)]]⟩
noncomputable def F.graph_Right.j11101011111 (K : Nat) (a0 : TOp) (x0 : Bool) := F.graph_Right.at K [1, 1, 1, 0, 1, 0, 1, 1, 1, 1, 1] [] (F.graph_Right.j11101011111.st a0 x0)
def F.graph_Right.j1110101111111.st (a0 : TOp) (x0 : Bool) : St := ⟨[(1, .one (.sc (.ref 0 0))), (39, vB x0)], [.cells 53 [.val (.int .i64 a0.1), .val (.string a0.2.1), .val (.string a0.2.2.1), .val (.string a0.2.2.2.1), .val (.string a0.2.2.2.2.1), .val (.int .i64 a0.2.2.2.2.2.1), .val (.int .i64 a0.2.2.2.2.2.2.1), .val (.string a0.2.2.2.2.2.2.2)]]⟩
noncomputable def F.graph_Right.j1110101111111 (K : Nat) (a0 : TOp) (x0 : Bool) := F.graph_Right.at K [1, 1, 1, 0, 1, 0, 1, 1, 1, 1, 1, 1, 1] [] (F.graph_Right.j1110101111111.st a0 x0)
def F.graph_Right.j1111.st (a0 : TOp) (x0 : Bool) : St := ⟨[(3, vB x0)], []⟩
noncomputable def F.graph_Right.j1111 (K : Nat) (a0 : TOp) (x0 : Bool) := F.graph_Right.at K [1, 1, 1, 1] [] (F.graph_Right.j1111.st a0 x0)
def F.graph_Right.j11111.st (a0 : TOp) : St := ⟨[], []⟩
noncomputable def F.graph_Right.j11111 (K : Nat) (a0 : TOp) := F.graph_Right.at K [1, 1, 1, 1, 1] [] (F.graph_Right.j11111.st a0)
noncomputable def F.graph_Right.j1110101.B (c0 : (TOp) → (Bool) → Option (Int)) (c1 : (ByteArray) → Option (Int)) (c2 : (TOp) → (Bool) → Option (Int)) (a0 : TOp) (x0 : Bool) : Option (Int) :=
    (bif x0 then (c0 a0 true) else (bif (a0.1 == 3) then ((c1 a0.2.2.1).bind fun t1 => (bif (t1 == 0) then ((c1 a0.2.2.2.1).bind fun t2 => (c0 a0 (t2 == 0))) else (c0 a0 false))) else (bif (a0.1 == 5) then (c2 a0 (a0.1 == 5)) else (bif (a0.1 == 6) then (c2 a0 (a0.1 == 6)) else (bif (a0.1 == 7) then (c2 a0 (a0.1 == 7)) else (bif (a0.1 == 8) then (c2 a0 (a0.1 == 8)) else (bif (a0.1 == 10) then (c2 a0 (a0.1 == 10)) else (c2 a0 (a0.1 == 12)))))))))
theorem F.graph_Right.j1110101.eq K a0 x0 : F.graph_Right.j1110101 K a0 x0 = F.graph_Right.j1110101.B (F.graph_Right.j1111 K) (F.name_Check K) (F.graph_Right.j11101011111 K) a0 x0 := (F.graph_Right.in_eq K [1, 1, 1, 0, 1, 0, 1] [] (F.graph_Right.j1110101.st a0 x0)).trans ((show ∀ H, F.graph_Right.in K H [1, 1, 1, 0, 1, 0, 1] [] (F.graph_Right.j1110101.st a0 x0) = F.graph_Right.j1110101.B (fun a0 x0 => H [1, 1, 1, 1] [] (F.graph_Right.j1111.st a0 x0)) (F.name_Check K) (fun a0 x0 => H [1, 1, 1, 0, 1, 0, 1, 1, 1, 1, 1] [] (F.graph_Right.j11101011111.st a0 x0)) a0 x0 from by intro H; kernel_rfl) (F.graph_Right.at K))
noncomputable def F.graph_Right.j11101011111.B (c0 : (ByteArray) → Option (Int)) (c1 : (TOp) → (Bool) → Option (Int)) (c2 : (TOp) → (Bool) → Option (Int)) (a0 : TOp) (x0 : Bool) : Option (Int) :=
    (bif x0 then ((c0 a0.2.2.2.2.1).bind fun t3 => (c1 a0 (t3 == 0))) else (bif (a0.1 == 9) then (c2 a0 (a0.1 == 9)) else (c2 a0 (a0.1 == 11))))
theorem F.graph_Right.j11101011111.eq K a0 x0 : F.graph_Right.j11101011111 K a0 x0 = F.graph_Right.j11101011111.B (F.name_Check K) (F.graph_Right.j1111 K) (F.graph_Right.j1110101111111 K) a0 x0 := (F.graph_Right.in_eq K [1, 1, 1, 0, 1, 0, 1, 1, 1, 1, 1] [] (F.graph_Right.j11101011111.st a0 x0)).trans ((show ∀ H, F.graph_Right.in K H [1, 1, 1, 0, 1, 0, 1, 1, 1, 1, 1] [] (F.graph_Right.j11101011111.st a0 x0) = F.graph_Right.j11101011111.B (F.name_Check K) (fun a0 x0 => H [1, 1, 1, 1] [] (F.graph_Right.j1111.st a0 x0)) (fun a0 x0 => H [1, 1, 1, 0, 1, 0, 1, 1, 1, 1, 1, 1, 1] [] (F.graph_Right.j1110101111111.st a0 x0)) a0 x0 from by intro H; kernel_rfl) (F.graph_Right.at K))
noncomputable def F.graph_Right.j1110101111111.B (c0 : (List TProp) → (ByteArray) → (TValue) → Option ((List TProp) × Int)) (c1 : (TOp) → (Bool) → Option (Int)) (a0 : TOp) (x0 : Bool) : Option (Int) :=
    (bif x0 then ((c0 ([]) a0.2.2.2.2.1 (a0.2.2.2.2.2.1, a0.2.2.2.2.2.2.1, a0.2.2.2.2.2.2.2)).bind fun t4 => (c1 a0 (t4.2 == 0))) else (c1 a0 false))
theorem F.graph_Right.j1110101111111.eq K a0 x0 : F.graph_Right.j1110101111111 K a0 x0 = F.graph_Right.j1110101111111.B (F.elem_Set K) (F.graph_Right.j1111 K) a0 x0 := (F.graph_Right.in_eq K [1, 1, 1, 0, 1, 0, 1, 1, 1, 1, 1, 1, 1] [] (F.graph_Right.j1110101111111.st a0 x0)).trans ((show ∀ H, F.graph_Right.in K H [1, 1, 1, 0, 1, 0, 1, 1, 1, 1, 1, 1, 1] [] (F.graph_Right.j1110101111111.st a0 x0) = F.graph_Right.j1110101111111.B (F.elem_Set K) (fun a0 x0 => H [1, 1, 1, 1] [] (F.graph_Right.j1111.st a0 x0)) a0 x0 from by intro H; kernel_rfl) (F.graph_Right.at K))
noncomputable def F.graph_Right.j1111.B (c0 : (TOp) → Option (Int)) (a0 : TOp) (x0 : Bool) : Option (Int) :=
    (bif (!x0) then (some 2) else (c0 a0))
theorem F.graph_Right.j1111.eq K a0 x0 : F.graph_Right.j1111 K a0 x0 = F.graph_Right.j1111.B (F.graph_Right.j11111 K) a0 x0 := (F.graph_Right.in_eq K [1, 1, 1, 1] [] (F.graph_Right.j1111.st a0 x0)).trans ((show ∀ H, F.graph_Right.in K H [1, 1, 1, 1] [] (F.graph_Right.j1111.st a0 x0) = F.graph_Right.j1111.B (fun a0 => H [1, 1, 1, 1, 1] [] (F.graph_Right.j11111.st a0)) a0 x0 from by intro H; kernel_rfl) (F.graph_Right.at K))
noncomputable def F.graph_Right.j11111.B (a0 : TOp) : Option (Int) :=
    (some 0)
theorem F.graph_Right.j11111.eq K a0 : F.graph_Right.j11111 K a0 = F.graph_Right.j11111.B a0 := (F.graph_Right.in_eq K [1, 1, 1, 1, 1] [] (F.graph_Right.j11111.st a0)).trans ((show ∀ H, F.graph_Right.in K H [1, 1, 1, 1, 1] [] (F.graph_Right.j11111.st a0) = F.graph_Right.j11111.B a0 from by intro H; kernel_rfl) (F.graph_Right.at K))
noncomputable def F.graph_Right.B (c0 : (ByteArray) → Option (Int)) (c1 : (TOp) → (Bool) → Option (Int)) (a0 : TOp) : Option (Int) :=
    ((c0 a0.2.1).bind fun t0 => (bif (t0 != 0) then (some 2) else (bif (a0.1 == 1) then (c1 a0 (a0.1 == 1)) else (bif (a0.1 == 2) then (c1 a0 (a0.1 == 2)) else (c1 a0 (a0.1 == 4))))))
theorem F.graph_Right.eq K a0 : F.graph_Right (K + 1) a0 = F.graph_Right.B (F.name_Check K) (F.graph_Right.j1110101 K) a0 := (F.graph_Right.in_main K a0).trans ((show ∀ H, F.graph_Right.in K H [] [] ⟨slots [.agg [.val (.int .i64 a0.1), .val (.string a0.2.1), .val (.string a0.2.2.1), .val (.string a0.2.2.2.1), .val (.string a0.2.2.2.2.1), .val (.int .i64 a0.2.2.2.2.2.1), .val (.int .i64 a0.2.2.2.2.2.2.1), .val (.string a0.2.2.2.2.2.2.2)]] 0, []⟩ = F.graph_Right.B (F.name_Check K) (fun a0 x0 => H [1, 1, 1, 0, 1, 0, 1] [] (F.graph_Right.j1110101.st a0 x0)) a0 from by intro H; kernel_rfl) (F.graph_Right.at K))
noncomputable def V.graph_Right.j1110101 (a0 : TOp) (x0 : Bool) := lim fun v => F.graph_Right.j1110101 (v 0) a0 x0
noncomputable def V.graph_Right.j11101011111 (a0 : TOp) (x0 : Bool) := lim fun v => F.graph_Right.j11101011111 (v 0) a0 x0
noncomputable def V.graph_Right.j1110101111111 (a0 : TOp) (x0 : Bool) := lim fun v => F.graph_Right.j1110101111111 (v 0) a0 x0
noncomputable def V.graph_Right.j1111 (a0 : TOp) (x0 : Bool) := lim fun v => F.graph_Right.j1111 (v 0) a0 x0
noncomputable def V.graph_Right.j11111 (a0 : TOp) := lim fun v => F.graph_Right.j11111 (v 0) a0
noncomputable def V.graph_Right (a0 : TOp) := lim fun v => F.graph_Right (v 0) a0
theorem V.graph_Right.j1110101.of a0 x0 {r} (h : F.graph_Right.j1110101.B V.graph_Right.j1111 V.name_Check V.graph_Right.j11101011111 a0 x0 = some r) : V.graph_Right.j1110101 a0 x0 = some r :=
  App.to (App.same (fun v => F.graph_Right.j1110101.eq (v 0) a0 x0) (by unfold F.graph_Right.j1110101.B; repeat' first | exact App.val | exact App.no | exact App.lim | apply App.cond | apply App.guard | apply App.meet | apply App.ite | refine App.bind ?_ fun _ => ?_)) h
theorem V.graph_Right.j11101011111.of a0 x0 {r} (h : F.graph_Right.j11101011111.B V.name_Check V.graph_Right.j1111 V.graph_Right.j1110101111111 a0 x0 = some r) : V.graph_Right.j11101011111 a0 x0 = some r :=
  App.to (App.same (fun v => F.graph_Right.j11101011111.eq (v 0) a0 x0) (by unfold F.graph_Right.j11101011111.B; repeat' first | exact App.val | exact App.no | exact App.lim | apply App.cond | apply App.guard | apply App.meet | apply App.ite | refine App.bind ?_ fun _ => ?_)) h
theorem V.graph_Right.j1110101111111.of a0 x0 {r} (h : F.graph_Right.j1110101111111.B V.elem_Set V.graph_Right.j1111 a0 x0 = some r) : V.graph_Right.j1110101111111 a0 x0 = some r :=
  App.to (App.same (fun v => F.graph_Right.j1110101111111.eq (v 0) a0 x0) (by unfold F.graph_Right.j1110101111111.B; repeat' first | exact App.val | exact App.no | exact App.lim | apply App.cond | apply App.guard | apply App.meet | apply App.ite | refine App.bind ?_ fun _ => ?_)) h
theorem V.graph_Right.j1111.of a0 x0 {r} (h : F.graph_Right.j1111.B V.graph_Right.j11111 a0 x0 = some r) : V.graph_Right.j1111 a0 x0 = some r :=
  App.to (App.same (fun v => F.graph_Right.j1111.eq (v 0) a0 x0) (by unfold F.graph_Right.j1111.B; repeat' first | exact App.val | exact App.no | exact App.lim | apply App.cond | apply App.guard | apply App.meet | apply App.ite | refine App.bind ?_ fun _ => ?_)) h
theorem V.graph_Right.j11111.of a0 {r} (h : F.graph_Right.j11111.B a0 = some r) : V.graph_Right.j11111 a0 = some r :=
  App.to (App.same (fun v => F.graph_Right.j11111.eq (v 0) a0) (by unfold F.graph_Right.j11111.B; repeat' first | exact App.val | exact App.no | exact App.lim | apply App.cond | apply App.guard | apply App.meet | apply App.ite | refine App.bind ?_ fun _ => ?_)) h
theorem V.graph_Right.of a0 {r} (h : F.graph_Right.B V.name_Check V.graph_Right.j1110101 a0 = some r) : V.graph_Right a0 = some r :=
  App.to (App.step 0 (fun v => F.graph_Right.eq (v 0) a0) (by unfold F.graph_Right.B; repeat' first | exact App.val | exact App.no | exact App.lim | apply App.cond | apply App.guard | apply App.meet | apply App.ite | refine App.bind ?_ fun _ => ?_)) h
noncomputable def F.slices_Insert_apiNodeapiNode (K : Nat) (a0 : List TNode) (a1 : Int) (a2 : List TNode) : Option (List TNode) := evFn Try.prog sg K 166 [.sc (.own 0 none), .sc (.val (.int .i64 a1)), .sc (.own 1 none)] [.elems sNode a0, .elems sNode a2]
noncomputable def F.slices_Insert_apiNodeapiNode.B (a0 : List TNode) (a1 : Int) (a2 : List TNode) : Option (List TNode) :=
    (insB a0 a1 a2)
theorem F.slices_Insert_apiNodeapiNode.eq K a0 a1 a2 : F.slices_Insert_apiNodeapiNode (K + 1) a0 a1 a2 = F.slices_Insert_apiNodeapiNode.B a0 a1 a2 := by kernel_rfl
noncomputable def V.slices_Insert_apiNodeapiNode (a0 : List TNode) (a1 : Int) (a2 : List TNode) := lim fun v => F.slices_Insert_apiNodeapiNode (v 0) a0 a1 a2
theorem V.slices_Insert_apiNodeapiNode.of a0 a1 a2 {r} (h : F.slices_Insert_apiNodeapiNode.B a0 a1 a2 = some r) : V.slices_Insert_apiNodeapiNode a0 a1 a2 = some r :=
  App.to (App.step 0 (fun v => F.slices_Insert_apiNodeapiNode.eq (v 0) a0 a1 a2) App.const) h
noncomputable def F.graph_edge_1 (K : Nat) (a0 : TEdge) (a1 : ByteArray) : Option (Int) := evFn Try.prog sg K 197 [.agg [.val (.string a0.1), .val (.string a0.2.1), .val (.string a0.2.2.1), .list .str a0.2.2.2.1 false, .list sProp a0.2.2.2.2 false], .sc (.val (.string a1))] []
noncomputable def F.graph_edge_1.B (c0 : (ByteArray) → (ByteArray) → Option (Int)) (a0 : TEdge) (a1 : ByteArray) : Option (Int) :=
    ((c0 a0.1 a1).bind fun t0 => (some t0))
theorem F.graph_edge_1.eq K a0 a1 : F.graph_edge_1 (K + 1) a0 a1 = F.graph_edge_1.B (F.cmp_Compare_string K) a0 a1 := by kernel_rfl
noncomputable def V.graph_edge_1 (a0 : TEdge) (a1 : ByteArray) := lim fun v => F.graph_edge_1 (v 0) a0 a1
theorem V.graph_edge_1.of a0 a1 {r} (h : F.graph_edge_1.B V.cmp_Compare_string a0 a1 = some r) : V.graph_edge_1 a0 a1 = some r :=
  App.to (App.step 0 (fun v => F.graph_edge_1.eq (v 0) a0 a1) (by unfold F.graph_edge_1.B; repeat' first | exact App.val | exact App.no | exact App.lim | apply App.cond | apply App.guard | apply App.meet | apply App.ite | refine App.bind ?_ fun _ => ?_)) h
noncomputable def F.slices_BinarySearchFunc_apiEdgeapiEdgestring_by_graph_edge_1 (K : Nat) (a0 : List TEdge) (a1 : ByteArray) : Option (Int × Bool) := evFn Try.prog sg K 196 [.sc (.list sEdge a0 false), .sc (.val (.string a1)), .sc (.fn 197 [])] []
noncomputable def F.slices_BinarySearchFunc_apiEdgeapiEdgestring_by_graph_edge_1.at (K : Nat) (p ns : List Nat) (s : St) : Option (Int × Bool) := atFn Try.prog sg K 196 0 p ns s
noncomputable def F.slices_BinarySearchFunc_apiEdgeapiEdgestring_by_graph_edge_1.in (K : Nat) (H : List Nat → List Nat → St → Option (Int × Bool)) (p ns : List Nat) (s : St) : Option (Int × Bool) := inFn Try.prog sg K 196 0 [] H p ns s
theorem F.slices_BinarySearchFunc_apiEdgeapiEdgestring_by_graph_edge_1.in_eq K p ns s : F.slices_BinarySearchFunc_apiEdgeapiEdgestring_by_graph_edge_1.at K p ns s = F.slices_BinarySearchFunc_apiEdgeapiEdgestring_by_graph_edge_1.in K (F.slices_BinarySearchFunc_apiEdgeapiEdgestring_by_graph_edge_1.at K) p ns s := atFn_eq (P := Try.prog) (sg := sg) (K := K) (f := 196) (m := 0) [] p ns s
theorem F.slices_BinarySearchFunc_apiEdgeapiEdgestring_by_graph_edge_1.in_main K a0 a1 : F.slices_BinarySearchFunc_apiEdgeapiEdgestring_by_graph_edge_1 (K + 1) a0 a1 = F.slices_BinarySearchFunc_apiEdgeapiEdgestring_by_graph_edge_1.in K (F.slices_BinarySearchFunc_apiEdgeapiEdgestring_by_graph_edge_1.at K) [] [] ⟨slots [.sc (.list sEdge a0 false), .sc (.val (.string a1)), .sc (.fn 197 [])] 0, []⟩ := evFn_eq (P := Try.prog) (sg := sg) (K := K) (f := 196) (args := [.sc (.list sEdge a0 false), .sc (.val (.string a1)), .sc (.fn 197 [])]) (σ := []) [] (by kernel_rfl)
def F.slices_BinarySearchFunc_apiEdgeapiEdgestring_by_graph_edge_1.l11100.st (a0 : List TEdge) (a1 : ByteArray) (x0 : Int) (x1 : Int) : St := ⟨[(0, vL sEdge a0), (1, vS a1), (2, .one (.sc (.fn 197 []))), (8, vI (a0.length : Int)), (9, vI x0), (10, vI x1)], []⟩
noncomputable def F.slices_BinarySearchFunc_apiEdgeapiEdgestring_by_graph_edge_1.l11100 (K n0 : Nat) (a0 : List TEdge) (a1 : ByteArray) (x0 : Int) (x1 : Int) := F.slices_BinarySearchFunc_apiEdgeapiEdgestring_by_graph_edge_1.at K [1, 1, 1, 0, 0] [n0] (F.slices_BinarySearchFunc_apiEdgeapiEdgestring_by_graph_edge_1.l11100.st a0 a1 x0 x1)
noncomputable def F.slices_BinarySearchFunc_apiEdgeapiEdgestring_by_graph_edge_1.l11100.B (c0 : (TEdge) → (ByteArray) → Option (Int)) (c1 : (List TEdge) → (ByteArray) → (Int) → (Int) → Option (Int × Bool)) (a0 : List TEdge) (a1 : ByteArray) (x0 : Int) (x1 : Int) : Option (Int × Bool) :=
    (bif (decide (x0 < x1)) then (guardK (decide (0 ≤ (w64 (Int.fdiv (IntKind.wrap .u64 (w64 (x0 + x1))) (2 ^ 1)))) && decide ((w64 (Int.fdiv (IntKind.wrap .u64 (w64 (x0 + x1))) (2 ^ 1))) < (a0.length : Int))) ((c0 ((rd sEdge a0 ((w64 (Int.fdiv (IntKind.wrap .u64 (w64 (x0 + x1))) (2 ^ 1))).toNat)).1, ((rd sEdge a0 ((w64 (Int.fdiv (IntKind.wrap .u64 (w64 (x0 + x1))) (2 ^ 1))).toNat)).2).1, (((rd sEdge a0 ((w64 (Int.fdiv (IntKind.wrap .u64 (w64 (x0 + x1))) (2 ^ 1))).toNat)).2).2).1, ((((rd sEdge a0 ((w64 (Int.fdiv (IntKind.wrap .u64 (w64 (x0 + x1))) (2 ^ 1))).toNat)).2).2).2).1, ((((rd sEdge a0 ((w64 (Int.fdiv (IntKind.wrap .u64 (w64 (x0 + x1))) (2 ^ 1))).toNat)).2).2).2).2) a1).bind fun t0 => (bif (decide (t0 < 0)) then (c1 a0 a1 (w64 ((w64 (Int.fdiv (IntKind.wrap .u64 (w64 (x0 + x1))) (2 ^ 1))) + 1)) x1) else (c1 a0 a1 x0 (w64 (Int.fdiv (IntKind.wrap .u64 (w64 (x0 + x1))) (2 ^ 1))))))) else (bif (decide (x0 < (a0.length : Int))) then (guardK (decide (0 ≤ x0) && decide (x0 < (a0.length : Int))) ((c0 ((rd sEdge a0 x0.toNat).1, ((rd sEdge a0 x0.toNat).2).1, (((rd sEdge a0 x0.toNat).2).2).1, ((((rd sEdge a0 x0.toNat).2).2).2).1, ((((rd sEdge a0 x0.toNat).2).2).2).2) a1).bind fun t1 => (some (x0, (t1 == 0))))) else (some (x0, false))))
theorem F.slices_BinarySearchFunc_apiEdgeapiEdgestring_by_graph_edge_1.l11100.eq K n0 a0 a1 x0 x1 : F.slices_BinarySearchFunc_apiEdgeapiEdgestring_by_graph_edge_1.l11100 K (n0 + 1) a0 a1 x0 x1 = F.slices_BinarySearchFunc_apiEdgeapiEdgestring_by_graph_edge_1.l11100.B (F.graph_edge_1 K) (F.slices_BinarySearchFunc_apiEdgeapiEdgestring_by_graph_edge_1.l11100 K n0) a0 a1 x0 x1 := (F.slices_BinarySearchFunc_apiEdgeapiEdgestring_by_graph_edge_1.in_eq K [1, 1, 1, 0, 0] [n0 + 1] (F.slices_BinarySearchFunc_apiEdgeapiEdgestring_by_graph_edge_1.l11100.st a0 a1 x0 x1)).trans ((show ∀ H, F.slices_BinarySearchFunc_apiEdgeapiEdgestring_by_graph_edge_1.in K H [1, 1, 1, 0, 0] [n0 + 1] (F.slices_BinarySearchFunc_apiEdgeapiEdgestring_by_graph_edge_1.l11100.st a0 a1 x0 x1) = F.slices_BinarySearchFunc_apiEdgeapiEdgestring_by_graph_edge_1.l11100.B (F.graph_edge_1 K) (fun a0 a1 x0 x1 => H [1, 1, 1, 0, 0] [n0] (F.slices_BinarySearchFunc_apiEdgeapiEdgestring_by_graph_edge_1.l11100.st a0 a1 x0 x1)) a0 a1 x0 x1 from by intro H; kernel_rfl) (F.slices_BinarySearchFunc_apiEdgeapiEdgestring_by_graph_edge_1.at K))
noncomputable def F.slices_BinarySearchFunc_apiEdgeapiEdgestring_by_graph_edge_1.B (c0 : (List TEdge) → (ByteArray) → (Int) → (Int) → Option (Int × Bool)) (a0 : List TEdge) (a1 : ByteArray) : Option (Int × Bool) :=
    (c0 a0 a1 0 (a0.length : Int))
theorem F.slices_BinarySearchFunc_apiEdgeapiEdgestring_by_graph_edge_1.eq K a0 a1 : F.slices_BinarySearchFunc_apiEdgeapiEdgestring_by_graph_edge_1 (K + 1) a0 a1 = F.slices_BinarySearchFunc_apiEdgeapiEdgestring_by_graph_edge_1.B (F.slices_BinarySearchFunc_apiEdgeapiEdgestring_by_graph_edge_1.l11100 K K) a0 a1 := (F.slices_BinarySearchFunc_apiEdgeapiEdgestring_by_graph_edge_1.in_main K a0 a1).trans ((show ∀ H, F.slices_BinarySearchFunc_apiEdgeapiEdgestring_by_graph_edge_1.in K H [] [] ⟨slots [.sc (.list sEdge a0 false), .sc (.val (.string a1)), .sc (.fn 197 [])] 0, []⟩ = F.slices_BinarySearchFunc_apiEdgeapiEdgestring_by_graph_edge_1.B (fun a0 a1 x0 x1 => H [1, 1, 1, 0, 0] [K] (F.slices_BinarySearchFunc_apiEdgeapiEdgestring_by_graph_edge_1.l11100.st a0 a1 x0 x1)) a0 a1 from by intro H; kernel_rfl) (F.slices_BinarySearchFunc_apiEdgeapiEdgestring_by_graph_edge_1.at K))
noncomputable def V.slices_BinarySearchFunc_apiEdgeapiEdgestring_by_graph_edge_1.l11100 (a0 : List TEdge) (a1 : ByteArray) (x0 : Int) (x1 : Int) := lim fun v => F.slices_BinarySearchFunc_apiEdgeapiEdgestring_by_graph_edge_1.l11100 (v 0) (v 1) a0 a1 x0 x1
noncomputable def V.slices_BinarySearchFunc_apiEdgeapiEdgestring_by_graph_edge_1 (a0 : List TEdge) (a1 : ByteArray) := lim fun v => F.slices_BinarySearchFunc_apiEdgeapiEdgestring_by_graph_edge_1 (v 0) a0 a1
theorem V.slices_BinarySearchFunc_apiEdgeapiEdgestring_by_graph_edge_1.l11100.of a0 a1 x0 x1 {r} (h : F.slices_BinarySearchFunc_apiEdgeapiEdgestring_by_graph_edge_1.l11100.B V.graph_edge_1 V.slices_BinarySearchFunc_apiEdgeapiEdgestring_by_graph_edge_1.l11100 a0 a1 x0 x1 = some r) : V.slices_BinarySearchFunc_apiEdgeapiEdgestring_by_graph_edge_1.l11100 a0 a1 x0 x1 = some r :=
  App.to (App.step 1 (fun v => F.slices_BinarySearchFunc_apiEdgeapiEdgestring_by_graph_edge_1.l11100.eq (v 0) (v 1) a0 a1 x0 x1) (by unfold F.slices_BinarySearchFunc_apiEdgeapiEdgestring_by_graph_edge_1.l11100.B; repeat' first | exact App.val | exact App.no | exact App.lim | apply App.cond | apply App.guard | apply App.meet | apply App.ite | refine App.bind ?_ fun _ => ?_)) h
theorem V.slices_BinarySearchFunc_apiEdgeapiEdgestring_by_graph_edge_1.of a0 a1 {r} (h : F.slices_BinarySearchFunc_apiEdgeapiEdgestring_by_graph_edge_1.B V.slices_BinarySearchFunc_apiEdgeapiEdgestring_by_graph_edge_1.l11100 a0 a1 = some r) : V.slices_BinarySearchFunc_apiEdgeapiEdgestring_by_graph_edge_1 a0 a1 = some r :=
  App.to (App.step 0 (fun v => F.slices_BinarySearchFunc_apiEdgeapiEdgestring_by_graph_edge_1.eq (v 0) a0 a1) (by unfold F.slices_BinarySearchFunc_apiEdgeapiEdgestring_by_graph_edge_1.B; repeat' first | exact App.val | exact App.no | exact App.lim | exact (App.enter 1 App.lim) | apply App.cond | apply App.guard | apply App.meet | apply App.ite | refine App.bind ?_ fun _ => ?_)) h
noncomputable def F.graph_edge (K : Nat) (a0 : TGraph) (a1 : ByteArray) : Option (Int × Bool) := evFn Try.prog sg K 165 [.agg [.list sNode a0.1 false, .list sEdge a0.2 false], .sc (.val (.string a1))] []
noncomputable def F.graph_edge.B (c0 : (List TEdge) → (ByteArray) → Option (Int × Bool)) (a0 : TGraph) (a1 : ByteArray) : Option (Int × Bool) :=
    ((c0 a0.2 a1).bind fun t0 => (some (t0.1, t0.2)))
theorem F.graph_edge.eq K a0 a1 : F.graph_edge (K + 1) a0 a1 = F.graph_edge.B (F.slices_BinarySearchFunc_apiEdgeapiEdgestring_by_graph_edge_1 K) a0 a1 := by kernel_rfl
noncomputable def V.graph_edge (a0 : TGraph) (a1 : ByteArray) := lim fun v => F.graph_edge (v 0) a0 a1
theorem V.graph_edge.of a0 a1 {r} (h : F.graph_edge.B V.slices_BinarySearchFunc_apiEdgeapiEdgestring_by_graph_edge_1 a0 a1 = some r) : V.graph_edge a0 a1 = some r :=
  App.to (App.step 0 (fun v => F.graph_edge.eq (v 0) a0 a1) (by unfold F.graph_edge.B; repeat' first | exact App.val | exact App.no | exact App.lim | apply App.cond | apply App.guard | apply App.meet | apply App.ite | refine App.bind ?_ fun _ => ?_)) h
noncomputable def F.slices_Insert_apiEdgeapiEdge (K : Nat) (a0 : List TEdge) (a1 : Int) (a2 : List TEdge) : Option (List TEdge) := evFn Try.prog sg K 167 [.sc (.own 0 none), .sc (.val (.int .i64 a1)), .sc (.own 1 none)] [.elems sEdge a0, .elems sEdge a2]
noncomputable def F.slices_Insert_apiEdgeapiEdge.B (a0 : List TEdge) (a1 : Int) (a2 : List TEdge) : Option (List TEdge) :=
    (insB a0 a1 a2)
theorem F.slices_Insert_apiEdgeapiEdge.eq K a0 a1 a2 : F.slices_Insert_apiEdgeapiEdge (K + 1) a0 a1 a2 = F.slices_Insert_apiEdgeapiEdge.B a0 a1 a2 := by kernel_rfl
noncomputable def V.slices_Insert_apiEdgeapiEdge (a0 : List TEdge) (a1 : Int) (a2 : List TEdge) := lim fun v => F.slices_Insert_apiEdgeapiEdge (v 0) a0 a1 a2
theorem V.slices_Insert_apiEdgeapiEdge.of a0 a1 a2 {r} (h : F.slices_Insert_apiEdgeapiEdge.B a0 a1 a2 = some r) : V.slices_Insert_apiEdgeapiEdge a0 a1 a2 = some r :=
  App.to (App.step 0 (fun v => F.slices_Insert_apiEdgeapiEdge.eq (v 0) a0 a1 a2) App.const) h
noncomputable def F.graph_change_comes (K : Nat) (a0 : TGraph) (a1 : TOp) : Option (Int × TGraph) := evFn Try.prog sg K 132 [.sc (.ref 0 0), .agg [.val (.int .i64 a1.1), .val (.string a1.2.1), .val (.string a1.2.2.1), .val (.string a1.2.2.2.1), .val (.string a1.2.2.2.2.1), .val (.int .i64 a1.2.2.2.2.2.1), .val (.int .i64 a1.2.2.2.2.2.2.1), .val (.string a1.2.2.2.2.2.2.2)]] [.cells 130 [.own 1 none, .own 2 none], .elems sNode a0.1, .elems sEdge a0.2]
noncomputable def F.graph_change_comes.B (c0 : (TGraph) → (ByteArray) → Option (Int × Bool)) (c1 : (List TNode) → (Int) → (List TNode) → Option ((List TNode))) (c2 : (TGraph) → (ByteArray) → Option (Int × Bool)) (c3 : (List TEdge) → (Int) → (List TEdge) → Option ((List TEdge))) (a0 : TGraph) (a1 : TOp) : Option (Int × TGraph) :=
    (bif (a1.1 == 1) then ((c0 (a0.1, a0.2) a1.2.1).bind fun t0 => (bif t0.2 then (some (10, a0.1, a0.2)) else (bif (decide ((a0.1.length : Int) ≥ 500)) then (some (5, a0.1, a0.2)) else (meet ((c1 a0.1 t0.1 ([(a1.2.1, [], [])])).bind fun t1 => (some (0, t1, a0.2))) ((c1 a0.1 t0.1 ([(a1.2.1, [], [])])).bind fun t2 => (some (0, t2, a0.2))))))) else ((c2 (a0.1, a0.2) a1.2.1).bind fun t3 => ((c0 (a0.1, a0.2) a1.2.2.1).bind fun t4 => ((c0 (a0.1, a0.2) a1.2.2.2.1).bind fun t5 => (bif t3.2 then (some (10, a0.1, a0.2)) else (bif (!t4.2) then (some (9, a0.1, a0.2)) else (bif (!t5.2) then (some (9, a0.1, a0.2)) else (bif (decide ((a0.2.length : Int) ≥ 1000)) then (some (5, a0.1, a0.2)) else (meet ((c3 a0.2 t3.1 ([(a1.2.1, a1.2.2.1, a1.2.2.2.1, [], [])])).bind fun t6 => (some (0, a0.1, t6))) ((c3 a0.2 t3.1 ([(a1.2.1, a1.2.2.1, a1.2.2.2.1, [], [])])).bind fun t7 => (some (0, a0.1, t7))))))))))))
theorem F.graph_change_comes.eq K a0 a1 : F.graph_change_comes (K + 1) a0 a1 = F.graph_change_comes.B (F.graph_node K) (F.slices_Insert_apiNodeapiNode K) (F.graph_edge K) (F.slices_Insert_apiEdgeapiEdge K) a0 a1 := by kernel_rfl
noncomputable def V.graph_change_comes (a0 : TGraph) (a1 : TOp) := lim fun v => F.graph_change_comes (v 0) a0 a1
theorem V.graph_change_comes.of a0 a1 {r} (h : F.graph_change_comes.B V.graph_node V.slices_Insert_apiNodeapiNode V.graph_edge V.slices_Insert_apiEdgeapiEdge a0 a1 = some r) : V.graph_change_comes a0 a1 = some r :=
  App.to (App.step 0 (fun v => F.graph_change_comes.eq (v 0) a0 a1) (by unfold F.graph_change_comes.B; repeat' first | exact App.val | exact App.no | exact App.lim | apply App.cond | apply App.guard | apply App.meet | apply App.ite | refine App.bind ?_ fun _ => ?_)) h
noncomputable def F.slices_Delete_apiEdgeapiEdge (K : Nat) (a0 : List TEdge) (a1 : Int) (a2 : Int) : Option ((List TEdge)) := evFn Try.prog sg K 168 [.sc (.own 0 none), .sc (.val (.int .i64 a1)), .sc (.val (.int .i64 a2))] [.elems sEdge a0]
noncomputable def F.slices_Delete_apiEdgeapiEdge.B (a0 : List TEdge) (a1 : Int) (a2 : Int) : Option ((List TEdge)) :=
    (guardK (decide (0 ≤ a1) && decide (a1 ≤ a2) && decide (a2 ≤ (a0.length : Int)) && decide ((a0.length : Int) ≤ (a0.length : Int))) (bif (a1 == a2) then (some a0) else (guardK (decide (0 ≤ a1) && decide (a1 ≤ (a0.length : Int))) (guardK (decide (0 ≤ a2) && decide (a2 ≤ (a0.length : Int)) && decide ((a0.length : Int) ≤ (a0.length : Int))) (guardK (decide ((a1.toNat + ((a0.take ((a0.length : Int).toNat)).drop a2.toNat).length) ≤ a0.length)) (guardK (decide (0 ≤ (((a1.toNat + ((a0.take ((a0.length : Int).toNat)).drop a2.toNat).length) - 0 : Nat) : Int)) && decide ((((a1.toNat + ((a0.take ((a0.length : Int).toNat)).drop a2.toNat).length) - 0 : Nat) : Int) ≤ (a0.length : Int)) && decide (0 + (a0.length : Int).toNat ≤ (a0.take a1.toNat ++ ((a0.take ((a0.length : Int).toNat)).drop a2.toNat) ++ a0.drop (a1.toNat + ((a0.take ((a0.length : Int).toNat)).drop a2.toNat).length)).length)) (guardK (decide ((0 + (((a1.toNat + ((a0.take ((a0.length : Int).toNat)).drop a2.toNat).length) - 0 : Nat) : Int).toNat) ≤ (0 + (a0.length : Int).toNat)) && decide ((0 + (a0.length : Int).toNat) ≤ (a0.take a1.toNat ++ ((a0.take ((a0.length : Int).toNat)).drop a2.toNat) ++ a0.drop (a1.toNat + ((a0.take ((a0.length : Int).toNat)).drop a2.toNat).length)).length)) (some (((a0.take a1.toNat ++ ((a0.take ((a0.length : Int).toNat)).drop a2.toNat) ++ a0.drop (a1.toNat + ((a0.take ((a0.length : Int).toNat)).drop a2.toNat).length)).take (0 + (((a1.toNat + ((a0.take ((a0.length : Int).toNat)).drop a2.toNat).length) - 0 : Nat) : Int).toNat) ++ List.replicate ((0 + (a0.length : Int).toNat) - (0 + (((a1.toNat + ((a0.take ((a0.length : Int).toNat)).drop a2.toNat).length) - 0 : Nat) : Int).toNat)) ((⟨#[]⟩ : ByteArray), (⟨#[]⟩ : ByteArray), (⟨#[]⟩ : ByteArray), [], []) ++ (a0.take a1.toNat ++ ((a0.take ((a0.length : Int).toNat)).drop a2.toNat) ++ a0.drop (a1.toNat + ((a0.take ((a0.length : Int).toNat)).drop a2.toNat).length)).drop (0 + (a0.length : Int).toNat)).take (a1.toNat + ((a0.take ((a0.length : Int).toNat)).drop a2.toNat).length))))))))))
theorem F.slices_Delete_apiEdgeapiEdge.eq K a0 a1 a2 : F.slices_Delete_apiEdgeapiEdge (K + 1) a0 a1 a2 = F.slices_Delete_apiEdgeapiEdge.B a0 a1 a2 := by kernel_rfl
noncomputable def V.slices_Delete_apiEdgeapiEdge (a0 : List TEdge) (a1 : Int) (a2 : Int) := lim fun v => F.slices_Delete_apiEdgeapiEdge (v 0) a0 a1 a2
theorem V.slices_Delete_apiEdgeapiEdge.of a0 a1 a2 {r} (h : F.slices_Delete_apiEdgeapiEdge.B a0 a1 a2 = some r) : V.slices_Delete_apiEdgeapiEdge a0 a1 a2 = some r :=
  App.to (App.step 0 (fun v => F.slices_Delete_apiEdgeapiEdge.eq (v 0) a0 a1 a2) (by unfold F.slices_Delete_apiEdgeapiEdge.B; repeat' first | exact App.val | exact App.no | exact App.lim | apply App.cond | apply App.guard | apply App.meet | apply App.ite | refine App.bind ?_ fun _ => ?_)) h
noncomputable def F.graph_change_goes_1 (K : Nat) (a0 : TEdge) (a1 : TOp) : Option (Bool × TOp) := evFn Try.prog sg K 170 [.agg [.val (.string a0.1), .val (.string a0.2.1), .val (.string a0.2.2.1), .list .str a0.2.2.2.1 false, .list sProp a0.2.2.2.2 false], .sc (.ref 0 0)] [.cells 53 [.val (.int .i64 a1.1), .val (.string a1.2.1), .val (.string a1.2.2.1), .val (.string a1.2.2.2.1), .val (.string a1.2.2.2.2.1), .val (.int .i64 a1.2.2.2.2.2.1), .val (.int .i64 a1.2.2.2.2.2.2.1), .val (.string a1.2.2.2.2.2.2.2)]]
noncomputable def F.graph_change_goes_1.B (a0 : TEdge) (a1 : TOp) : Option (Bool × TOp) :=
    (bif (strEq a0.2.1 a1.2.1) then (some (true, a1.1, a1.2.1, a1.2.2.1, a1.2.2.2.1, a1.2.2.2.2.1, a1.2.2.2.2.2.1, a1.2.2.2.2.2.2.1, a1.2.2.2.2.2.2.2)) else (some ((strEq a0.2.2.1 a1.2.1), a1.1, a1.2.1, a1.2.2.1, a1.2.2.2.1, a1.2.2.2.2.1, a1.2.2.2.2.2.1, a1.2.2.2.2.2.2.1, a1.2.2.2.2.2.2.2)))
theorem F.graph_change_goes_1.eq K a0 a1 : F.graph_change_goes_1 (K + 1) a0 a1 = F.graph_change_goes_1.B a0 a1 := by kernel_rfl
noncomputable def V.graph_change_goes_1 (a0 : TEdge) (a1 : TOp) := lim fun v => F.graph_change_goes_1 (v 0) a0 a1
theorem V.graph_change_goes_1.of a0 a1 {r} (h : F.graph_change_goes_1.B a0 a1 = some r) : V.graph_change_goes_1 a0 a1 = some r :=
  App.to (App.step 0 (fun v => F.graph_change_goes_1.eq (v 0) a0 a1) (by unfold F.graph_change_goes_1.B; repeat' first | exact App.val | exact App.no | exact App.lim | apply App.cond | apply App.guard | apply App.meet | apply App.ite | refine App.bind ?_ fun _ => ?_)) h
noncomputable def F.slices_IndexFunc_apiEdgeapiEdge_by_graph_change_goes_1 (K : Nat) (a0 : List TEdge) (a1_0 : TOp) : Option (Int × TOp) := evFn Try.prog sg K 202 [.sc (.list sEdge a0 false), .sc (.fn 170 [.ref 0 0])] [.cells 53 [.val (.int .i64 a1_0.1), .val (.string a1_0.2.1), .val (.string a1_0.2.2.1), .val (.string a1_0.2.2.2.1), .val (.string a1_0.2.2.2.2.1), .val (.int .i64 a1_0.2.2.2.2.2.1), .val (.int .i64 a1_0.2.2.2.2.2.2.1), .val (.string a1_0.2.2.2.2.2.2.2)]]
noncomputable def F.slices_IndexFunc_apiEdgeapiEdge_by_graph_change_goes_1.at (K : Nat) (p ns : List Nat) (s : St) : Option (Int × TOp) := atFn Try.prog sg K 202 1 p ns s
noncomputable def F.slices_IndexFunc_apiEdgeapiEdge_by_graph_change_goes_1.in (K : Nat) (H : List Nat → List Nat → St → Option (Int × TOp)) (p ns : List Nat) (s : St) : Option (Int × TOp) := inFn Try.prog sg K 202 1 [] H p ns s
theorem F.slices_IndexFunc_apiEdgeapiEdge_by_graph_change_goes_1.in_eq K p ns s : F.slices_IndexFunc_apiEdgeapiEdge_by_graph_change_goes_1.at K p ns s = F.slices_IndexFunc_apiEdgeapiEdge_by_graph_change_goes_1.in K (F.slices_IndexFunc_apiEdgeapiEdge_by_graph_change_goes_1.at K) p ns s := atFn_eq (P := Try.prog) (sg := sg) (K := K) (f := 202) (m := 1) [] p ns s
theorem F.slices_IndexFunc_apiEdgeapiEdge_by_graph_change_goes_1.in_main K a0 a1_0 : F.slices_IndexFunc_apiEdgeapiEdge_by_graph_change_goes_1 (K + 1) a0 a1_0 = F.slices_IndexFunc_apiEdgeapiEdge_by_graph_change_goes_1.in K (F.slices_IndexFunc_apiEdgeapiEdge_by_graph_change_goes_1.at K) [] [] ⟨slots [.sc (.list sEdge a0 false), .sc (.fn 170 [.ref 0 0])] 0, [.cells 53 [.val (.int .i64 a1_0.1), .val (.string a1_0.2.1), .val (.string a1_0.2.2.1), .val (.string a1_0.2.2.2.1), .val (.string a1_0.2.2.2.2.1), .val (.int .i64 a1_0.2.2.2.2.2.1), .val (.int .i64 a1_0.2.2.2.2.2.2.1), .val (.string a1_0.2.2.2.2.2.2.2)]]⟩ := evFn_eq (P := Try.prog) (sg := sg) (K := K) (f := 202) (args := [.sc (.list sEdge a0 false), .sc (.fn 170 [.ref 0 0])]) (σ := [.cells 53 [.val (.int .i64 a1_0.1), .val (.string a1_0.2.1), .val (.string a1_0.2.2.1), .val (.string a1_0.2.2.2.1), .val (.string a1_0.2.2.2.2.1), .val (.int .i64 a1_0.2.2.2.2.2.1), .val (.int .i64 a1_0.2.2.2.2.2.2.1), .val (.string a1_0.2.2.2.2.2.2.2)]]) [] (by kernel_rfl)
def F.slices_IndexFunc_apiEdgeapiEdge_by_graph_change_goes_1.l1010.st (a0 : List TEdge) (a1_0 : TOp) (x0 : Int) (x1 : Int) (x2 : ByteArray) (x3 : ByteArray) (x4 : ByteArray) (x5 : ByteArray) (x6 : Int) (x7 : Int) (x8 : ByteArray) : St := ⟨[(0, vL sEdge a0), (1, .one (.sc (.fn 170 [.ref 0 0]))), (7, vI (a0.length : Int)), (8, vI x0)], [.cells 53 [.val (.int .i64 x1), .val (.string x2), .val (.string x3), .val (.string x4), .val (.string x5), .val (.int .i64 x6), .val (.int .i64 x7), .val (.string x8)]]⟩
noncomputable def F.slices_IndexFunc_apiEdgeapiEdge_by_graph_change_goes_1.l1010 (K n0 : Nat) (a0 : List TEdge) (a1_0 : TOp) (x0 : Int) (x1 : Int) (x2 : ByteArray) (x3 : ByteArray) (x4 : ByteArray) (x5 : ByteArray) (x6 : Int) (x7 : Int) (x8 : ByteArray) := F.slices_IndexFunc_apiEdgeapiEdge_by_graph_change_goes_1.at K [1, 0, 1, 0] [n0] (F.slices_IndexFunc_apiEdgeapiEdge_by_graph_change_goes_1.l1010.st a0 a1_0 x0 x1 x2 x3 x4 x5 x6 x7 x8)
noncomputable def F.slices_IndexFunc_apiEdgeapiEdge_by_graph_change_goes_1.l1010.B (c0 : (TEdge) → (TOp) → Option (Bool × TOp)) (c1 : (List TEdge) → (TOp) → (Int) → (Int) → (ByteArray) → (ByteArray) → (ByteArray) → (ByteArray) → (Int) → (Int) → (ByteArray) → Option (Int × TOp)) (a0 : List TEdge) (a1_0 : TOp) (x0 : Int) (x1 : Int) (x2 : ByteArray) (x3 : ByteArray) (x4 : ByteArray) (x5 : ByteArray) (x6 : Int) (x7 : Int) (x8 : ByteArray) : Option (Int × TOp) :=
    (bif (decide (x0 < (a0.length : Int))) then (guardK (decide (0 ≤ x0) && decide (x0 < (a0.length : Int))) ((c0 ((rd sEdge a0 x0.toNat).1, ((rd sEdge a0 x0.toNat).2).1, (((rd sEdge a0 x0.toNat).2).2).1, ((((rd sEdge a0 x0.toNat).2).2).2).1, ((((rd sEdge a0 x0.toNat).2).2).2).2) (x1, x2, x3, x4, x5, x6, x7, x8)).bind fun t0 => (bif t0.1 then (some (x0, t0.2.1, t0.2.2.1, t0.2.2.2.1, t0.2.2.2.2.1, t0.2.2.2.2.2.1, t0.2.2.2.2.2.2.1, t0.2.2.2.2.2.2.2.1, t0.2.2.2.2.2.2.2.2)) else (c1 a0 a1_0 (w64 (x0 + 1)) t0.2.1 t0.2.2.1 t0.2.2.2.1 t0.2.2.2.2.1 t0.2.2.2.2.2.1 t0.2.2.2.2.2.2.1 t0.2.2.2.2.2.2.2.1 t0.2.2.2.2.2.2.2.2)))) else (some ((-1), x1, x2, x3, x4, x5, x6, x7, x8)))
theorem F.slices_IndexFunc_apiEdgeapiEdge_by_graph_change_goes_1.l1010.eq K n0 a0 a1_0 x0 x1 x2 x3 x4 x5 x6 x7 x8 : F.slices_IndexFunc_apiEdgeapiEdge_by_graph_change_goes_1.l1010 K (n0 + 1) a0 a1_0 x0 x1 x2 x3 x4 x5 x6 x7 x8 = F.slices_IndexFunc_apiEdgeapiEdge_by_graph_change_goes_1.l1010.B (F.graph_change_goes_1 K) (F.slices_IndexFunc_apiEdgeapiEdge_by_graph_change_goes_1.l1010 K n0) a0 a1_0 x0 x1 x2 x3 x4 x5 x6 x7 x8 := (F.slices_IndexFunc_apiEdgeapiEdge_by_graph_change_goes_1.in_eq K [1, 0, 1, 0] [n0 + 1] (F.slices_IndexFunc_apiEdgeapiEdge_by_graph_change_goes_1.l1010.st a0 a1_0 x0 x1 x2 x3 x4 x5 x6 x7 x8)).trans ((show ∀ H, F.slices_IndexFunc_apiEdgeapiEdge_by_graph_change_goes_1.in K H [1, 0, 1, 0] [n0 + 1] (F.slices_IndexFunc_apiEdgeapiEdge_by_graph_change_goes_1.l1010.st a0 a1_0 x0 x1 x2 x3 x4 x5 x6 x7 x8) = F.slices_IndexFunc_apiEdgeapiEdge_by_graph_change_goes_1.l1010.B (F.graph_change_goes_1 K) (fun a0 a1_0 x0 x1 x2 x3 x4 x5 x6 x7 x8 => H [1, 0, 1, 0] [n0] (F.slices_IndexFunc_apiEdgeapiEdge_by_graph_change_goes_1.l1010.st a0 a1_0 x0 x1 x2 x3 x4 x5 x6 x7 x8)) a0 a1_0 x0 x1 x2 x3 x4 x5 x6 x7 x8 from by intro H; kernel_rfl) (F.slices_IndexFunc_apiEdgeapiEdge_by_graph_change_goes_1.at K))
noncomputable def F.slices_IndexFunc_apiEdgeapiEdge_by_graph_change_goes_1.B (c0 : (List TEdge) → (TOp) → (Int) → (Int) → (ByteArray) → (ByteArray) → (ByteArray) → (ByteArray) → (Int) → (Int) → (ByteArray) → Option (Int × TOp)) (a0 : List TEdge) (a1_0 : TOp) : Option (Int × TOp) :=
    (c0 a0 a1_0 0 a1_0.1 a1_0.2.1 a1_0.2.2.1 a1_0.2.2.2.1 a1_0.2.2.2.2.1 a1_0.2.2.2.2.2.1 a1_0.2.2.2.2.2.2.1 a1_0.2.2.2.2.2.2.2)
theorem F.slices_IndexFunc_apiEdgeapiEdge_by_graph_change_goes_1.eq K a0 a1_0 : F.slices_IndexFunc_apiEdgeapiEdge_by_graph_change_goes_1 (K + 1) a0 a1_0 = F.slices_IndexFunc_apiEdgeapiEdge_by_graph_change_goes_1.B (F.slices_IndexFunc_apiEdgeapiEdge_by_graph_change_goes_1.l1010 K K) a0 a1_0 := (F.slices_IndexFunc_apiEdgeapiEdge_by_graph_change_goes_1.in_main K a0 a1_0).trans ((show ∀ H, F.slices_IndexFunc_apiEdgeapiEdge_by_graph_change_goes_1.in K H [] [] ⟨slots [.sc (.list sEdge a0 false), .sc (.fn 170 [.ref 0 0])] 0, [.cells 53 [.val (.int .i64 a1_0.1), .val (.string a1_0.2.1), .val (.string a1_0.2.2.1), .val (.string a1_0.2.2.2.1), .val (.string a1_0.2.2.2.2.1), .val (.int .i64 a1_0.2.2.2.2.2.1), .val (.int .i64 a1_0.2.2.2.2.2.2.1), .val (.string a1_0.2.2.2.2.2.2.2)]]⟩ = F.slices_IndexFunc_apiEdgeapiEdge_by_graph_change_goes_1.B (fun a0 a1_0 x0 x1 x2 x3 x4 x5 x6 x7 x8 => H [1, 0, 1, 0] [K] (F.slices_IndexFunc_apiEdgeapiEdge_by_graph_change_goes_1.l1010.st a0 a1_0 x0 x1 x2 x3 x4 x5 x6 x7 x8)) a0 a1_0 from by intro H; kernel_rfl) (F.slices_IndexFunc_apiEdgeapiEdge_by_graph_change_goes_1.at K))
noncomputable def V.slices_IndexFunc_apiEdgeapiEdge_by_graph_change_goes_1.l1010 (a0 : List TEdge) (a1_0 : TOp) (x0 : Int) (x1 : Int) (x2 : ByteArray) (x3 : ByteArray) (x4 : ByteArray) (x5 : ByteArray) (x6 : Int) (x7 : Int) (x8 : ByteArray) := lim fun v => F.slices_IndexFunc_apiEdgeapiEdge_by_graph_change_goes_1.l1010 (v 0) (v 1) a0 a1_0 x0 x1 x2 x3 x4 x5 x6 x7 x8
noncomputable def V.slices_IndexFunc_apiEdgeapiEdge_by_graph_change_goes_1 (a0 : List TEdge) (a1_0 : TOp) := lim fun v => F.slices_IndexFunc_apiEdgeapiEdge_by_graph_change_goes_1 (v 0) a0 a1_0
theorem V.slices_IndexFunc_apiEdgeapiEdge_by_graph_change_goes_1.l1010.of a0 a1_0 x0 x1 x2 x3 x4 x5 x6 x7 x8 {r} (h : F.slices_IndexFunc_apiEdgeapiEdge_by_graph_change_goes_1.l1010.B V.graph_change_goes_1 V.slices_IndexFunc_apiEdgeapiEdge_by_graph_change_goes_1.l1010 a0 a1_0 x0 x1 x2 x3 x4 x5 x6 x7 x8 = some r) : V.slices_IndexFunc_apiEdgeapiEdge_by_graph_change_goes_1.l1010 a0 a1_0 x0 x1 x2 x3 x4 x5 x6 x7 x8 = some r :=
  App.to (App.step 1 (fun v => F.slices_IndexFunc_apiEdgeapiEdge_by_graph_change_goes_1.l1010.eq (v 0) (v 1) a0 a1_0 x0 x1 x2 x3 x4 x5 x6 x7 x8) (by unfold F.slices_IndexFunc_apiEdgeapiEdge_by_graph_change_goes_1.l1010.B; repeat' first | exact App.val | exact App.no | exact App.lim | apply App.cond | apply App.guard | apply App.meet | apply App.ite | refine App.bind ?_ fun _ => ?_)) h
theorem V.slices_IndexFunc_apiEdgeapiEdge_by_graph_change_goes_1.of a0 a1_0 {r} (h : F.slices_IndexFunc_apiEdgeapiEdge_by_graph_change_goes_1.B V.slices_IndexFunc_apiEdgeapiEdge_by_graph_change_goes_1.l1010 a0 a1_0 = some r) : V.slices_IndexFunc_apiEdgeapiEdge_by_graph_change_goes_1 a0 a1_0 = some r :=
  App.to (App.step 0 (fun v => F.slices_IndexFunc_apiEdgeapiEdge_by_graph_change_goes_1.eq (v 0) a0 a1_0) (by unfold F.slices_IndexFunc_apiEdgeapiEdge_by_graph_change_goes_1.B; repeat' first | exact App.val | exact App.no | exact App.lim | exact (App.enter 1 App.lim) | apply App.cond | apply App.guard | apply App.meet | apply App.ite | refine App.bind ?_ fun _ => ?_)) h
noncomputable def F.slices_ContainsFunc_apiEdgeapiEdge_by_graph_change_goes_1 (K : Nat) (a0 : List TEdge) (a1_0 : TOp) : Option (Bool × TOp) := evFn Try.prog sg K 169 [.sc (.list sEdge a0 false), .sc (.fn 170 [.ref 0 0])] [.cells 53 [.val (.int .i64 a1_0.1), .val (.string a1_0.2.1), .val (.string a1_0.2.2.1), .val (.string a1_0.2.2.2.1), .val (.string a1_0.2.2.2.2.1), .val (.int .i64 a1_0.2.2.2.2.2.1), .val (.int .i64 a1_0.2.2.2.2.2.2.1), .val (.string a1_0.2.2.2.2.2.2.2)]]
noncomputable def F.slices_ContainsFunc_apiEdgeapiEdge_by_graph_change_goes_1.B (c0 : (List TEdge) → (TOp) → Option (Int × TOp)) (a0 : List TEdge) (a1_0 : TOp) : Option (Bool × TOp) :=
    ((c0 a0 (a1_0.1, a1_0.2.1, a1_0.2.2.1, a1_0.2.2.2.1, a1_0.2.2.2.2.1, a1_0.2.2.2.2.2.1, a1_0.2.2.2.2.2.2.1, a1_0.2.2.2.2.2.2.2)).bind fun t0 => (some ((decide (t0.1 ≥ 0)), t0.2.1, t0.2.2.1, t0.2.2.2.1, t0.2.2.2.2.1, t0.2.2.2.2.2.1, t0.2.2.2.2.2.2.1, t0.2.2.2.2.2.2.2.1, t0.2.2.2.2.2.2.2.2)))
theorem F.slices_ContainsFunc_apiEdgeapiEdge_by_graph_change_goes_1.eq K a0 a1_0 : F.slices_ContainsFunc_apiEdgeapiEdge_by_graph_change_goes_1 (K + 1) a0 a1_0 = F.slices_ContainsFunc_apiEdgeapiEdge_by_graph_change_goes_1.B (F.slices_IndexFunc_apiEdgeapiEdge_by_graph_change_goes_1 K) a0 a1_0 := by kernel_rfl
noncomputable def V.slices_ContainsFunc_apiEdgeapiEdge_by_graph_change_goes_1 (a0 : List TEdge) (a1_0 : TOp) := lim fun v => F.slices_ContainsFunc_apiEdgeapiEdge_by_graph_change_goes_1 (v 0) a0 a1_0
theorem V.slices_ContainsFunc_apiEdgeapiEdge_by_graph_change_goes_1.of a0 a1_0 {r} (h : F.slices_ContainsFunc_apiEdgeapiEdge_by_graph_change_goes_1.B V.slices_IndexFunc_apiEdgeapiEdge_by_graph_change_goes_1 a0 a1_0 = some r) : V.slices_ContainsFunc_apiEdgeapiEdge_by_graph_change_goes_1 a0 a1_0 = some r :=
  App.to (App.step 0 (fun v => F.slices_ContainsFunc_apiEdgeapiEdge_by_graph_change_goes_1.eq (v 0) a0 a1_0) (by unfold F.slices_ContainsFunc_apiEdgeapiEdge_by_graph_change_goes_1.B; repeat' first | exact App.val | exact App.no | exact App.lim | apply App.cond | apply App.guard | apply App.meet | apply App.ite | refine App.bind ?_ fun _ => ?_)) h
noncomputable def F.slices_Delete_apiNodeapiNode (K : Nat) (a0 : List TNode) (a1 : Int) (a2 : Int) : Option ((List TNode)) := evFn Try.prog sg K 171 [.sc (.own 0 none), .sc (.val (.int .i64 a1)), .sc (.val (.int .i64 a2))] [.elems sNode a0]
noncomputable def F.slices_Delete_apiNodeapiNode.B (a0 : List TNode) (a1 : Int) (a2 : Int) : Option ((List TNode)) :=
    (guardK (decide (0 ≤ a1) && decide (a1 ≤ a2) && decide (a2 ≤ (a0.length : Int)) && decide ((a0.length : Int) ≤ (a0.length : Int))) (bif (a1 == a2) then (some a0) else (guardK (decide (0 ≤ a1) && decide (a1 ≤ (a0.length : Int))) (guardK (decide (0 ≤ a2) && decide (a2 ≤ (a0.length : Int)) && decide ((a0.length : Int) ≤ (a0.length : Int))) (guardK (decide ((a1.toNat + ((a0.take ((a0.length : Int).toNat)).drop a2.toNat).length) ≤ a0.length)) (guardK (decide (0 ≤ (((a1.toNat + ((a0.take ((a0.length : Int).toNat)).drop a2.toNat).length) - 0 : Nat) : Int)) && decide ((((a1.toNat + ((a0.take ((a0.length : Int).toNat)).drop a2.toNat).length) - 0 : Nat) : Int) ≤ (a0.length : Int)) && decide (0 + (a0.length : Int).toNat ≤ (a0.take a1.toNat ++ ((a0.take ((a0.length : Int).toNat)).drop a2.toNat) ++ a0.drop (a1.toNat + ((a0.take ((a0.length : Int).toNat)).drop a2.toNat).length)).length)) (guardK (decide ((0 + (((a1.toNat + ((a0.take ((a0.length : Int).toNat)).drop a2.toNat).length) - 0 : Nat) : Int).toNat) ≤ (0 + (a0.length : Int).toNat)) && decide ((0 + (a0.length : Int).toNat) ≤ (a0.take a1.toNat ++ ((a0.take ((a0.length : Int).toNat)).drop a2.toNat) ++ a0.drop (a1.toNat + ((a0.take ((a0.length : Int).toNat)).drop a2.toNat).length)).length)) (some (((a0.take a1.toNat ++ ((a0.take ((a0.length : Int).toNat)).drop a2.toNat) ++ a0.drop (a1.toNat + ((a0.take ((a0.length : Int).toNat)).drop a2.toNat).length)).take (0 + (((a1.toNat + ((a0.take ((a0.length : Int).toNat)).drop a2.toNat).length) - 0 : Nat) : Int).toNat) ++ List.replicate ((0 + (a0.length : Int).toNat) - (0 + (((a1.toNat + ((a0.take ((a0.length : Int).toNat)).drop a2.toNat).length) - 0 : Nat) : Int).toNat)) ((⟨#[]⟩ : ByteArray), [], []) ++ (a0.take a1.toNat ++ ((a0.take ((a0.length : Int).toNat)).drop a2.toNat) ++ a0.drop (a1.toNat + ((a0.take ((a0.length : Int).toNat)).drop a2.toNat).length)).drop (0 + (a0.length : Int).toNat)).take (a1.toNat + ((a0.take ((a0.length : Int).toNat)).drop a2.toNat).length))))))))))
theorem F.slices_Delete_apiNodeapiNode.eq K a0 a1 a2 : F.slices_Delete_apiNodeapiNode (K + 1) a0 a1 a2 = F.slices_Delete_apiNodeapiNode.B a0 a1 a2 := by kernel_rfl
noncomputable def V.slices_Delete_apiNodeapiNode (a0 : List TNode) (a1 : Int) (a2 : Int) := lim fun v => F.slices_Delete_apiNodeapiNode (v 0) a0 a1 a2
theorem V.slices_Delete_apiNodeapiNode.of a0 a1 a2 {r} (h : F.slices_Delete_apiNodeapiNode.B a0 a1 a2 = some r) : V.slices_Delete_apiNodeapiNode a0 a1 a2 = some r :=
  App.to (App.step 0 (fun v => F.slices_Delete_apiNodeapiNode.eq (v 0) a0 a1 a2) (by unfold F.slices_Delete_apiNodeapiNode.B; repeat' first | exact App.val | exact App.no | exact App.lim | apply App.cond | apply App.guard | apply App.meet | apply App.ite | refine App.bind ?_ fun _ => ?_)) h
noncomputable def F.graph_change_goes (K : Nat) (a0 : TGraph) (a1 : TOp) : Option (Int × TGraph) := evFn Try.prog sg K 133 [.sc (.ref 0 0), .agg [.val (.int .i64 a1.1), .val (.string a1.2.1), .val (.string a1.2.2.1), .val (.string a1.2.2.2.1), .val (.string a1.2.2.2.2.1), .val (.int .i64 a1.2.2.2.2.2.1), .val (.int .i64 a1.2.2.2.2.2.2.1), .val (.string a1.2.2.2.2.2.2.2)]] [.cells 130 [.own 1 none, .own 2 none], .elems sNode a0.1, .elems sEdge a0.2]
noncomputable def F.graph_change_goes.B (c0 : (TGraph) → (ByteArray) → Option (Int × Bool)) (c1 : (List TEdge) → (Int) → (Int) → Option ((List TEdge))) (c2 : (TGraph) → (ByteArray) → Option (Int × Bool)) (c3 : (List TEdge) → (TOp) → Option (Bool × TOp)) (c4 : (List TNode) → (Int) → (Int) → Option ((List TNode))) (a0 : TGraph) (a1 : TOp) : Option (Int × TGraph) :=
    (bif (a1.1 == 4) then ((c0 (a0.1, a0.2) a1.2.1).bind fun t0 => (bif (!t0.2) then (some (9, a0.1, a0.2)) else ((c1 a0.2 t0.1 (w64 (t0.1 + 1))).bind fun t1 => (some (0, a0.1, t1))))) else ((c2 (a0.1, a0.2) a1.2.1).bind fun t2 => (bif (!t2.2) then (some (9, a0.1, a0.2)) else ((c3 a0.2 (a1.1, a1.2.1, a1.2.2.1, a1.2.2.2.1, a1.2.2.2.2.1, a1.2.2.2.2.2.1, a1.2.2.2.2.2.2.1, a1.2.2.2.2.2.2.2)).bind fun t3 => (bif t3.1 then (some (11, a0.1, a0.2)) else ((c4 a0.1 t2.1 (w64 (t2.1 + 1))).bind fun t4 => (some (0, t4, a0.2))))))))
theorem F.graph_change_goes.eq K a0 a1 : F.graph_change_goes (K + 1) a0 a1 = F.graph_change_goes.B (F.graph_edge K) (F.slices_Delete_apiEdgeapiEdge K) (F.graph_node K) (F.slices_ContainsFunc_apiEdgeapiEdge_by_graph_change_goes_1 K) (F.slices_Delete_apiNodeapiNode K) a0 a1 := by kernel_rfl
noncomputable def V.graph_change_goes (a0 : TGraph) (a1 : TOp) := lim fun v => F.graph_change_goes (v 0) a0 a1
theorem V.graph_change_goes.of a0 a1 {r} (h : F.graph_change_goes.B V.graph_edge V.slices_Delete_apiEdgeapiEdge V.graph_node V.slices_ContainsFunc_apiEdgeapiEdge_by_graph_change_goes_1 V.slices_Delete_apiNodeapiNode a0 a1 = some r) : V.graph_change_goes a0 a1 = some r :=
  App.to (App.step 0 (fun v => F.graph_change_goes.eq (v 0) a0 a1) (by unfold F.graph_change_goes.B; repeat' first | exact App.val | exact App.no | exact App.lim | apply App.cond | apply App.guard | apply App.meet | apply App.ite | refine App.bind ?_ fun _ => ?_)) h
noncomputable def F.graph_OfEdge (K : Nat) (a0 : Int) : Option (Bool) := evFn Try.prog sg K 35 [.sc (.val (.int .i64 a0))] []
noncomputable def F.graph_OfEdge.B (a0 : Int) : Option (Bool) :=
    (bif (a0 == 7) then (bif (a0 == 7) then (some true) else (some false)) else (bif (a0 == 8) then (bif (a0 == 8) then (some true) else (some false)) else (bif (a0 == 11) then (bif (a0 == 11) then (some true) else (some false)) else (bif (a0 == 12) then (some true) else (some false)))))
theorem F.graph_OfEdge.eq K a0 : F.graph_OfEdge (K + 1) a0 = F.graph_OfEdge.B a0 := by kernel_rfl
noncomputable def V.graph_OfEdge (a0 : Int) := lim fun v => F.graph_OfEdge (v 0) a0
theorem V.graph_OfEdge.of a0 {r} (h : F.graph_OfEdge.B a0 = some r) : V.graph_OfEdge a0 = some r :=
  App.to (App.step 0 (fun v => F.graph_OfEdge.eq (v 0) a0) (by unfold F.graph_OfEdge.B; repeat' first | exact App.val | exact App.no | exact App.lim | apply App.cond | apply App.guard | apply App.meet | apply App.ite | refine App.bind ?_ fun _ => ?_)) h
noncomputable def F.cmp_Less_string (K : Nat) (a0 : ByteArray) (a1 : ByteArray) : Option (Bool) := evFn Try.prog sg K 223 [.sc (.val (.string a0)), .sc (.val (.string a1))] []
noncomputable def F.cmp_Less_string.B (c0 : (ByteArray) → Option (Bool)) (a0 : ByteArray) (a1 : ByteArray) : Option (Bool) :=
    ((c0 a0).bind fun t0 => (bif t0 then ((c0 a1).bind fun t1 => (bif (!t1) then (some true) else (some (strLt a0 a1)))) else (some (strLt a0 a1))))
theorem F.cmp_Less_string.eq K a0 a1 : F.cmp_Less_string (K + 1) a0 a1 = F.cmp_Less_string.B (F.cmp_isNaN_string K) a0 a1 := by kernel_rfl
noncomputable def V.cmp_Less_string (a0 : ByteArray) (a1 : ByteArray) := lim fun v => F.cmp_Less_string (v 0) a0 a1
theorem V.cmp_Less_string.of a0 a1 {r} (h : F.cmp_Less_string.B V.cmp_isNaN_string a0 a1 = some r) : V.cmp_Less_string a0 a1 = some r :=
  App.to (App.step 0 (fun v => F.cmp_Less_string.eq (v 0) a0 a1) (by unfold F.cmp_Less_string.B; repeat' first | exact App.val | exact App.no | exact App.lim | apply App.cond | apply App.guard | apply App.meet | apply App.ite | refine App.bind ?_ fun _ => ?_)) h
noncomputable def F.slices_isNaN_string (K : Nat) (a0 : ByteArray) : Option (Bool) := evFn Try.prog sg K 224 [.sc (.val (.string a0))] []
noncomputable def F.slices_isNaN_string.B (a0 : ByteArray) : Option (Bool) :=
    (some (!strEq a0 a0))
theorem F.slices_isNaN_string.eq K a0 : F.slices_isNaN_string (K + 1) a0 = F.slices_isNaN_string.B a0 := by kernel_rfl
noncomputable def V.slices_isNaN_string (a0 : ByteArray) := lim fun v => F.slices_isNaN_string (v 0) a0
theorem V.slices_isNaN_string.of a0 {r} (h : F.slices_isNaN_string.B a0 = some r) : V.slices_isNaN_string a0 = some r :=
  App.to (App.step 0 (fun v => F.slices_isNaN_string.eq (v 0) a0) (by unfold F.slices_isNaN_string.B; repeat' first | exact App.val | exact App.no | exact App.lim | apply App.cond | apply App.guard | apply App.meet | apply App.ite | refine App.bind ?_ fun _ => ?_)) h
noncomputable def F.slices_BinarySearch_stringstring (K : Nat) (a0 : List ByteArray) (a1 : ByteArray) : Option (Int × Bool) := evFn Try.prog sg K 193 [.sc (.list .str a0 false), .sc (.val (.string a1))] []
noncomputable def F.slices_BinarySearch_stringstring.at (K : Nat) (p ns : List Nat) (s : St) : Option (Int × Bool) := atFn Try.prog sg K 193 0 p ns s
noncomputable def F.slices_BinarySearch_stringstring.in (K : Nat) (H : List Nat → List Nat → St → Option (Int × Bool)) (p ns : List Nat) (s : St) : Option (Int × Bool) := inFn Try.prog sg K 193 0 [] H p ns s
theorem F.slices_BinarySearch_stringstring.in_eq K p ns s : F.slices_BinarySearch_stringstring.at K p ns s = F.slices_BinarySearch_stringstring.in K (F.slices_BinarySearch_stringstring.at K) p ns s := atFn_eq (P := Try.prog) (sg := sg) (K := K) (f := 193) (m := 0) [] p ns s
theorem F.slices_BinarySearch_stringstring.in_main K a0 a1 : F.slices_BinarySearch_stringstring (K + 1) a0 a1 = F.slices_BinarySearch_stringstring.in K (F.slices_BinarySearch_stringstring.at K) [] [] ⟨slots [.sc (.list .str a0 false), .sc (.val (.string a1))] 0, []⟩ := evFn_eq (P := Try.prog) (sg := sg) (K := K) (f := 193) (args := [.sc (.list .str a0 false), .sc (.val (.string a1))]) (σ := []) [] (by kernel_rfl)
def F.slices_BinarySearch_stringstring.l11100.st (a0 : List ByteArray) (a1 : ByteArray) (x0 : Int) (x1 : Int) : St := ⟨[(0, vL .str a0), (1, vS a1), (6, vI (a0.length : Int)), (7, vI x0), (8, vI x1)], []⟩
noncomputable def F.slices_BinarySearch_stringstring.l11100 (K n0 : Nat) (a0 : List ByteArray) (a1 : ByteArray) (x0 : Int) (x1 : Int) := F.slices_BinarySearch_stringstring.at K [1, 1, 1, 0, 0] [n0] (F.slices_BinarySearch_stringstring.l11100.st a0 a1 x0 x1)
noncomputable def F.slices_BinarySearch_stringstring.l11100.B (c0 : (ByteArray) → (ByteArray) → Option (Bool)) (c1 : (List ByteArray) → (ByteArray) → (Int) → (Int) → Option (Int × Bool)) (c2 : (ByteArray) → Option (Bool)) (a0 : List ByteArray) (a1 : ByteArray) (x0 : Int) (x1 : Int) : Option (Int × Bool) :=
    (bif (decide (x0 < x1)) then (guardK (decide (0 ≤ (w64 (Int.fdiv (IntKind.wrap .u64 (w64 (x0 + x1))) (2 ^ 1)))) && decide ((w64 (Int.fdiv (IntKind.wrap .u64 (w64 (x0 + x1))) (2 ^ 1))) < (a0.length : Int))) ((c0 (rd .str a0 ((w64 (Int.fdiv (IntKind.wrap .u64 (w64 (x0 + x1))) (2 ^ 1))).toNat)) a1).bind fun t0 => (bif t0 then (c1 a0 a1 (w64 ((w64 (Int.fdiv (IntKind.wrap .u64 (w64 (x0 + x1))) (2 ^ 1))) + 1)) x1) else (c1 a0 a1 x0 (w64 (Int.fdiv (IntKind.wrap .u64 (w64 (x0 + x1))) (2 ^ 1))))))) else (bif (decide (x0 < (a0.length : Int))) then (guardK (decide (0 ≤ x0) && decide (x0 < (a0.length : Int))) (bif (strEq (rd .str a0 x0.toNat) a1) then (some (x0, true)) else (guardK (decide (0 ≤ x0) && decide (x0 < (a0.length : Int))) ((c2 (rd .str a0 x0.toNat)).bind fun t1 => (bif t1 then ((c2 a1).bind fun t2 => (some (x0, t2))) else (some (x0, false))))))) else (some (x0, false))))
theorem F.slices_BinarySearch_stringstring.l11100.eq K n0 a0 a1 x0 x1 : F.slices_BinarySearch_stringstring.l11100 K (n0 + 1) a0 a1 x0 x1 = F.slices_BinarySearch_stringstring.l11100.B (F.cmp_Less_string K) (F.slices_BinarySearch_stringstring.l11100 K n0) (F.slices_isNaN_string K) a0 a1 x0 x1 := (F.slices_BinarySearch_stringstring.in_eq K [1, 1, 1, 0, 0] [n0 + 1] (F.slices_BinarySearch_stringstring.l11100.st a0 a1 x0 x1)).trans ((show ∀ H, F.slices_BinarySearch_stringstring.in K H [1, 1, 1, 0, 0] [n0 + 1] (F.slices_BinarySearch_stringstring.l11100.st a0 a1 x0 x1) = F.slices_BinarySearch_stringstring.l11100.B (F.cmp_Less_string K) (fun a0 a1 x0 x1 => H [1, 1, 1, 0, 0] [n0] (F.slices_BinarySearch_stringstring.l11100.st a0 a1 x0 x1)) (F.slices_isNaN_string K) a0 a1 x0 x1 from by intro H; kernel_rfl) (F.slices_BinarySearch_stringstring.at K))
noncomputable def F.slices_BinarySearch_stringstring.B (c0 : (List ByteArray) → (ByteArray) → (Int) → (Int) → Option (Int × Bool)) (a0 : List ByteArray) (a1 : ByteArray) : Option (Int × Bool) :=
    (c0 a0 a1 0 (a0.length : Int))
theorem F.slices_BinarySearch_stringstring.eq K a0 a1 : F.slices_BinarySearch_stringstring (K + 1) a0 a1 = F.slices_BinarySearch_stringstring.B (F.slices_BinarySearch_stringstring.l11100 K K) a0 a1 := (F.slices_BinarySearch_stringstring.in_main K a0 a1).trans ((show ∀ H, F.slices_BinarySearch_stringstring.in K H [] [] ⟨slots [.sc (.list .str a0 false), .sc (.val (.string a1))] 0, []⟩ = F.slices_BinarySearch_stringstring.B (fun a0 a1 x0 x1 => H [1, 1, 1, 0, 0] [K] (F.slices_BinarySearch_stringstring.l11100.st a0 a1 x0 x1)) a0 a1 from by intro H; kernel_rfl) (F.slices_BinarySearch_stringstring.at K))
noncomputable def V.slices_BinarySearch_stringstring.l11100 (a0 : List ByteArray) (a1 : ByteArray) (x0 : Int) (x1 : Int) := lim fun v => F.slices_BinarySearch_stringstring.l11100 (v 0) (v 1) a0 a1 x0 x1
noncomputable def V.slices_BinarySearch_stringstring (a0 : List ByteArray) (a1 : ByteArray) := lim fun v => F.slices_BinarySearch_stringstring (v 0) a0 a1
theorem V.slices_BinarySearch_stringstring.l11100.of a0 a1 x0 x1 {r} (h : F.slices_BinarySearch_stringstring.l11100.B V.cmp_Less_string V.slices_BinarySearch_stringstring.l11100 V.slices_isNaN_string a0 a1 x0 x1 = some r) : V.slices_BinarySearch_stringstring.l11100 a0 a1 x0 x1 = some r :=
  App.to (App.step 1 (fun v => F.slices_BinarySearch_stringstring.l11100.eq (v 0) (v 1) a0 a1 x0 x1) (by unfold F.slices_BinarySearch_stringstring.l11100.B; repeat' first | exact App.val | exact App.no | exact App.lim | apply App.cond | apply App.guard | apply App.meet | apply App.ite | refine App.bind ?_ fun _ => ?_)) h
theorem V.slices_BinarySearch_stringstring.of a0 a1 {r} (h : F.slices_BinarySearch_stringstring.B V.slices_BinarySearch_stringstring.l11100 a0 a1 = some r) : V.slices_BinarySearch_stringstring a0 a1 = some r :=
  App.to (App.step 0 (fun v => F.slices_BinarySearch_stringstring.eq (v 0) a0 a1) (by unfold F.slices_BinarySearch_stringstring.B; repeat' first | exact App.val | exact App.no | exact App.lim | exact (App.enter 1 App.lim) | apply App.cond | apply App.guard | apply App.meet | apply App.ite | refine App.bind ?_ fun _ => ?_)) h
noncomputable def F.name_Find (K : Nat) (a0 : List ByteArray) (a1 : ByteArray) : Option (Int × Bool) := evFn Try.prog sg K 161 [.sc (.list .str a0 false), .sc (.val (.string a1))] []
noncomputable def F.name_Find.B (c0 : (List ByteArray) → (ByteArray) → Option (Int × Bool)) (a0 : List ByteArray) (a1 : ByteArray) : Option (Int × Bool) :=
    ((c0 a0 a1).bind fun t0 => (some (t0.1, t0.2)))
theorem F.name_Find.eq K a0 a1 : F.name_Find (K + 1) a0 a1 = F.name_Find.B (F.slices_BinarySearch_stringstring K) a0 a1 := by kernel_rfl
noncomputable def V.name_Find (a0 : List ByteArray) (a1 : ByteArray) := lim fun v => F.name_Find (v 0) a0 a1
theorem V.name_Find.of a0 a1 {r} (h : F.name_Find.B V.slices_BinarySearch_stringstring a0 a1 = some r) : V.name_Find a0 a1 = some r :=
  App.to (App.step 0 (fun v => F.name_Find.eq (v 0) a0 a1) (by unfold F.name_Find.B; repeat' first | exact App.val | exact App.no | exact App.lim | apply App.cond | apply App.guard | apply App.meet | apply App.ite | refine App.bind ?_ fun _ => ?_)) h
noncomputable def F.slices_Insert_stringstring (K : Nat) (a0 : List ByteArray) (a1 : Int) (a2 : List ByteArray) : Option (List ByteArray) := evFn Try.prog sg K 162 [.sc (.own 0 none), .sc (.val (.int .i64 a1)), .sc (.own 1 none)] [.elems .str a0, .elems .str a2]
noncomputable def F.slices_Insert_stringstring.B (a0 : List ByteArray) (a1 : Int) (a2 : List ByteArray) : Option (List ByteArray) :=
    (insB a0 a1 a2)
theorem F.slices_Insert_stringstring.eq K a0 a1 a2 : F.slices_Insert_stringstring (K + 1) a0 a1 a2 = F.slices_Insert_stringstring.B a0 a1 a2 := by kernel_rfl
noncomputable def V.slices_Insert_stringstring (a0 : List ByteArray) (a1 : Int) (a2 : List ByteArray) := lim fun v => F.slices_Insert_stringstring (v 0) a0 a1 a2
theorem V.slices_Insert_stringstring.of a0 a1 a2 {r} (h : F.slices_Insert_stringstring.B a0 a1 a2 = some r) : V.slices_Insert_stringstring a0 a1 a2 = some r :=
  App.to (App.step 0 (fun v => F.slices_Insert_stringstring.eq (v 0) a0 a1 a2) App.const) h
noncomputable def F.name_With (K : Nat) (a0 : List ByteArray) (a1 : ByteArray) : Option ((List ByteArray) × Bool) := evFn Try.prog sg K 124 [.sc (.list .str a0 false), .sc (.val (.string a1))] []
noncomputable def F.name_With.B (c0 : (List ByteArray) → (ByteArray) → Option (Int × Bool)) (c1 : (List ByteArray) → Option ((List ByteArray))) (c2 : (List ByteArray) → (Int) → (List ByteArray) → Option ((List ByteArray))) (a0 : List ByteArray) (a1 : ByteArray) : Option ((List ByteArray) × Bool) :=
    ((c0 a0 a1).bind fun t0 => (bif t0.2 then ((c1 a0).bind fun t1 => (some (t1, false))) else ((c1 a0).bind fun t2 => ((c2 t2 t0.1 ([a1])).bind fun t3 => (some (t3, true))))))
theorem F.name_With.eq K a0 a1 : F.name_With (K + 1) a0 a1 = F.name_With.B (F.name_Find K) (F.slices_Clone_stringstring K) (F.slices_Insert_stringstring K) a0 a1 := by kernel_rfl
noncomputable def V.name_With (a0 : List ByteArray) (a1 : ByteArray) := lim fun v => F.name_With (v 0) a0 a1
theorem V.name_With.of a0 a1 {r} (h : F.name_With.B V.name_Find V.slices_Clone_stringstring V.slices_Insert_stringstring a0 a1 = some r) : V.name_With a0 a1 = some r :=
  App.to (App.step 0 (fun v => F.name_With.eq (v 0) a0 a1) (by unfold F.name_With.B; repeat' first | exact App.val | exact App.no | exact App.lim | apply App.cond | apply App.guard | apply App.meet | apply App.ite | refine App.bind ?_ fun _ => ?_)) h
noncomputable def F.elem_Label (K : Nat) (a0 : List ByteArray) (a1 : ByteArray) : Option ((List ByteArray) × Int) := evFn Try.prog sg K 75 [.sc (.list .str a0 false), .sc (.val (.string a1))] []
noncomputable def F.elem_Label.B (c0 : (ByteArray) → Option (Int)) (c1 : (List ByteArray) → (ByteArray) → Option ((List ByteArray) × Bool)) (a0 : List ByteArray) (a1 : ByteArray) : Option ((List ByteArray) × Int) :=
    ((c0 a1).bind fun t0 => (bif (t0 != 0) then (some ([], t0)) else ((c1 a0 a1).bind fun t1 => (bif (!t1.2) then (some ([], 10)) else (bif (decide ((t1.1.length : Int) > 8)) then (some ([], 5)) else (some (t1.1, 0)))))))
theorem F.elem_Label.eq K a0 a1 : F.elem_Label (K + 1) a0 a1 = F.elem_Label.B (F.name_Check K) (F.name_With K) a0 a1 := by kernel_rfl
noncomputable def V.elem_Label (a0 : List ByteArray) (a1 : ByteArray) := lim fun v => F.elem_Label (v 0) a0 a1
theorem V.elem_Label.of a0 a1 {r} (h : F.elem_Label.B V.name_Check V.name_With a0 a1 = some r) : V.elem_Label a0 a1 = some r :=
  App.to (App.step 0 (fun v => F.elem_Label.eq (v 0) a0 a1) (by unfold F.elem_Label.B; repeat' first | exact App.val | exact App.no | exact App.lim | apply App.cond | apply App.guard | apply App.meet | apply App.ite | refine App.bind ?_ fun _ => ?_)) h
noncomputable def F.slices_Delete_stringstring (K : Nat) (a0 : List ByteArray) (a1 : Int) (a2 : Int) : Option ((List ByteArray)) := evFn Try.prog sg K 163 [.sc (.own 0 none), .sc (.val (.int .i64 a1)), .sc (.val (.int .i64 a2))] [.elems .str a0]
noncomputable def F.slices_Delete_stringstring.B (a0 : List ByteArray) (a1 : Int) (a2 : Int) : Option ((List ByteArray)) :=
    (guardK (decide (0 ≤ a1) && decide (a1 ≤ a2) && decide (a2 ≤ (a0.length : Int)) && decide ((a0.length : Int) ≤ (a0.length : Int))) (bif (a1 == a2) then (some a0) else (guardK (decide (0 ≤ a1) && decide (a1 ≤ (a0.length : Int))) (guardK (decide (0 ≤ a2) && decide (a2 ≤ (a0.length : Int)) && decide ((a0.length : Int) ≤ (a0.length : Int))) (guardK (decide ((a1.toNat + ((a0.take ((a0.length : Int).toNat)).drop a2.toNat).length) ≤ a0.length)) (guardK (decide (0 ≤ (((a1.toNat + ((a0.take ((a0.length : Int).toNat)).drop a2.toNat).length) - 0 : Nat) : Int)) && decide ((((a1.toNat + ((a0.take ((a0.length : Int).toNat)).drop a2.toNat).length) - 0 : Nat) : Int) ≤ (a0.length : Int)) && decide (0 + (a0.length : Int).toNat ≤ (a0.take a1.toNat ++ ((a0.take ((a0.length : Int).toNat)).drop a2.toNat) ++ a0.drop (a1.toNat + ((a0.take ((a0.length : Int).toNat)).drop a2.toNat).length)).length)) (guardK (decide ((0 + (((a1.toNat + ((a0.take ((a0.length : Int).toNat)).drop a2.toNat).length) - 0 : Nat) : Int).toNat) ≤ (0 + (a0.length : Int).toNat)) && decide ((0 + (a0.length : Int).toNat) ≤ (a0.take a1.toNat ++ ((a0.take ((a0.length : Int).toNat)).drop a2.toNat) ++ a0.drop (a1.toNat + ((a0.take ((a0.length : Int).toNat)).drop a2.toNat).length)).length)) (some (((a0.take a1.toNat ++ ((a0.take ((a0.length : Int).toNat)).drop a2.toNat) ++ a0.drop (a1.toNat + ((a0.take ((a0.length : Int).toNat)).drop a2.toNat).length)).take (0 + (((a1.toNat + ((a0.take ((a0.length : Int).toNat)).drop a2.toNat).length) - 0 : Nat) : Int).toNat) ++ List.replicate ((0 + (a0.length : Int).toNat) - (0 + (((a1.toNat + ((a0.take ((a0.length : Int).toNat)).drop a2.toNat).length) - 0 : Nat) : Int).toNat)) (⟨#[]⟩ : ByteArray) ++ (a0.take a1.toNat ++ ((a0.take ((a0.length : Int).toNat)).drop a2.toNat) ++ a0.drop (a1.toNat + ((a0.take ((a0.length : Int).toNat)).drop a2.toNat).length)).drop (0 + (a0.length : Int).toNat)).take (a1.toNat + ((a0.take ((a0.length : Int).toNat)).drop a2.toNat).length))))))))))
theorem F.slices_Delete_stringstring.eq K a0 a1 a2 : F.slices_Delete_stringstring (K + 1) a0 a1 a2 = F.slices_Delete_stringstring.B a0 a1 a2 := by kernel_rfl
noncomputable def V.slices_Delete_stringstring (a0 : List ByteArray) (a1 : Int) (a2 : Int) := lim fun v => F.slices_Delete_stringstring (v 0) a0 a1 a2
theorem V.slices_Delete_stringstring.of a0 a1 a2 {r} (h : F.slices_Delete_stringstring.B a0 a1 a2 = some r) : V.slices_Delete_stringstring a0 a1 a2 = some r :=
  App.to (App.step 0 (fun v => F.slices_Delete_stringstring.eq (v 0) a0 a1 a2) (by unfold F.slices_Delete_stringstring.B; repeat' first | exact App.val | exact App.no | exact App.lim | apply App.cond | apply App.guard | apply App.meet | apply App.ite | refine App.bind ?_ fun _ => ?_)) h
noncomputable def F.name_Without (K : Nat) (a0 : List ByteArray) (a1 : ByteArray) : Option ((List ByteArray) × Bool) := evFn Try.prog sg K 125 [.sc (.list .str a0 false), .sc (.val (.string a1))] []
noncomputable def F.name_Without.B (c0 : (List ByteArray) → (ByteArray) → Option (Int × Bool)) (c1 : (List ByteArray) → Option ((List ByteArray))) (c2 : (List ByteArray) → (Int) → (Int) → Option ((List ByteArray))) (a0 : List ByteArray) (a1 : ByteArray) : Option ((List ByteArray) × Bool) :=
    ((c0 a0 a1).bind fun t0 => (bif (!t0.2) then ((c1 a0).bind fun t1 => (some (t1, false))) else ((c1 a0).bind fun t2 => ((c2 t2 t0.1 (w64 (t0.1 + 1))).bind fun t3 => (some (t3, true))))))
theorem F.name_Without.eq K a0 a1 : F.name_Without (K + 1) a0 a1 = F.name_Without.B (F.name_Find K) (F.slices_Clone_stringstring K) (F.slices_Delete_stringstring K) a0 a1 := by kernel_rfl
noncomputable def V.name_Without (a0 : List ByteArray) (a1 : ByteArray) := lim fun v => F.name_Without (v 0) a0 a1
theorem V.name_Without.of a0 a1 {r} (h : F.name_Without.B V.name_Find V.slices_Clone_stringstring V.slices_Delete_stringstring a0 a1 = some r) : V.name_Without a0 a1 = some r :=
  App.to (App.step 0 (fun v => F.name_Without.eq (v 0) a0 a1) (by unfold F.name_Without.B; repeat' first | exact App.val | exact App.no | exact App.lim | apply App.cond | apply App.guard | apply App.meet | apply App.ite | refine App.bind ?_ fun _ => ?_)) h
noncomputable def F.elem_Unlabel (K : Nat) (a0 : List ByteArray) (a1 : ByteArray) : Option ((List ByteArray) × Int) := evFn Try.prog sg K 76 [.sc (.list .str a0 false), .sc (.val (.string a1))] []
noncomputable def F.elem_Unlabel.B (c0 : (List ByteArray) → (ByteArray) → Option ((List ByteArray) × Bool)) (a0 : List ByteArray) (a1 : ByteArray) : Option ((List ByteArray) × Int) :=
    ((c0 a0 a1).bind fun t0 => (bif (!t0.2) then (some ([], 9)) else (some (t0.1, 0))))
theorem F.elem_Unlabel.eq K a0 a1 : F.elem_Unlabel (K + 1) a0 a1 = F.elem_Unlabel.B (F.name_Without K) a0 a1 := by kernel_rfl
noncomputable def V.elem_Unlabel (a0 : List ByteArray) (a1 : ByteArray) := lim fun v => F.elem_Unlabel (v 0) a0 a1
theorem V.elem_Unlabel.of a0 a1 {r} (h : F.elem_Unlabel.B V.name_Without a0 a1 = some r) : V.elem_Unlabel a0 a1 = some r :=
  App.to (App.step 0 (fun v => F.elem_Unlabel.eq (v 0) a0 a1) (by unfold F.elem_Unlabel.B; repeat' first | exact App.val | exact App.no | exact App.lim | apply App.cond | apply App.guard | apply App.meet | apply App.ite | refine App.bind ?_ fun _ => ?_)) h
noncomputable def F.slices_Delete_apiPropapiProp (K : Nat) (a0 : List TProp) (a1 : Int) (a2 : Int) : Option ((List TProp)) := evFn Try.prog sg K 126 [.sc (.own 0 none), .sc (.val (.int .i64 a1)), .sc (.val (.int .i64 a2))] [.elems sProp a0]
noncomputable def F.slices_Delete_apiPropapiProp.B (a0 : List TProp) (a1 : Int) (a2 : Int) : Option ((List TProp)) :=
    (guardK (decide (0 ≤ a1) && decide (a1 ≤ a2) && decide (a2 ≤ (a0.length : Int)) && decide ((a0.length : Int) ≤ (a0.length : Int))) (bif (a1 == a2) then (some a0) else (guardK (decide (0 ≤ a1) && decide (a1 ≤ (a0.length : Int))) (guardK (decide (0 ≤ a2) && decide (a2 ≤ (a0.length : Int)) && decide ((a0.length : Int) ≤ (a0.length : Int))) (guardK (decide ((a1.toNat + ((a0.take ((a0.length : Int).toNat)).drop a2.toNat).length) ≤ a0.length)) (guardK (decide (0 ≤ (((a1.toNat + ((a0.take ((a0.length : Int).toNat)).drop a2.toNat).length) - 0 : Nat) : Int)) && decide ((((a1.toNat + ((a0.take ((a0.length : Int).toNat)).drop a2.toNat).length) - 0 : Nat) : Int) ≤ (a0.length : Int)) && decide (0 + (a0.length : Int).toNat ≤ (a0.take a1.toNat ++ ((a0.take ((a0.length : Int).toNat)).drop a2.toNat) ++ a0.drop (a1.toNat + ((a0.take ((a0.length : Int).toNat)).drop a2.toNat).length)).length)) (guardK (decide ((0 + (((a1.toNat + ((a0.take ((a0.length : Int).toNat)).drop a2.toNat).length) - 0 : Nat) : Int).toNat) ≤ (0 + (a0.length : Int).toNat)) && decide ((0 + (a0.length : Int).toNat) ≤ (a0.take a1.toNat ++ ((a0.take ((a0.length : Int).toNat)).drop a2.toNat) ++ a0.drop (a1.toNat + ((a0.take ((a0.length : Int).toNat)).drop a2.toNat).length)).length)) (some (((a0.take a1.toNat ++ ((a0.take ((a0.length : Int).toNat)).drop a2.toNat) ++ a0.drop (a1.toNat + ((a0.take ((a0.length : Int).toNat)).drop a2.toNat).length)).take (0 + (((a1.toNat + ((a0.take ((a0.length : Int).toNat)).drop a2.toNat).length) - 0 : Nat) : Int).toNat) ++ List.replicate ((0 + (a0.length : Int).toNat) - (0 + (((a1.toNat + ((a0.take ((a0.length : Int).toNat)).drop a2.toNat).length) - 0 : Nat) : Int).toNat)) ((⟨#[]⟩ : ByteArray), 0, 0, (⟨#[]⟩ : ByteArray)) ++ (a0.take a1.toNat ++ ((a0.take ((a0.length : Int).toNat)).drop a2.toNat) ++ a0.drop (a1.toNat + ((a0.take ((a0.length : Int).toNat)).drop a2.toNat).length)).drop (0 + (a0.length : Int).toNat)).take (a1.toNat + ((a0.take ((a0.length : Int).toNat)).drop a2.toNat).length))))))))))
theorem F.slices_Delete_apiPropapiProp.eq K a0 a1 a2 : F.slices_Delete_apiPropapiProp (K + 1) a0 a1 a2 = F.slices_Delete_apiPropapiProp.B a0 a1 a2 := by kernel_rfl
noncomputable def V.slices_Delete_apiPropapiProp (a0 : List TProp) (a1 : Int) (a2 : Int) := lim fun v => F.slices_Delete_apiPropapiProp (v 0) a0 a1 a2
theorem V.slices_Delete_apiPropapiProp.of a0 a1 a2 {r} (h : F.slices_Delete_apiPropapiProp.B a0 a1 a2 = some r) : V.slices_Delete_apiPropapiProp a0 a1 a2 = some r :=
  App.to (App.step 0 (fun v => F.slices_Delete_apiPropapiProp.eq (v 0) a0 a1 a2) (by unfold F.slices_Delete_apiPropapiProp.B; repeat' first | exact App.val | exact App.no | exact App.lim | apply App.cond | apply App.guard | apply App.meet | apply App.ite | refine App.bind ?_ fun _ => ?_)) h
noncomputable def F.elem_Unset (K : Nat) (a0 : List TProp) (a1 : ByteArray) : Option ((List TProp) × Int) := evFn Try.prog sg K 77 [.sc (.list sProp a0 false), .sc (.val (.string a1))] []
noncomputable def F.elem_Unset.B (c0 : (List TProp) → (ByteArray) → Option (Int × Bool)) (c1 : (List TProp) → Option ((List TProp))) (c2 : (List TProp) → (Int) → (Int) → Option ((List TProp))) (a0 : List TProp) (a1 : ByteArray) : Option ((List TProp) × Int) :=
    ((c0 a0 a1).bind fun t0 => (bif (!t0.2) then (some ([], 9)) else ((c1 a0).bind fun t1 => ((c2 t1 t0.1 (w64 (t0.1 + 1))).bind fun t2 => (some (t2, 0))))))
theorem F.elem_Unset.eq K a0 a1 : F.elem_Unset (K + 1) a0 a1 = F.elem_Unset.B (F.elem_find K) (F.slices_Clone_apiPropapiProp K) (F.slices_Delete_apiPropapiProp K) a0 a1 := by kernel_rfl
noncomputable def V.elem_Unset (a0 : List TProp) (a1 : ByteArray) := lim fun v => F.elem_Unset (v 0) a0 a1
theorem V.elem_Unset.of a0 a1 {r} (h : F.elem_Unset.B V.elem_find V.slices_Clone_apiPropapiProp V.slices_Delete_apiPropapiProp a0 a1 = some r) : V.elem_Unset a0 a1 = some r :=
  App.to (App.step 0 (fun v => F.elem_Unset.eq (v 0) a0 a1) (by unfold F.elem_Unset.B; repeat' first | exact App.val | exact App.no | exact App.lim | apply App.cond | apply App.guard | apply App.meet | apply App.ite | refine App.bind ?_ fun _ => ?_)) h
noncomputable def F.graph_Turn (K : Nat) (a0 : List ByteArray) (a1 : List TProp) (a2 : TOp) : Option ((List ByteArray) × (List TProp) × Int) := evFn Try.prog sg K 36 [.sc (.list .str a0 false), .sc (.list sProp a1 false), .agg [.val (.int .i64 a2.1), .val (.string a2.2.1), .val (.string a2.2.2.1), .val (.string a2.2.2.2.1), .val (.string a2.2.2.2.2.1), .val (.int .i64 a2.2.2.2.2.2.1), .val (.int .i64 a2.2.2.2.2.2.2.1), .val (.string a2.2.2.2.2.2.2.2)]] []
noncomputable def F.graph_Turn.at (K : Nat) (p ns : List Nat) (s : St) : Option ((List ByteArray) × (List TProp) × Int) := atFn Try.prog sg K 36 0 p ns s
noncomputable def F.graph_Turn.in (K : Nat) (H : List Nat → List Nat → St → Option ((List ByteArray) × (List TProp) × Int)) (p ns : List Nat) (s : St) : Option ((List ByteArray) × (List TProp) × Int) := inFn Try.prog sg K 36 0 [[1, 1, 0, 1, 0, 1], [1, 1, 0, 1, 0, 1, 1, 1], [1, 1, 0, 1, 0, 1, 1, 1, 1, 1], [1, 1, 0, 1, 0, 1, 1, 1, 1, 1, 1, 1], [1, 1, 1], [1, 1, 1, 1]] H p ns s
theorem F.graph_Turn.in_eq K p ns s : F.graph_Turn.at K p ns s = F.graph_Turn.in K (F.graph_Turn.at K) p ns s := atFn_eq (P := Try.prog) (sg := sg) (K := K) (f := 36) (m := 0) [[1, 1, 0, 1, 0, 1], [1, 1, 0, 1, 0, 1, 1, 1], [1, 1, 0, 1, 0, 1, 1, 1, 1, 1], [1, 1, 0, 1, 0, 1, 1, 1, 1, 1, 1, 1], [1, 1, 1], [1, 1, 1, 1]] p ns s
theorem F.graph_Turn.in_main K a0 a1 a2 : F.graph_Turn (K + 1) a0 a1 a2 = F.graph_Turn.in K (F.graph_Turn.at K) [] [] ⟨slots [.sc (.list .str a0 false), .sc (.list sProp a1 false), .agg [.val (.int .i64 a2.1), .val (.string a2.2.1), .val (.string a2.2.2.1), .val (.string a2.2.2.2.1), .val (.string a2.2.2.2.2.1), .val (.int .i64 a2.2.2.2.2.2.1), .val (.int .i64 a2.2.2.2.2.2.2.1), .val (.string a2.2.2.2.2.2.2.2)]] 0, []⟩ := evFn_eq (P := Try.prog) (sg := sg) (K := K) (f := 36) (args := [.sc (.list .str a0 false), .sc (.list sProp a1 false), .agg [.val (.int .i64 a2.1), .val (.string a2.2.1), .val (.string a2.2.2.1), .val (.string a2.2.2.2.1), .val (.string a2.2.2.2.2.1), .val (.int .i64 a2.2.2.2.2.2.1), .val (.int .i64 a2.2.2.2.2.2.2.1), .val (.string a2.2.2.2.2.2.2.2)]]) (σ := []) [[1, 1, 0, 1, 0, 1], [1, 1, 0, 1, 0, 1, 1, 1], [1, 1, 0, 1, 0, 1, 1, 1, 1, 1], [1, 1, 0, 1, 0, 1, 1, 1, 1, 1, 1, 1], [1, 1, 1], [1, 1, 1, 1]] (by kernel_rfl)
def F.graph_Turn.j110101.st (a0 : List ByteArray) (a1 : List TProp) (a2 : TOp) (x0 : Bool) : St := ⟨[(0, vL .str a0), (1, vL sProp a1), (5, .one (.sc (.ref 0 0))), (11, vI a2.1), (12, vB x0)], [.cells 53 [.val (.int .i64 a2.1), .val (.string a2.2.1), .val (.string a2.2.2.1), .val (.string a2.2.2.2.1), .val (.string a2.2.2.2.2.1), .val (.int .i64 a2.2.2.2.2.2.1), .val (.int .i64 a2.2.2.2.2.2.2.1), .val (.string a2.2.2.2.2.2.2.2)]]⟩
noncomputable def F.graph_Turn.j110101 (K : Nat) (a0 : List ByteArray) (a1 : List TProp) (a2 : TOp) (x0 : Bool) := F.graph_Turn.at K [1, 1, 0, 1, 0, 1] [] (F.graph_Turn.j110101.st a0 a1 a2 x0)
def F.graph_Turn.j11010111.st (a0 : List ByteArray) (a1 : List TProp) (a2 : TOp) (x0 : Bool) : St := ⟨[(0, vL .str a0), (1, vL sProp a1), (5, .one (.sc (.ref 0 0))), (11, vI a2.1), (22, vB x0)], [.cells 53 [.val (.int .i64 a2.1), .val (.string a2.2.1), .val (.string a2.2.2.1), .val (.string a2.2.2.2.1), .val (.string a2.2.2.2.2.1), .val (.int .i64 a2.2.2.2.2.2.1), .val (.int .i64 a2.2.2.2.2.2.2.1), .val (.string a2.2.2.2.2.2.2.2)]]⟩
noncomputable def F.graph_Turn.j11010111 (K : Nat) (a0 : List ByteArray) (a1 : List TProp) (a2 : TOp) (x0 : Bool) := F.graph_Turn.at K [1, 1, 0, 1, 0, 1, 1, 1] [] (F.graph_Turn.j11010111.st a0 a1 a2 x0)
def F.graph_Turn.j1101011111.st (a0 : List ByteArray) (a1 : List TProp) (a2 : TOp) (x0 : Bool) : St := ⟨[(0, vL .str a0), (1, vL sProp a1), (5, .one (.sc (.ref 0 0))), (11, vI a2.1), (32, vB x0)], [.cells 53 [.val (.int .i64 a2.1), .val (.string a2.2.1), .val (.string a2.2.2.1), .val (.string a2.2.2.2.1), .val (.string a2.2.2.2.2.1), .val (.int .i64 a2.2.2.2.2.2.1), .val (.int .i64 a2.2.2.2.2.2.2.1), .val (.string a2.2.2.2.2.2.2.2)]]⟩
noncomputable def F.graph_Turn.j1101011111 (K : Nat) (a0 : List ByteArray) (a1 : List TProp) (a2 : TOp) (x0 : Bool) := F.graph_Turn.at K [1, 1, 0, 1, 0, 1, 1, 1, 1, 1] [] (F.graph_Turn.j1101011111.st a0 a1 a2 x0)
def F.graph_Turn.j110101111111.st (a0 : List ByteArray) (a1 : List TProp) (a2 : TOp) (x0 : Bool) : St := ⟨[(0, vL .str a0), (1, vL sProp a1), (5, .one (.sc (.ref 0 0))), (44, vB x0)], [.cells 53 [.val (.int .i64 a2.1), .val (.string a2.2.1), .val (.string a2.2.2.1), .val (.string a2.2.2.2.1), .val (.string a2.2.2.2.2.1), .val (.int .i64 a2.2.2.2.2.2.1), .val (.int .i64 a2.2.2.2.2.2.2.1), .val (.string a2.2.2.2.2.2.2.2)]]⟩
noncomputable def F.graph_Turn.j110101111111 (K : Nat) (a0 : List ByteArray) (a1 : List TProp) (a2 : TOp) (x0 : Bool) := F.graph_Turn.at K [1, 1, 0, 1, 0, 1, 1, 1, 1, 1, 1, 1] [] (F.graph_Turn.j110101111111.st a0 a1 a2 x0)
def F.graph_Turn.j111.st (a0 : List ByteArray) (a1 : List TProp) (a2 : TOp) (x0 : List ByteArray) (x1 : List TProp) (x2 : Int) : St := ⟨[(0, vL .str x0), (1, vL sProp x1), (9, vI x2)], []⟩
noncomputable def F.graph_Turn.j111 (K : Nat) (a0 : List ByteArray) (a1 : List TProp) (a2 : TOp) (x0 : List ByteArray) (x1 : List TProp) (x2 : Int) := F.graph_Turn.at K [1, 1, 1] [] (F.graph_Turn.j111.st a0 a1 a2 x0 x1 x2)
def F.graph_Turn.j1111.st (a0 : List ByteArray) (a1 : List TProp) (a2 : TOp) (x0 : List ByteArray) (x1 : List TProp) : St := ⟨[(0, vL .str x0), (1, vL sProp x1)], []⟩
noncomputable def F.graph_Turn.j1111 (K : Nat) (a0 : List ByteArray) (a1 : List TProp) (a2 : TOp) (x0 : List ByteArray) (x1 : List TProp) := F.graph_Turn.at K [1, 1, 1, 1] [] (F.graph_Turn.j1111.st a0 a1 a2 x0 x1)
noncomputable def F.graph_Turn.j110101.B (c0 : (List ByteArray) → (ByteArray) → Option ((List ByteArray) × Int)) (c1 : (List ByteArray) → (List TProp) → (TOp) → (List ByteArray) → (List TProp) → (Int) → Option ((List ByteArray) × (List TProp) × Int)) (c2 : (List ByteArray) → (List TProp) → (TOp) → (Bool) → Option ((List ByteArray) × (List TProp) × Int)) (a0 : List ByteArray) (a1 : List TProp) (a2 : TOp) (x0 : Bool) : Option ((List ByteArray) × (List TProp) × Int) :=
    (bif x0 then ((c0 a0 a2.2.2.2.2.1).bind fun t0 => (c1 a0 a1 a2 t0.1 a1 t0.2)) else (bif (a2.1 == 6) then (c2 a0 a1 a2 (a2.1 == 6)) else (c2 a0 a1 a2 (a2.1 == 8))))
theorem F.graph_Turn.j110101.eq K a0 a1 a2 x0 : F.graph_Turn.j110101 K a0 a1 a2 x0 = F.graph_Turn.j110101.B (F.elem_Label K) (F.graph_Turn.j111 K) (F.graph_Turn.j11010111 K) a0 a1 a2 x0 := (F.graph_Turn.in_eq K [1, 1, 0, 1, 0, 1] [] (F.graph_Turn.j110101.st a0 a1 a2 x0)).trans ((show ∀ H, F.graph_Turn.in K H [1, 1, 0, 1, 0, 1] [] (F.graph_Turn.j110101.st a0 a1 a2 x0) = F.graph_Turn.j110101.B (F.elem_Label K) (fun a0 a1 a2 x0 x1 x2 => H [1, 1, 1] [] (F.graph_Turn.j111.st a0 a1 a2 x0 x1 x2)) (fun a0 a1 a2 x0 => H [1, 1, 0, 1, 0, 1, 1, 1] [] (F.graph_Turn.j11010111.st a0 a1 a2 x0)) a0 a1 a2 x0 from by intro H; kernel_rfl) (F.graph_Turn.at K))
noncomputable def F.graph_Turn.j11010111.B (c0 : (List ByteArray) → (ByteArray) → Option ((List ByteArray) × Int)) (c1 : (List ByteArray) → (List TProp) → (TOp) → (List ByteArray) → (List TProp) → (Int) → Option ((List ByteArray) × (List TProp) × Int)) (c2 : (List ByteArray) → (List TProp) → (TOp) → (Bool) → Option ((List ByteArray) × (List TProp) × Int)) (a0 : List ByteArray) (a1 : List TProp) (a2 : TOp) (x0 : Bool) : Option ((List ByteArray) × (List TProp) × Int) :=
    (bif x0 then ((c0 a0 a2.2.2.2.2.1).bind fun t1 => (c1 a0 a1 a2 t1.1 a1 t1.2)) else (bif (a2.1 == 9) then (c2 a0 a1 a2 (a2.1 == 9)) else (c2 a0 a1 a2 (a2.1 == 11))))
theorem F.graph_Turn.j11010111.eq K a0 a1 a2 x0 : F.graph_Turn.j11010111 K a0 a1 a2 x0 = F.graph_Turn.j11010111.B (F.elem_Unlabel K) (F.graph_Turn.j111 K) (F.graph_Turn.j1101011111 K) a0 a1 a2 x0 := (F.graph_Turn.in_eq K [1, 1, 0, 1, 0, 1, 1, 1] [] (F.graph_Turn.j11010111.st a0 a1 a2 x0)).trans ((show ∀ H, F.graph_Turn.in K H [1, 1, 0, 1, 0, 1, 1, 1] [] (F.graph_Turn.j11010111.st a0 a1 a2 x0) = F.graph_Turn.j11010111.B (F.elem_Unlabel K) (fun a0 a1 a2 x0 x1 x2 => H [1, 1, 1] [] (F.graph_Turn.j111.st a0 a1 a2 x0 x1 x2)) (fun a0 a1 a2 x0 => H [1, 1, 0, 1, 0, 1, 1, 1, 1, 1] [] (F.graph_Turn.j1101011111.st a0 a1 a2 x0)) a0 a1 a2 x0 from by intro H; kernel_rfl) (F.graph_Turn.at K))
noncomputable def F.graph_Turn.j1101011111.B (c0 : (List TProp) → (ByteArray) → (TValue) → Option ((List TProp) × Int)) (c1 : (List ByteArray) → (List TProp) → (TOp) → (List ByteArray) → (List TProp) → (Int) → Option ((List ByteArray) × (List TProp) × Int)) (c2 : (List ByteArray) → (List TProp) → (TOp) → (Bool) → Option ((List ByteArray) × (List TProp) × Int)) (a0 : List ByteArray) (a1 : List TProp) (a2 : TOp) (x0 : Bool) : Option ((List ByteArray) × (List TProp) × Int) :=
    (bif x0 then ((c0 a1 a2.2.2.2.2.1 (a2.2.2.2.2.2.1, a2.2.2.2.2.2.2.1, a2.2.2.2.2.2.2.2)).bind fun t4 => (c1 a0 a1 a2 a0 t4.1 t4.2)) else (bif (a2.1 == 10) then (c2 a0 a1 a2 (a2.1 == 10)) else (c2 a0 a1 a2 (a2.1 == 12))))
theorem F.graph_Turn.j1101011111.eq K a0 a1 a2 x0 : F.graph_Turn.j1101011111 K a0 a1 a2 x0 = F.graph_Turn.j1101011111.B (F.elem_Set K) (F.graph_Turn.j111 K) (F.graph_Turn.j110101111111 K) a0 a1 a2 x0 := (F.graph_Turn.in_eq K [1, 1, 0, 1, 0, 1, 1, 1, 1, 1] [] (F.graph_Turn.j1101011111.st a0 a1 a2 x0)).trans ((show ∀ H, F.graph_Turn.in K H [1, 1, 0, 1, 0, 1, 1, 1, 1, 1] [] (F.graph_Turn.j1101011111.st a0 a1 a2 x0) = F.graph_Turn.j1101011111.B (F.elem_Set K) (fun a0 a1 a2 x0 x1 x2 => H [1, 1, 1] [] (F.graph_Turn.j111.st a0 a1 a2 x0 x1 x2)) (fun a0 a1 a2 x0 => H [1, 1, 0, 1, 0, 1, 1, 1, 1, 1, 1, 1] [] (F.graph_Turn.j110101111111.st a0 a1 a2 x0)) a0 a1 a2 x0 from by intro H; kernel_rfl) (F.graph_Turn.at K))
noncomputable def F.graph_Turn.j110101111111.B (c0 : (List TProp) → (ByteArray) → Option ((List TProp) × Int)) (c1 : (List ByteArray) → (List TProp) → (TOp) → (List ByteArray) → (List TProp) → (Int) → Option ((List ByteArray) × (List TProp) × Int)) (a0 : List ByteArray) (a1 : List TProp) (a2 : TOp) (x0 : Bool) : Option ((List ByteArray) × (List TProp) × Int) :=
    (bif x0 then ((c0 a1 a2.2.2.2.2.1).bind fun t5 => (c1 a0 a1 a2 a0 t5.1 t5.2)) else (c1 a0 a1 a2 a0 a1 2))
theorem F.graph_Turn.j110101111111.eq K a0 a1 a2 x0 : F.graph_Turn.j110101111111 K a0 a1 a2 x0 = F.graph_Turn.j110101111111.B (F.elem_Unset K) (F.graph_Turn.j111 K) a0 a1 a2 x0 := (F.graph_Turn.in_eq K [1, 1, 0, 1, 0, 1, 1, 1, 1, 1, 1, 1] [] (F.graph_Turn.j110101111111.st a0 a1 a2 x0)).trans ((show ∀ H, F.graph_Turn.in K H [1, 1, 0, 1, 0, 1, 1, 1, 1, 1, 1, 1] [] (F.graph_Turn.j110101111111.st a0 a1 a2 x0) = F.graph_Turn.j110101111111.B (F.elem_Unset K) (fun a0 a1 a2 x0 x1 x2 => H [1, 1, 1] [] (F.graph_Turn.j111.st a0 a1 a2 x0 x1 x2)) a0 a1 a2 x0 from by intro H; kernel_rfl) (F.graph_Turn.at K))
noncomputable def F.graph_Turn.j111.B (c0 : (List ByteArray) → (List TProp) → (TOp) → (List ByteArray) → (List TProp) → Option ((List ByteArray) × (List TProp) × Int)) (a0 : List ByteArray) (a1 : List TProp) (a2 : TOp) (x0 : List ByteArray) (x1 : List TProp) (x2 : Int) : Option ((List ByteArray) × (List TProp) × Int) :=
    (bif (x2 != 0) then (some ([], [], x2)) else (c0 a0 a1 a2 x0 x1))
theorem F.graph_Turn.j111.eq K a0 a1 a2 x0 x1 x2 : F.graph_Turn.j111 K a0 a1 a2 x0 x1 x2 = F.graph_Turn.j111.B (F.graph_Turn.j1111 K) a0 a1 a2 x0 x1 x2 := (F.graph_Turn.in_eq K [1, 1, 1] [] (F.graph_Turn.j111.st a0 a1 a2 x0 x1 x2)).trans ((show ∀ H, F.graph_Turn.in K H [1, 1, 1] [] (F.graph_Turn.j111.st a0 a1 a2 x0 x1 x2) = F.graph_Turn.j111.B (fun a0 a1 a2 x0 x1 => H [1, 1, 1, 1] [] (F.graph_Turn.j1111.st a0 a1 a2 x0 x1)) a0 a1 a2 x0 x1 x2 from by intro H; kernel_rfl) (F.graph_Turn.at K))
noncomputable def F.graph_Turn.j1111.B (c0 : (List ByteArray) → Option ((List ByteArray))) (c1 : (List TProp) → Option ((List TProp))) (a0 : List ByteArray) (a1 : List TProp) (a2 : TOp) (x0 : List ByteArray) (x1 : List TProp) : Option ((List ByteArray) × (List TProp) × Int) :=
    ((c0 x0).bind fun t2 => ((c1 x1).bind fun t3 => (some (t2, t3, 0))))
theorem F.graph_Turn.j1111.eq K a0 a1 a2 x0 x1 : F.graph_Turn.j1111 K a0 a1 a2 x0 x1 = F.graph_Turn.j1111.B (F.slices_Clone_stringstring K) (F.slices_Clone_apiPropapiProp K) a0 a1 a2 x0 x1 := (F.graph_Turn.in_eq K [1, 1, 1, 1] [] (F.graph_Turn.j1111.st a0 a1 a2 x0 x1)).trans ((show ∀ H, F.graph_Turn.in K H [1, 1, 1, 1] [] (F.graph_Turn.j1111.st a0 a1 a2 x0 x1) = F.graph_Turn.j1111.B (F.slices_Clone_stringstring K) (F.slices_Clone_apiPropapiProp K) a0 a1 a2 x0 x1 from by intro H; kernel_rfl) (F.graph_Turn.at K))
noncomputable def F.graph_Turn.B (c0 : (List ByteArray) → (List TProp) → (TOp) → (Bool) → Option ((List ByteArray) × (List TProp) × Int)) (a0 : List ByteArray) (a1 : List TProp) (a2 : TOp) : Option ((List ByteArray) × (List TProp) × Int) :=
    (bif (a2.1 == 5) then (c0 a0 a1 a2 (a2.1 == 5)) else (c0 a0 a1 a2 (a2.1 == 7)))
theorem F.graph_Turn.eq K a0 a1 a2 : F.graph_Turn (K + 1) a0 a1 a2 = F.graph_Turn.B (F.graph_Turn.j110101 K) a0 a1 a2 := (F.graph_Turn.in_main K a0 a1 a2).trans ((show ∀ H, F.graph_Turn.in K H [] [] ⟨slots [.sc (.list .str a0 false), .sc (.list sProp a1 false), .agg [.val (.int .i64 a2.1), .val (.string a2.2.1), .val (.string a2.2.2.1), .val (.string a2.2.2.2.1), .val (.string a2.2.2.2.2.1), .val (.int .i64 a2.2.2.2.2.2.1), .val (.int .i64 a2.2.2.2.2.2.2.1), .val (.string a2.2.2.2.2.2.2.2)]] 0, []⟩ = F.graph_Turn.B (fun a0 a1 a2 x0 => H [1, 1, 0, 1, 0, 1] [] (F.graph_Turn.j110101.st a0 a1 a2 x0)) a0 a1 a2 from by intro H; kernel_rfl) (F.graph_Turn.at K))
noncomputable def V.graph_Turn.j110101 (a0 : List ByteArray) (a1 : List TProp) (a2 : TOp) (x0 : Bool) := lim fun v => F.graph_Turn.j110101 (v 0) a0 a1 a2 x0
noncomputable def V.graph_Turn.j11010111 (a0 : List ByteArray) (a1 : List TProp) (a2 : TOp) (x0 : Bool) := lim fun v => F.graph_Turn.j11010111 (v 0) a0 a1 a2 x0
noncomputable def V.graph_Turn.j1101011111 (a0 : List ByteArray) (a1 : List TProp) (a2 : TOp) (x0 : Bool) := lim fun v => F.graph_Turn.j1101011111 (v 0) a0 a1 a2 x0
noncomputable def V.graph_Turn.j110101111111 (a0 : List ByteArray) (a1 : List TProp) (a2 : TOp) (x0 : Bool) := lim fun v => F.graph_Turn.j110101111111 (v 0) a0 a1 a2 x0
noncomputable def V.graph_Turn.j111 (a0 : List ByteArray) (a1 : List TProp) (a2 : TOp) (x0 : List ByteArray) (x1 : List TProp) (x2 : Int) := lim fun v => F.graph_Turn.j111 (v 0) a0 a1 a2 x0 x1 x2
noncomputable def V.graph_Turn.j1111 (a0 : List ByteArray) (a1 : List TProp) (a2 : TOp) (x0 : List ByteArray) (x1 : List TProp) := lim fun v => F.graph_Turn.j1111 (v 0) a0 a1 a2 x0 x1
noncomputable def V.graph_Turn (a0 : List ByteArray) (a1 : List TProp) (a2 : TOp) := lim fun v => F.graph_Turn (v 0) a0 a1 a2
theorem V.graph_Turn.j110101.of a0 a1 a2 x0 {r} (h : F.graph_Turn.j110101.B V.elem_Label V.graph_Turn.j111 V.graph_Turn.j11010111 a0 a1 a2 x0 = some r) : V.graph_Turn.j110101 a0 a1 a2 x0 = some r :=
  App.to (App.same (fun v => F.graph_Turn.j110101.eq (v 0) a0 a1 a2 x0) (by unfold F.graph_Turn.j110101.B; repeat' first | exact App.val | exact App.no | exact App.lim | apply App.cond | apply App.guard | apply App.meet | apply App.ite | refine App.bind ?_ fun _ => ?_)) h
theorem V.graph_Turn.j11010111.of a0 a1 a2 x0 {r} (h : F.graph_Turn.j11010111.B V.elem_Unlabel V.graph_Turn.j111 V.graph_Turn.j1101011111 a0 a1 a2 x0 = some r) : V.graph_Turn.j11010111 a0 a1 a2 x0 = some r :=
  App.to (App.same (fun v => F.graph_Turn.j11010111.eq (v 0) a0 a1 a2 x0) (by unfold F.graph_Turn.j11010111.B; repeat' first | exact App.val | exact App.no | exact App.lim | apply App.cond | apply App.guard | apply App.meet | apply App.ite | refine App.bind ?_ fun _ => ?_)) h
theorem V.graph_Turn.j1101011111.of a0 a1 a2 x0 {r} (h : F.graph_Turn.j1101011111.B V.elem_Set V.graph_Turn.j111 V.graph_Turn.j110101111111 a0 a1 a2 x0 = some r) : V.graph_Turn.j1101011111 a0 a1 a2 x0 = some r :=
  App.to (App.same (fun v => F.graph_Turn.j1101011111.eq (v 0) a0 a1 a2 x0) (by unfold F.graph_Turn.j1101011111.B; repeat' first | exact App.val | exact App.no | exact App.lim | apply App.cond | apply App.guard | apply App.meet | apply App.ite | refine App.bind ?_ fun _ => ?_)) h
theorem V.graph_Turn.j110101111111.of a0 a1 a2 x0 {r} (h : F.graph_Turn.j110101111111.B V.elem_Unset V.graph_Turn.j111 a0 a1 a2 x0 = some r) : V.graph_Turn.j110101111111 a0 a1 a2 x0 = some r :=
  App.to (App.same (fun v => F.graph_Turn.j110101111111.eq (v 0) a0 a1 a2 x0) (by unfold F.graph_Turn.j110101111111.B; repeat' first | exact App.val | exact App.no | exact App.lim | apply App.cond | apply App.guard | apply App.meet | apply App.ite | refine App.bind ?_ fun _ => ?_)) h
theorem V.graph_Turn.j111.of a0 a1 a2 x0 x1 x2 {r} (h : F.graph_Turn.j111.B V.graph_Turn.j1111 a0 a1 a2 x0 x1 x2 = some r) : V.graph_Turn.j111 a0 a1 a2 x0 x1 x2 = some r :=
  App.to (App.same (fun v => F.graph_Turn.j111.eq (v 0) a0 a1 a2 x0 x1 x2) (by unfold F.graph_Turn.j111.B; repeat' first | exact App.val | exact App.no | exact App.lim | apply App.cond | apply App.guard | apply App.meet | apply App.ite | refine App.bind ?_ fun _ => ?_)) h
theorem V.graph_Turn.j1111.of a0 a1 a2 x0 x1 {r} (h : F.graph_Turn.j1111.B V.slices_Clone_stringstring V.slices_Clone_apiPropapiProp a0 a1 a2 x0 x1 = some r) : V.graph_Turn.j1111 a0 a1 a2 x0 x1 = some r :=
  App.to (App.same (fun v => F.graph_Turn.j1111.eq (v 0) a0 a1 a2 x0 x1) (by unfold F.graph_Turn.j1111.B; repeat' first | exact App.val | exact App.no | exact App.lim | apply App.cond | apply App.guard | apply App.meet | apply App.ite | refine App.bind ?_ fun _ => ?_)) h
theorem V.graph_Turn.of a0 a1 a2 {r} (h : F.graph_Turn.B V.graph_Turn.j110101 a0 a1 a2 = some r) : V.graph_Turn a0 a1 a2 = some r :=
  App.to (App.step 0 (fun v => F.graph_Turn.eq (v 0) a0 a1 a2) (by unfold F.graph_Turn.B; repeat' first | exact App.val | exact App.no | exact App.lim | apply App.cond | apply App.guard | apply App.meet | apply App.ite | refine App.bind ?_ fun _ => ?_)) h
noncomputable def F.graph_change_turns (K : Nat) (a0 : TGraph) (a1 : TOp) : Option (Int × TGraph) := evFn Try.prog sg K 131 [.sc (.ref 0 0), .agg [.val (.int .i64 a1.1), .val (.string a1.2.1), .val (.string a1.2.2.1), .val (.string a1.2.2.2.1), .val (.string a1.2.2.2.2.1), .val (.int .i64 a1.2.2.2.2.2.1), .val (.int .i64 a1.2.2.2.2.2.2.1), .val (.string a1.2.2.2.2.2.2.2)]] [.cells 130 [.own 1 none, .own 2 none], .elems sNode a0.1, .elems sEdge a0.2]
noncomputable def F.graph_change_turns.B (c0 : (Int) → Option (Bool)) (c1 : (TGraph) → (ByteArray) → Option (Int × Bool)) (c2 : (List ByteArray) → (List TProp) → (TOp) → Option ((List ByteArray) × (List TProp) × Int)) (c3 : (TGraph) → (ByteArray) → Option (Int × Bool)) (a0 : TGraph) (a1 : TOp) : Option (Int × TGraph) :=
    ((c0 a1.1).bind fun t0 => (bif t0 then ((c1 (a0.1, a0.2) a1.2.1).bind fun t1 => (bif (!t1.2) then (some (9, a0.1, a0.2)) else (guardK (decide (0 ≤ t1.1) && decide (t1.1 < (a0.2.length : Int))) (guardK (decide (0 ≤ t1.1) && decide (t1.1 < (a0.2.length : Int))) ((c2 (((((rd sEdge a0.2 t1.1.toNat).2).2).2).1) (((((rd sEdge a0.2 t1.1.toNat).2).2).2).2) (a1.1, a1.2.1, a1.2.2.1, a1.2.2.2.1, a1.2.2.2.2.1, a1.2.2.2.2.2.1, a1.2.2.2.2.2.2.1, a1.2.2.2.2.2.2.2)).bind fun t2 => (bif (t2.2.2 == 0) then (guardK (decide (0 ≤ t1.1) && decide (t1.1 < (a0.2.length : Int))) (guardK (decide (0 ≤ t1.1) && decide (t1.1 < ((a0.2.set t1.1.toNat ((rd sEdge a0.2 t1.1.toNat).1, ((rd sEdge a0.2 t1.1.toNat).2).1, (((rd sEdge a0.2 t1.1.toNat).2).2).1, t2.1, ((((rd sEdge a0.2 t1.1.toNat).2).2).2).2)).length : Int))) (some (t2.2.2, a0.1, ((a0.2.set t1.1.toNat ((rd sEdge a0.2 t1.1.toNat).1, ((rd sEdge a0.2 t1.1.toNat).2).1, (((rd sEdge a0.2 t1.1.toNat).2).2).1, t2.1, ((((rd sEdge a0.2 t1.1.toNat).2).2).2).2)).set t1.1.toNat ((rd sEdge (a0.2.set t1.1.toNat ((rd sEdge a0.2 t1.1.toNat).1, ((rd sEdge a0.2 t1.1.toNat).2).1, (((rd sEdge a0.2 t1.1.toNat).2).2).1, t2.1, ((((rd sEdge a0.2 t1.1.toNat).2).2).2).2)) t1.1.toNat).1, ((rd sEdge (a0.2.set t1.1.toNat ((rd sEdge a0.2 t1.1.toNat).1, ((rd sEdge a0.2 t1.1.toNat).2).1, (((rd sEdge a0.2 t1.1.toNat).2).2).1, t2.1, ((((rd sEdge a0.2 t1.1.toNat).2).2).2).2)) t1.1.toNat).2).1, (((rd sEdge (a0.2.set t1.1.toNat ((rd sEdge a0.2 t1.1.toNat).1, ((rd sEdge a0.2 t1.1.toNat).2).1, (((rd sEdge a0.2 t1.1.toNat).2).2).1, t2.1, ((((rd sEdge a0.2 t1.1.toNat).2).2).2).2)) t1.1.toNat).2).2).1, ((((rd sEdge (a0.2.set t1.1.toNat ((rd sEdge a0.2 t1.1.toNat).1, ((rd sEdge a0.2 t1.1.toNat).2).1, (((rd sEdge a0.2 t1.1.toNat).2).2).1, t2.1, ((((rd sEdge a0.2 t1.1.toNat).2).2).2).2)) t1.1.toNat).2).2).2).1, t2.2.1)))))) else (some (t2.2.2, a0.1, a0.2)))))))) else ((c3 (a0.1, a0.2) a1.2.1).bind fun t3 => (bif (!t3.2) then (some (9, a0.1, a0.2)) else (guardK (decide (0 ≤ t3.1) && decide (t3.1 < (a0.1.length : Int))) (guardK (decide (0 ≤ t3.1) && decide (t3.1 < (a0.1.length : Int))) ((c2 (((rd sNode a0.1 t3.1.toNat).2).1) (((rd sNode a0.1 t3.1.toNat).2).2) (a1.1, a1.2.1, a1.2.2.1, a1.2.2.2.1, a1.2.2.2.2.1, a1.2.2.2.2.2.1, a1.2.2.2.2.2.2.1, a1.2.2.2.2.2.2.2)).bind fun t4 => (bif (t4.2.2 == 0) then (guardK (decide (0 ≤ t3.1) && decide (t3.1 < (a0.1.length : Int))) (guardK (decide (0 ≤ t3.1) && decide (t3.1 < ((a0.1.set t3.1.toNat ((rd sNode a0.1 t3.1.toNat).1, t4.1, ((rd sNode a0.1 t3.1.toNat).2).2)).length : Int))) (some (t4.2.2, ((a0.1.set t3.1.toNat ((rd sNode a0.1 t3.1.toNat).1, t4.1, ((rd sNode a0.1 t3.1.toNat).2).2)).set t3.1.toNat ((rd sNode (a0.1.set t3.1.toNat ((rd sNode a0.1 t3.1.toNat).1, t4.1, ((rd sNode a0.1 t3.1.toNat).2).2)) t3.1.toNat).1, ((rd sNode (a0.1.set t3.1.toNat ((rd sNode a0.1 t3.1.toNat).1, t4.1, ((rd sNode a0.1 t3.1.toNat).2).2)) t3.1.toNat).2).1, t4.2.1)), a0.2)))) else (some (t4.2.2, a0.1, a0.2))))))))))
theorem F.graph_change_turns.eq K a0 a1 : F.graph_change_turns (K + 1) a0 a1 = F.graph_change_turns.B (F.graph_OfEdge K) (F.graph_edge K) (F.graph_Turn K) (F.graph_node K) a0 a1 := by kernel_rfl
noncomputable def V.graph_change_turns (a0 : TGraph) (a1 : TOp) := lim fun v => F.graph_change_turns (v 0) a0 a1
theorem V.graph_change_turns.of a0 a1 {r} (h : F.graph_change_turns.B V.graph_OfEdge V.graph_edge V.graph_Turn V.graph_node a0 a1 = some r) : V.graph_change_turns a0 a1 = some r :=
  App.to (App.step 0 (fun v => F.graph_change_turns.eq (v 0) a0 a1) (by unfold F.graph_change_turns.B; repeat' first | exact App.val | exact App.no | exact App.lim | apply App.cond | apply App.guard | apply App.meet | apply App.ite | refine App.bind ?_ fun _ => ?_)) h
noncomputable def F.graph_change_do (K : Nat) (a0 : TGraph) (a1 : TOp) : Option (Int × TGraph) := evFn Try.prog sg K 84 [.sc (.ref 0 0), .agg [.val (.int .i64 a1.1), .val (.string a1.2.1), .val (.string a1.2.2.1), .val (.string a1.2.2.2.1), .val (.string a1.2.2.2.2.1), .val (.int .i64 a1.2.2.2.2.2.1), .val (.int .i64 a1.2.2.2.2.2.2.1), .val (.string a1.2.2.2.2.2.2.2)]] [.cells 130 [.own 1 none, .own 2 none], .elems sNode a0.1, .elems sEdge a0.2]
noncomputable def F.graph_change_do.B (c0 : (TOp) → Option (Int)) (c1 : (TGraph) → (TOp) → Option (Int × TGraph)) (c2 : (TGraph) → (TOp) → Option (Int × TGraph)) (c3 : (TGraph) → (TOp) → Option (Int × TGraph)) (a0 : TGraph) (a1 : TOp) : Option (Int × TGraph) :=
    ((c0 (a1.1, a1.2.1, a1.2.2.1, a1.2.2.2.1, a1.2.2.2.2.1, a1.2.2.2.2.2.1, a1.2.2.2.2.2.2.1, a1.2.2.2.2.2.2.2)).bind fun t0 => (bif (t0 != 0) then (some (t0, a0.1, a0.2)) else (bif (a1.1 == 1) then (bif (a1.1 == 1) then ((c1 (a0.1, a0.2) (a1.1, a1.2.1, a1.2.2.1, a1.2.2.2.1, a1.2.2.2.2.1, a1.2.2.2.2.2.1, a1.2.2.2.2.2.2.1, a1.2.2.2.2.2.2.2)).bind fun t1 => (some (t1.1, t1.2.1, t1.2.2))) else (bif (a1.1 == 2) then (bif (a1.1 == 2) then ((c2 (a0.1, a0.2) (a1.1, a1.2.1, a1.2.2.1, a1.2.2.2.1, a1.2.2.2.2.1, a1.2.2.2.2.2.1, a1.2.2.2.2.2.2.1, a1.2.2.2.2.2.2.2)).bind fun t2 => (some (t2.1, t2.2.1, t2.2.2))) else ((c3 (a0.1, a0.2) (a1.1, a1.2.1, a1.2.2.1, a1.2.2.2.1, a1.2.2.2.2.1, a1.2.2.2.2.2.1, a1.2.2.2.2.2.2.1, a1.2.2.2.2.2.2.2)).bind fun t3 => (some (t3.1, t3.2.1, t3.2.2)))) else (bif (a1.1 == 4) then ((c2 (a0.1, a0.2) (a1.1, a1.2.1, a1.2.2.1, a1.2.2.2.1, a1.2.2.2.2.1, a1.2.2.2.2.2.1, a1.2.2.2.2.2.2.1, a1.2.2.2.2.2.2.2)).bind fun t4 => (some (t4.1, t4.2.1, t4.2.2))) else ((c3 (a0.1, a0.2) (a1.1, a1.2.1, a1.2.2.1, a1.2.2.2.1, a1.2.2.2.2.1, a1.2.2.2.2.2.1, a1.2.2.2.2.2.2.1, a1.2.2.2.2.2.2.2)).bind fun t5 => (some (t5.1, t5.2.1, t5.2.2)))))) else (bif (a1.1 == 3) then ((c1 (a0.1, a0.2) (a1.1, a1.2.1, a1.2.2.1, a1.2.2.2.1, a1.2.2.2.2.1, a1.2.2.2.2.2.1, a1.2.2.2.2.2.2.1, a1.2.2.2.2.2.2.2)).bind fun t6 => (some (t6.1, t6.2.1, t6.2.2))) else (bif (a1.1 == 2) then (bif (a1.1 == 2) then ((c2 (a0.1, a0.2) (a1.1, a1.2.1, a1.2.2.1, a1.2.2.2.1, a1.2.2.2.2.1, a1.2.2.2.2.2.1, a1.2.2.2.2.2.2.1, a1.2.2.2.2.2.2.2)).bind fun t7 => (some (t7.1, t7.2.1, t7.2.2))) else ((c3 (a0.1, a0.2) (a1.1, a1.2.1, a1.2.2.1, a1.2.2.2.1, a1.2.2.2.2.1, a1.2.2.2.2.2.1, a1.2.2.2.2.2.2.1, a1.2.2.2.2.2.2.2)).bind fun t8 => (some (t8.1, t8.2.1, t8.2.2)))) else (bif (a1.1 == 4) then ((c2 (a0.1, a0.2) (a1.1, a1.2.1, a1.2.2.1, a1.2.2.2.1, a1.2.2.2.2.1, a1.2.2.2.2.2.1, a1.2.2.2.2.2.2.1, a1.2.2.2.2.2.2.2)).bind fun t9 => (some (t9.1, t9.2.1, t9.2.2))) else ((c3 (a0.1, a0.2) (a1.1, a1.2.1, a1.2.2.1, a1.2.2.2.1, a1.2.2.2.2.1, a1.2.2.2.2.2.1, a1.2.2.2.2.2.2.1, a1.2.2.2.2.2.2.2)).bind fun t10 => (some (t10.1, t10.2.1, t10.2.2)))))))))
theorem F.graph_change_do.eq K a0 a1 : F.graph_change_do (K + 1) a0 a1 = F.graph_change_do.B (F.graph_Right K) (F.graph_change_comes K) (F.graph_change_goes K) (F.graph_change_turns K) a0 a1 := by kernel_rfl
noncomputable def V.graph_change_do (a0 : TGraph) (a1 : TOp) := lim fun v => F.graph_change_do (v 0) a0 a1
theorem V.graph_change_do.of a0 a1 {r} (h : F.graph_change_do.B V.graph_Right V.graph_change_comes V.graph_change_goes V.graph_change_turns a0 a1 = some r) : V.graph_change_do a0 a1 = some r :=
  App.to (App.step 0 (fun v => F.graph_change_do.eq (v 0) a0 a1) (by unfold F.graph_change_do.B; repeat' first | exact App.val | exact App.no | exact App.lim | apply App.cond | apply App.guard | apply App.meet | apply App.ite | refine App.bind ?_ fun _ => ?_)) h
noncomputable def F.graph_Apply (K : Nat) (a0 : TGraph) (a1 : List TOp) : Option (TGraph × Int × Int) := evFn Try.prog sg K 40 [.agg [.list sNode a0.1 false, .list sEdge a0.2 false], .sc (.list sOp a1 false)] []
noncomputable def F.graph_Apply.at (K : Nat) (p ns : List Nat) (s : St) : Option (TGraph × Int × Int) := atFn Try.prog sg K 40 0 p ns s
noncomputable def F.graph_Apply.in (K : Nat) (H : List Nat → List Nat → St → Option (TGraph × Int × Int)) (p ns : List Nat) (s : St) : Option (TGraph × Int × Int) := inFn Try.prog sg K 40 0 [] H p ns s
theorem F.graph_Apply.in_eq K p ns s : F.graph_Apply.at K p ns s = F.graph_Apply.in K (F.graph_Apply.at K) p ns s := atFn_eq (P := Try.prog) (sg := sg) (K := K) (f := 40) (m := 0) [] p ns s
theorem F.graph_Apply.in_main K a0 a1 : F.graph_Apply (K + 1) a0 a1 = F.graph_Apply.in K (F.graph_Apply.at K) [] [] ⟨slots [.agg [.list sNode a0.1 false, .list sEdge a0.2 false], .sc (.list sOp a1 false)] 0, []⟩ := evFn_eq (P := Try.prog) (sg := sg) (K := K) (f := 40) (args := [.agg [.list sNode a0.1 false, .list sEdge a0.2 false], .sc (.list sOp a1 false)]) (σ := []) [] (by kernel_rfl)
def F.graph_Apply.l111010.st (a0 : TGraph) (a1 : List TOp) (x0 : Int) (x1 : List TNode) (x2 : List TEdge) : St := ⟨[(4, .one (.sc (.ref 0 0))), (8, .one (.sc (.ref 1 0))), (22, vL sOp a1), (23, vI (a1.length : Int)), (24, vI x0)], [.cells 25 [.val (.slice none 0 0), .val (.slice none 0 0)], .cells 130 [.own 2 none, .own 3 none], .elems sNode x1, .elems sEdge x2]⟩
noncomputable def F.graph_Apply.l111010 (K n0 : Nat) (a0 : TGraph) (a1 : List TOp) (x0 : Int) (x1 : List TNode) (x2 : List TEdge) := F.graph_Apply.at K [1, 1, 1, 0, 1, 0] [n0] (F.graph_Apply.l111010.st a0 a1 x0 x1 x2)
noncomputable def F.graph_Apply.l111010.B (c0 : (TGraph) → (TOp) → Option (Int × TGraph)) (c1 : (TGraph) → (List TOp) → (Int) → (List TNode) → (List TEdge) → Option (TGraph × Int × Int)) (a0 : TGraph) (a1 : List TOp) (x0 : Int) (x1 : List TNode) (x2 : List TEdge) : Option (TGraph × Int × Int) :=
    (bif (decide (x0 < (a1.length : Int))) then (guardK (decide (0 ≤ x0) && decide (x0 < (a1.length : Int))) ((c0 (x1, x2) ((rd sOp a1 x0.toNat).1, ((rd sOp a1 x0.toNat).2).1, (((rd sOp a1 x0.toNat).2).2).1, ((((rd sOp a1 x0.toNat).2).2).2).1, (((((rd sOp a1 x0.toNat).2).2).2).2).1, ((((((rd sOp a1 x0.toNat).2).2).2).2).2).1, (((((((rd sOp a1 x0.toNat).2).2).2).2).2).2).1, (((((((rd sOp a1 x0.toNat).2).2).2).2).2).2).2)).bind fun t2 => (bif (t2.1 != 0) then (some (([], []), x0, t2.1)) else (c1 a0 a1 (w64 (x0 + 1)) t2.2.1 t2.2.2)))) else (some ((x1, x2), 0, 0)))
theorem F.graph_Apply.l111010.eq K n0 a0 a1 x0 x1 x2 : F.graph_Apply.l111010 K (n0 + 1) a0 a1 x0 x1 x2 = F.graph_Apply.l111010.B (F.graph_change_do K) (F.graph_Apply.l111010 K n0) a0 a1 x0 x1 x2 := (F.graph_Apply.in_eq K [1, 1, 1, 0, 1, 0] [n0 + 1] (F.graph_Apply.l111010.st a0 a1 x0 x1 x2)).trans ((show ∀ H, F.graph_Apply.in K H [1, 1, 1, 0, 1, 0] [n0 + 1] (F.graph_Apply.l111010.st a0 a1 x0 x1 x2) = F.graph_Apply.l111010.B (F.graph_change_do K) (fun a0 a1 x0 x1 x2 => H [1, 1, 1, 0, 1, 0] [n0] (F.graph_Apply.l111010.st a0 a1 x0 x1 x2)) a0 a1 x0 x1 x2 from by intro H; kernel_rfl) (F.graph_Apply.at K))
noncomputable def F.graph_Apply.B (c0 : (TGraph) → Option (Int)) (c1 : (TGraph) → Option (TGraph)) (c2 : (TGraph) → (List TOp) → (Int) → (List TNode) → (List TEdge) → Option (TGraph × Int × Int)) (a0 : TGraph) (a1 : List TOp) : Option (TGraph × Int × Int) :=
    ((c0 (a0.1, a0.2)).bind fun t0 => (bif (t0 != 0) then (some (([], []), 0, t0)) else ((c1 (a0.1, a0.2)).bind fun t1 => (c2 a0 a1 0 t1.1 t1.2))))
theorem F.graph_Apply.eq K a0 a1 : F.graph_Apply (K + 1) a0 a1 = F.graph_Apply.B (F.graph_Check K) (F.graph_Copy K) (F.graph_Apply.l111010 K K) a0 a1 := (F.graph_Apply.in_main K a0 a1).trans ((show ∀ H, F.graph_Apply.in K H [] [] ⟨slots [.agg [.list sNode a0.1 false, .list sEdge a0.2 false], .sc (.list sOp a1 false)] 0, []⟩ = F.graph_Apply.B (F.graph_Check K) (F.graph_Copy K) (fun a0 a1 x0 x1 x2 => H [1, 1, 1, 0, 1, 0] [K] (F.graph_Apply.l111010.st a0 a1 x0 x1 x2)) a0 a1 from by intro H; kernel_rfl) (F.graph_Apply.at K))
noncomputable def V.graph_Apply.l111010 (a0 : TGraph) (a1 : List TOp) (x0 : Int) (x1 : List TNode) (x2 : List TEdge) := lim fun v => F.graph_Apply.l111010 (v 0) (v 1) a0 a1 x0 x1 x2
noncomputable def V.graph_Apply (a0 : TGraph) (a1 : List TOp) := lim fun v => F.graph_Apply (v 0) a0 a1
theorem V.graph_Apply.l111010.of a0 a1 x0 x1 x2 {r} (h : F.graph_Apply.l111010.B V.graph_change_do V.graph_Apply.l111010 a0 a1 x0 x1 x2 = some r) : V.graph_Apply.l111010 a0 a1 x0 x1 x2 = some r :=
  App.to (App.step 1 (fun v => F.graph_Apply.l111010.eq (v 0) (v 1) a0 a1 x0 x1 x2) (by unfold F.graph_Apply.l111010.B; repeat' first | exact App.val | exact App.no | exact App.lim | apply App.cond | apply App.guard | apply App.meet | apply App.ite | refine App.bind ?_ fun _ => ?_)) h
theorem V.graph_Apply.of a0 a1 {r} (h : F.graph_Apply.B V.graph_Check V.graph_Copy V.graph_Apply.l111010 a0 a1 = some r) : V.graph_Apply a0 a1 = some r :=
  App.to (App.step 0 (fun v => F.graph_Apply.eq (v 0) a0 a1) (by unfold F.graph_Apply.B; repeat' first | exact App.val | exact App.no | exact App.lim | exact (App.enter 1 App.lim) | apply App.cond | apply App.guard | apply App.meet | apply App.ite | refine App.bind ?_ fun _ => ?_)) h
noncomputable def F.pleachlaw26_awake (K : Nat) : Option (Bool) := evFn Try.prog sg K 32 [] []
noncomputable def F.pleachlaw26_awake.B (c0 : (TGraph) → (List TOp) → Option (TGraph × Int × Int)) : Option (Bool) :=
    ((c0 ([], []) ([(3, (⟨#[120]⟩ : ByteArray), (⟨#[97]⟩ : ByteArray), (⟨#[98]⟩ : ByteArray), (⟨#[]⟩ : ByteArray), 0, 0, (⟨#[]⟩ : ByteArray))])).bind fun t0 => (bif (t0.2.1 == 0) then (some (t0.2.2 == 9)) else (some false)))
theorem F.pleachlaw26_awake.eq K : F.pleachlaw26_awake (K + 1) = F.pleachlaw26_awake.B (F.graph_Apply K) := by kernel_rfl
noncomputable def V.pleachlaw26_awake := lim fun v => F.pleachlaw26_awake (v 0)
theorem V.pleachlaw26_awake.of {r} (h : F.pleachlaw26_awake.B V.graph_Apply = some r) : V.pleachlaw26_awake = some r :=
  App.to (App.step 0 (fun v => F.pleachlaw26_awake.eq (v 0)) (by unfold F.pleachlaw26_awake.B; repeat' first | exact App.val | exact App.no | exact App.lim | apply App.cond | apply App.guard | apply App.meet | apply App.ite | refine App.bind ?_ fun _ => ?_)) h
noncomputable def F.pleachref25_SameTexts (K : Nat) (a0 : List ByteArray) (a1 : List ByteArray) : Option (Bool) := evFn Try.prog sg K 38 [.sc (.list .str a0 false), .sc (.list .str a1 false)] []
noncomputable def F.pleachref25_SameTexts.at (K : Nat) (p ns : List Nat) (s : St) : Option (Bool) := atFn Try.prog sg K 38 0 p ns s
noncomputable def F.pleachref25_SameTexts.in (K : Nat) (H : List Nat → List Nat → St → Option (Bool)) (p ns : List Nat) (s : St) : Option (Bool) := inFn Try.prog sg K 38 0 [] H p ns s
theorem F.pleachref25_SameTexts.in_eq K p ns s : F.pleachref25_SameTexts.at K p ns s = F.pleachref25_SameTexts.in K (F.pleachref25_SameTexts.at K) p ns s := atFn_eq (P := Try.prog) (sg := sg) (K := K) (f := 38) (m := 0) [] p ns s
theorem F.pleachref25_SameTexts.in_main K a0 a1 : F.pleachref25_SameTexts (K + 1) a0 a1 = F.pleachref25_SameTexts.in K (F.pleachref25_SameTexts.at K) [] [] ⟨slots [.sc (.list .str a0 false), .sc (.list .str a1 false)] 0, []⟩ := evFn_eq (P := Try.prog) (sg := sg) (K := K) (f := 38) (args := [.sc (.list .str a0 false), .sc (.list .str a1 false)]) (σ := []) [] (by kernel_rfl)
def F.pleachref25_SameTexts.l11010.st (a0 : List ByteArray) (a1 : List ByteArray) (x0 : Int) : St := ⟨[(0, vL .str a0), (1, vL .str a1), (5, vI x0)], []⟩
noncomputable def F.pleachref25_SameTexts.l11010 (K n0 : Nat) (a0 : List ByteArray) (a1 : List ByteArray) (x0 : Int) := F.pleachref25_SameTexts.at K [1, 1, 0, 1, 0] [n0] (F.pleachref25_SameTexts.l11010.st a0 a1 x0)
noncomputable def F.pleachref25_SameTexts.l11010.B (c0 : (List ByteArray) → (List ByteArray) → (Int) → Option (Bool)) (a0 : List ByteArray) (a1 : List ByteArray) (x0 : Int) : Option (Bool) :=
    (bif (decide (x0 < (a0.length : Int))) then (guardK (decide (0 ≤ x0) && decide (x0 < (a0.length : Int))) (guardK (decide (0 ≤ x0) && decide (x0 < (a1.length : Int))) (bif (!strEq (rd .str a0 x0.toNat) (rd .str a1 x0.toNat)) then (some false) else (c0 a0 a1 (w64 (x0 + 1)))))) else (some true))
theorem F.pleachref25_SameTexts.l11010.eq K n0 a0 a1 x0 : F.pleachref25_SameTexts.l11010 K (n0 + 1) a0 a1 x0 = F.pleachref25_SameTexts.l11010.B (F.pleachref25_SameTexts.l11010 K n0) a0 a1 x0 := (F.pleachref25_SameTexts.in_eq K [1, 1, 0, 1, 0] [n0 + 1] (F.pleachref25_SameTexts.l11010.st a0 a1 x0)).trans ((show ∀ H, F.pleachref25_SameTexts.in K H [1, 1, 0, 1, 0] [n0 + 1] (F.pleachref25_SameTexts.l11010.st a0 a1 x0) = F.pleachref25_SameTexts.l11010.B (fun a0 a1 x0 => H [1, 1, 0, 1, 0] [n0] (F.pleachref25_SameTexts.l11010.st a0 a1 x0)) a0 a1 x0 from by intro H; kernel_rfl) (F.pleachref25_SameTexts.at K))
noncomputable def F.pleachref25_SameTexts.B (c0 : (List ByteArray) → (List ByteArray) → (Int) → Option (Bool)) (a0 : List ByteArray) (a1 : List ByteArray) : Option (Bool) :=
    (bif ((a0.length : Int) != (a1.length : Int)) then (some false) else (c0 a0 a1 0))
theorem F.pleachref25_SameTexts.eq K a0 a1 : F.pleachref25_SameTexts (K + 1) a0 a1 = F.pleachref25_SameTexts.B (F.pleachref25_SameTexts.l11010 K K) a0 a1 := (F.pleachref25_SameTexts.in_main K a0 a1).trans ((show ∀ H, F.pleachref25_SameTexts.in K H [] [] ⟨slots [.sc (.list .str a0 false), .sc (.list .str a1 false)] 0, []⟩ = F.pleachref25_SameTexts.B (fun a0 a1 x0 => H [1, 1, 0, 1, 0] [K] (F.pleachref25_SameTexts.l11010.st a0 a1 x0)) a0 a1 from by intro H; kernel_rfl) (F.pleachref25_SameTexts.at K))
noncomputable def V.pleachref25_SameTexts.l11010 (a0 : List ByteArray) (a1 : List ByteArray) (x0 : Int) := lim fun v => F.pleachref25_SameTexts.l11010 (v 0) (v 1) a0 a1 x0
noncomputable def V.pleachref25_SameTexts (a0 : List ByteArray) (a1 : List ByteArray) := lim fun v => F.pleachref25_SameTexts (v 0) a0 a1
theorem V.pleachref25_SameTexts.l11010.of a0 a1 x0 {r} (h : F.pleachref25_SameTexts.l11010.B V.pleachref25_SameTexts.l11010 a0 a1 x0 = some r) : V.pleachref25_SameTexts.l11010 a0 a1 x0 = some r :=
  App.to (App.step 1 (fun v => F.pleachref25_SameTexts.l11010.eq (v 0) (v 1) a0 a1 x0) (by unfold F.pleachref25_SameTexts.l11010.B; repeat' first | exact App.val | exact App.no | exact App.lim | apply App.cond | apply App.guard | apply App.meet | apply App.ite | refine App.bind ?_ fun _ => ?_)) h
theorem V.pleachref25_SameTexts.of a0 a1 {r} (h : F.pleachref25_SameTexts.B V.pleachref25_SameTexts.l11010 a0 a1 = some r) : V.pleachref25_SameTexts a0 a1 = some r :=
  App.to (App.step 0 (fun v => F.pleachref25_SameTexts.eq (v 0) a0 a1) (by unfold F.pleachref25_SameTexts.B; repeat' first | exact App.val | exact App.no | exact App.lim | exact (App.enter 1 App.lim) | apply App.cond | apply App.guard | apply App.meet | apply App.ite | refine App.bind ?_ fun _ => ?_)) h
noncomputable def F.pleachref25_SameProps (K : Nat) (a0 : List TProp) (a1 : List TProp) : Option (Bool) := evFn Try.prog sg K 39 [.sc (.list sProp a0 false), .sc (.list sProp a1 false)] []
noncomputable def F.pleachref25_SameProps.at (K : Nat) (p ns : List Nat) (s : St) : Option (Bool) := atFn Try.prog sg K 39 0 p ns s
noncomputable def F.pleachref25_SameProps.in (K : Nat) (H : List Nat → List Nat → St → Option (Bool)) (p ns : List Nat) (s : St) : Option (Bool) := inFn Try.prog sg K 39 0 [] H p ns s
theorem F.pleachref25_SameProps.in_eq K p ns s : F.pleachref25_SameProps.at K p ns s = F.pleachref25_SameProps.in K (F.pleachref25_SameProps.at K) p ns s := atFn_eq (P := Try.prog) (sg := sg) (K := K) (f := 39) (m := 0) [] p ns s
theorem F.pleachref25_SameProps.in_main K a0 a1 : F.pleachref25_SameProps (K + 1) a0 a1 = F.pleachref25_SameProps.in K (F.pleachref25_SameProps.at K) [] [] ⟨slots [.sc (.list sProp a0 false), .sc (.list sProp a1 false)] 0, []⟩ := evFn_eq (P := Try.prog) (sg := sg) (K := K) (f := 39) (args := [.sc (.list sProp a0 false), .sc (.list sProp a1 false)]) (σ := []) [] (by kernel_rfl)
def F.pleachref25_SameProps.l11010.st (a0 : List TProp) (a1 : List TProp) (x0 : Int) : St := ⟨[(0, vL sProp a0), (1, vL sProp a1), (5, vI x0)], []⟩
noncomputable def F.pleachref25_SameProps.l11010 (K n0 : Nat) (a0 : List TProp) (a1 : List TProp) (x0 : Int) := F.pleachref25_SameProps.at K [1, 1, 0, 1, 0] [n0] (F.pleachref25_SameProps.l11010.st a0 a1 x0)
noncomputable def F.pleachref25_SameProps.l11010.B (c0 : (List TProp) → (List TProp) → (Int) → Option (Bool)) (a0 : List TProp) (a1 : List TProp) (x0 : Int) : Option (Bool) :=
    (bif (decide (x0 < (a0.length : Int))) then (guardK (decide (0 ≤ x0) && decide (x0 < (a0.length : Int))) (guardK (decide (0 ≤ x0) && decide (x0 < (a1.length : Int))) (bif (!((strEq ((rd sProp a0 x0.toNat).1) ((rd sProp a1 x0.toNat).1)) && (((((rd sProp a0 x0.toNat).2).1 == ((rd sProp a1 x0.toNat).2).1) && (((((rd sProp a0 x0.toNat).2).2).1 == (((rd sProp a1 x0.toNat).2).2).1) && ((strEq ((((rd sProp a0 x0.toNat).2).2).2) ((((rd sProp a1 x0.toNat).2).2).2)) && true))) && true))) then (some false) else (c0 a0 a1 (w64 (x0 + 1)))))) else (some true))
theorem F.pleachref25_SameProps.l11010.eq K n0 a0 a1 x0 : F.pleachref25_SameProps.l11010 K (n0 + 1) a0 a1 x0 = F.pleachref25_SameProps.l11010.B (F.pleachref25_SameProps.l11010 K n0) a0 a1 x0 := (F.pleachref25_SameProps.in_eq K [1, 1, 0, 1, 0] [n0 + 1] (F.pleachref25_SameProps.l11010.st a0 a1 x0)).trans ((show ∀ H, F.pleachref25_SameProps.in K H [1, 1, 0, 1, 0] [n0 + 1] (F.pleachref25_SameProps.l11010.st a0 a1 x0) = F.pleachref25_SameProps.l11010.B (fun a0 a1 x0 => H [1, 1, 0, 1, 0] [n0] (F.pleachref25_SameProps.l11010.st a0 a1 x0)) a0 a1 x0 from by intro H; kernel_rfl) (F.pleachref25_SameProps.at K))
noncomputable def F.pleachref25_SameProps.B (c0 : (List TProp) → (List TProp) → (Int) → Option (Bool)) (a0 : List TProp) (a1 : List TProp) : Option (Bool) :=
    (bif ((a0.length : Int) != (a1.length : Int)) then (some false) else (c0 a0 a1 0))
theorem F.pleachref25_SameProps.eq K a0 a1 : F.pleachref25_SameProps (K + 1) a0 a1 = F.pleachref25_SameProps.B (F.pleachref25_SameProps.l11010 K K) a0 a1 := (F.pleachref25_SameProps.in_main K a0 a1).trans ((show ∀ H, F.pleachref25_SameProps.in K H [] [] ⟨slots [.sc (.list sProp a0 false), .sc (.list sProp a1 false)] 0, []⟩ = F.pleachref25_SameProps.B (fun a0 a1 x0 => H [1, 1, 0, 1, 0] [K] (F.pleachref25_SameProps.l11010.st a0 a1 x0)) a0 a1 from by intro H; kernel_rfl) (F.pleachref25_SameProps.at K))
noncomputable def V.pleachref25_SameProps.l11010 (a0 : List TProp) (a1 : List TProp) (x0 : Int) := lim fun v => F.pleachref25_SameProps.l11010 (v 0) (v 1) a0 a1 x0
noncomputable def V.pleachref25_SameProps (a0 : List TProp) (a1 : List TProp) := lim fun v => F.pleachref25_SameProps (v 0) a0 a1
theorem V.pleachref25_SameProps.l11010.of a0 a1 x0 {r} (h : F.pleachref25_SameProps.l11010.B V.pleachref25_SameProps.l11010 a0 a1 x0 = some r) : V.pleachref25_SameProps.l11010 a0 a1 x0 = some r :=
  App.to (App.step 1 (fun v => F.pleachref25_SameProps.l11010.eq (v 0) (v 1) a0 a1 x0) (by unfold F.pleachref25_SameProps.l11010.B; repeat' first | exact App.val | exact App.no | exact App.lim | apply App.cond | apply App.guard | apply App.meet | apply App.ite | refine App.bind ?_ fun _ => ?_)) h
theorem V.pleachref25_SameProps.of a0 a1 {r} (h : F.pleachref25_SameProps.B V.pleachref25_SameProps.l11010 a0 a1 = some r) : V.pleachref25_SameProps a0 a1 = some r :=
  App.to (App.step 0 (fun v => F.pleachref25_SameProps.eq (v 0) a0 a1) (by unfold F.pleachref25_SameProps.B; repeat' first | exact App.val | exact App.no | exact App.lim | exact (App.enter 1 App.lim) | apply App.cond | apply App.guard | apply App.meet | apply App.ite | refine App.bind ?_ fun _ => ?_)) h
noncomputable def F.pleachref25_SameNode (K : Nat) (a0 : TNode) (a1 : TNode) : Option (Bool) := evFn Try.prog sg K 88 [.agg [.val (.string a0.1), .list .str a0.2.1 false, .list sProp a0.2.2 false], .agg [.val (.string a1.1), .list .str a1.2.1 false, .list sProp a1.2.2 false]] []
noncomputable def F.pleachref25_SameNode.B (c0 : (List ByteArray) → (List ByteArray) → Option (Bool)) (c1 : (List TProp) → (List TProp) → Option (Bool)) (a0 : TNode) (a1 : TNode) : Option (Bool) :=
    (bif (strEq a0.1 a1.1) then ((c0 a0.2.1 a1.2.1).bind fun t0 => (bif t0 then ((c1 a0.2.2 a1.2.2).bind fun t1 => (some t1)) else (some false))) else (some false))
theorem F.pleachref25_SameNode.eq K a0 a1 : F.pleachref25_SameNode (K + 1) a0 a1 = F.pleachref25_SameNode.B (F.pleachref25_SameTexts K) (F.pleachref25_SameProps K) a0 a1 := by kernel_rfl
noncomputable def V.pleachref25_SameNode (a0 : TNode) (a1 : TNode) := lim fun v => F.pleachref25_SameNode (v 0) a0 a1
theorem V.pleachref25_SameNode.of a0 a1 {r} (h : F.pleachref25_SameNode.B V.pleachref25_SameTexts V.pleachref25_SameProps a0 a1 = some r) : V.pleachref25_SameNode a0 a1 = some r :=
  App.to (App.step 0 (fun v => F.pleachref25_SameNode.eq (v 0) a0 a1) (by unfold F.pleachref25_SameNode.B; repeat' first | exact App.val | exact App.no | exact App.lim | apply App.cond | apply App.guard | apply App.meet | apply App.ite | refine App.bind ?_ fun _ => ?_)) h
noncomputable def F.pleachref25_SameEdge (K : Nat) (a0 : TEdge) (a1 : TEdge) : Option (Bool) := evFn Try.prog sg K 89 [.agg [.val (.string a0.1), .val (.string a0.2.1), .val (.string a0.2.2.1), .list .str a0.2.2.2.1 false, .list sProp a0.2.2.2.2 false], .agg [.val (.string a1.1), .val (.string a1.2.1), .val (.string a1.2.2.1), .list .str a1.2.2.2.1 false, .list sProp a1.2.2.2.2 false]] []
noncomputable def F.pleachref25_SameEdge.B (c0 : (List ByteArray) → (List ByteArray) → Option (Bool)) (c1 : (List TProp) → (List TProp) → Option (Bool)) (a0 : TEdge) (a1 : TEdge) : Option (Bool) :=
    (bif (strEq a0.1 a1.1) then (bif (strEq a0.2.1 a1.2.1) then (bif (strEq a0.2.2.1 a1.2.2.1) then ((c0 a0.2.2.2.1 a1.2.2.2.1).bind fun t0 => (bif t0 then ((c1 a0.2.2.2.2 a1.2.2.2.2).bind fun t1 => (some t1)) else (some false))) else (some false)) else (some false)) else (some false))
theorem F.pleachref25_SameEdge.eq K a0 a1 : F.pleachref25_SameEdge (K + 1) a0 a1 = F.pleachref25_SameEdge.B (F.pleachref25_SameTexts K) (F.pleachref25_SameProps K) a0 a1 := by kernel_rfl
noncomputable def V.pleachref25_SameEdge (a0 : TEdge) (a1 : TEdge) := lim fun v => F.pleachref25_SameEdge (v 0) a0 a1
theorem V.pleachref25_SameEdge.of a0 a1 {r} (h : F.pleachref25_SameEdge.B V.pleachref25_SameTexts V.pleachref25_SameProps a0 a1 = some r) : V.pleachref25_SameEdge a0 a1 = some r :=
  App.to (App.step 0 (fun v => F.pleachref25_SameEdge.eq (v 0) a0 a1) (by unfold F.pleachref25_SameEdge.B; repeat' first | exact App.val | exact App.no | exact App.lim | apply App.cond | apply App.guard | apply App.meet | apply App.ite | refine App.bind ?_ fun _ => ?_)) h
noncomputable def F.pleachref26_Same (K : Nat) (a0 : TGraph) (a1 : TGraph) : Option (Bool) := evFn Try.prog sg K 42 [.agg [.list sNode a0.1 false, .list sEdge a0.2 false], .agg [.list sNode a1.1 false, .list sEdge a1.2 false]] []
noncomputable def F.pleachref26_Same.at (K : Nat) (p ns : List Nat) (s : St) : Option (Bool) := atFn Try.prog sg K 42 0 p ns s
noncomputable def F.pleachref26_Same.in (K : Nat) (H : List Nat → List Nat → St → Option (Bool)) (p ns : List Nat) (s : St) : Option (Bool) := inFn Try.prog sg K 42 0 [] H p ns s
theorem F.pleachref26_Same.in_eq K p ns s : F.pleachref26_Same.at K p ns s = F.pleachref26_Same.in K (F.pleachref26_Same.at K) p ns s := atFn_eq (P := Try.prog) (sg := sg) (K := K) (f := 42) (m := 0) [] p ns s
theorem F.pleachref26_Same.in_main K a0 a1 : F.pleachref26_Same (K + 1) a0 a1 = F.pleachref26_Same.in K (F.pleachref26_Same.at K) [] [] ⟨slots [.agg [.list sNode a0.1 false, .list sEdge a0.2 false], .agg [.list sNode a1.1 false, .list sEdge a1.2 false]] 0, []⟩ := evFn_eq (P := Try.prog) (sg := sg) (K := K) (f := 42) (args := [.agg [.list sNode a0.1 false, .list sEdge a0.2 false], .agg [.list sNode a1.1 false, .list sEdge a1.2 false]]) (σ := []) [] (by kernel_rfl)
def F.pleachref26_Same.l11010.st (a0 : TGraph) (a1 : TGraph) (x0 : Int) : St := ⟨[(2, .one (.sc (.ref 0 0))), (3, .one (.sc (.ref 1 0))), (5, vI x0)], [.cells 25 [.list sNode a0.1 false, .list sEdge a0.2 false], .cells 25 [.list sNode a1.1 false, .list sEdge a1.2 false]]⟩
noncomputable def F.pleachref26_Same.l11010 (K n0 : Nat) (a0 : TGraph) (a1 : TGraph) (x0 : Int) := F.pleachref26_Same.at K [1, 1, 0, 1, 0] [n0] (F.pleachref26_Same.l11010.st a0 a1 x0)
def F.pleachref26_Same.l111010.st (a0 : TGraph) (a1 : TGraph) (x0 : Int) : St := ⟨[(2, .one (.sc (.ref 0 0))), (3, .one (.sc (.ref 1 0))), (6, vI x0)], [.cells 25 [.list sNode a0.1 false, .list sEdge a0.2 false], .cells 25 [.list sNode a1.1 false, .list sEdge a1.2 false]]⟩
noncomputable def F.pleachref26_Same.l111010 (K n0 : Nat) (a0 : TGraph) (a1 : TGraph) (x0 : Int) := F.pleachref26_Same.at K [1, 1, 1, 0, 1, 0] [n0] (F.pleachref26_Same.l111010.st a0 a1 x0)
noncomputable def F.pleachref26_Same.l11010.B (c0 : (TNode) → (TNode) → Option (Bool)) (c1 : (TGraph) → (TGraph) → (Int) → Option (Bool)) (c2 : (TGraph) → (TGraph) → (Int) → Option (Bool)) (a0 : TGraph) (a1 : TGraph) (x0 : Int) : Option (Bool) :=
    (bif (decide (x0 < (a0.1.length : Int))) then (guardK (decide (0 ≤ x0) && decide (x0 < (a0.1.length : Int))) (guardK (decide (0 ≤ x0) && decide (x0 < (a1.1.length : Int))) ((c0 ((rd sNode a0.1 x0.toNat).1, ((rd sNode a0.1 x0.toNat).2).1, ((rd sNode a0.1 x0.toNat).2).2) ((rd sNode a1.1 x0.toNat).1, ((rd sNode a1.1 x0.toNat).2).1, ((rd sNode a1.1 x0.toNat).2).2)).bind fun t0 => (bif (!t0) then (some false) else (c1 a0 a1 (w64 (x0 + 1))))))) else (c2 a0 a1 0))
theorem F.pleachref26_Same.l11010.eq K n0 a0 a1 x0 : F.pleachref26_Same.l11010 K (n0 + 1) a0 a1 x0 = F.pleachref26_Same.l11010.B (F.pleachref25_SameNode K) (F.pleachref26_Same.l11010 K n0) (F.pleachref26_Same.l111010 K K) a0 a1 x0 := (F.pleachref26_Same.in_eq K [1, 1, 0, 1, 0] [n0 + 1] (F.pleachref26_Same.l11010.st a0 a1 x0)).trans ((show ∀ H, F.pleachref26_Same.in K H [1, 1, 0, 1, 0] [n0 + 1] (F.pleachref26_Same.l11010.st a0 a1 x0) = F.pleachref26_Same.l11010.B (F.pleachref25_SameNode K) (fun a0 a1 x0 => H [1, 1, 0, 1, 0] [n0] (F.pleachref26_Same.l11010.st a0 a1 x0)) (fun a0 a1 x0 => H [1, 1, 1, 0, 1, 0] [K] (F.pleachref26_Same.l111010.st a0 a1 x0)) a0 a1 x0 from by intro H; kernel_rfl) (F.pleachref26_Same.at K))
noncomputable def F.pleachref26_Same.l111010.B (c0 : (TEdge) → (TEdge) → Option (Bool)) (c1 : (TGraph) → (TGraph) → (Int) → Option (Bool)) (a0 : TGraph) (a1 : TGraph) (x0 : Int) : Option (Bool) :=
    (bif (decide (x0 < (a0.2.length : Int))) then (guardK (decide (0 ≤ x0) && decide (x0 < (a0.2.length : Int))) (guardK (decide (0 ≤ x0) && decide (x0 < (a1.2.length : Int))) ((c0 ((rd sEdge a0.2 x0.toNat).1, ((rd sEdge a0.2 x0.toNat).2).1, (((rd sEdge a0.2 x0.toNat).2).2).1, ((((rd sEdge a0.2 x0.toNat).2).2).2).1, ((((rd sEdge a0.2 x0.toNat).2).2).2).2) ((rd sEdge a1.2 x0.toNat).1, ((rd sEdge a1.2 x0.toNat).2).1, (((rd sEdge a1.2 x0.toNat).2).2).1, ((((rd sEdge a1.2 x0.toNat).2).2).2).1, ((((rd sEdge a1.2 x0.toNat).2).2).2).2)).bind fun t1 => (bif (!t1) then (some false) else (c1 a0 a1 (w64 (x0 + 1))))))) else (some true))
theorem F.pleachref26_Same.l111010.eq K n0 a0 a1 x0 : F.pleachref26_Same.l111010 K (n0 + 1) a0 a1 x0 = F.pleachref26_Same.l111010.B (F.pleachref25_SameEdge K) (F.pleachref26_Same.l111010 K n0) a0 a1 x0 := (F.pleachref26_Same.in_eq K [1, 1, 1, 0, 1, 0] [n0 + 1] (F.pleachref26_Same.l111010.st a0 a1 x0)).trans ((show ∀ H, F.pleachref26_Same.in K H [1, 1, 1, 0, 1, 0] [n0 + 1] (F.pleachref26_Same.l111010.st a0 a1 x0) = F.pleachref26_Same.l111010.B (F.pleachref25_SameEdge K) (fun a0 a1 x0 => H [1, 1, 1, 0, 1, 0] [n0] (F.pleachref26_Same.l111010.st a0 a1 x0)) a0 a1 x0 from by intro H; kernel_rfl) (F.pleachref26_Same.at K))
noncomputable def F.pleachref26_Same.B (c0 : (TGraph) → (TGraph) → (Int) → Option (Bool)) (a0 : TGraph) (a1 : TGraph) : Option (Bool) :=
    (bif ((a0.1.length : Int) != (a1.1.length : Int)) then (some false) else (bif ((a0.2.length : Int) != (a1.2.length : Int)) then (some false) else (c0 a0 a1 0)))
theorem F.pleachref26_Same.eq K a0 a1 : F.pleachref26_Same (K + 1) a0 a1 = F.pleachref26_Same.B (F.pleachref26_Same.l11010 K K) a0 a1 := (F.pleachref26_Same.in_main K a0 a1).trans ((show ∀ H, F.pleachref26_Same.in K H [] [] ⟨slots [.agg [.list sNode a0.1 false, .list sEdge a0.2 false], .agg [.list sNode a1.1 false, .list sEdge a1.2 false]] 0, []⟩ = F.pleachref26_Same.B (fun a0 a1 x0 => H [1, 1, 0, 1, 0] [K] (F.pleachref26_Same.l11010.st a0 a1 x0)) a0 a1 from by intro H; kernel_rfl) (F.pleachref26_Same.at K))
noncomputable def V.pleachref26_Same.l11010 (a0 : TGraph) (a1 : TGraph) (x0 : Int) := lim fun v => F.pleachref26_Same.l11010 (v 0) (v 1) a0 a1 x0
noncomputable def V.pleachref26_Same.l111010 (a0 : TGraph) (a1 : TGraph) (x0 : Int) := lim fun v => F.pleachref26_Same.l111010 (v 0) (v 1) a0 a1 x0
noncomputable def V.pleachref26_Same (a0 : TGraph) (a1 : TGraph) := lim fun v => F.pleachref26_Same (v 0) a0 a1
theorem V.pleachref26_Same.l11010.of a0 a1 x0 {r} (h : F.pleachref26_Same.l11010.B V.pleachref25_SameNode V.pleachref26_Same.l11010 V.pleachref26_Same.l111010 a0 a1 x0 = some r) : V.pleachref26_Same.l11010 a0 a1 x0 = some r :=
  App.to (App.step 1 (fun v => F.pleachref26_Same.l11010.eq (v 0) (v 1) a0 a1 x0) (by unfold F.pleachref26_Same.l11010.B; repeat' first | exact App.val | exact App.no | exact App.lim | exact (App.enter 1 App.lim) | apply App.cond | apply App.guard | apply App.meet | apply App.ite | refine App.bind ?_ fun _ => ?_)) h
theorem V.pleachref26_Same.l111010.of a0 a1 x0 {r} (h : F.pleachref26_Same.l111010.B V.pleachref25_SameEdge V.pleachref26_Same.l111010 a0 a1 x0 = some r) : V.pleachref26_Same.l111010 a0 a1 x0 = some r :=
  App.to (App.step 1 (fun v => F.pleachref26_Same.l111010.eq (v 0) (v 1) a0 a1 x0) (by unfold F.pleachref26_Same.l111010.B; repeat' first | exact App.val | exact App.no | exact App.lim | apply App.cond | apply App.guard | apply App.meet | apply App.ite | refine App.bind ?_ fun _ => ?_)) h
theorem V.pleachref26_Same.of a0 a1 {r} (h : F.pleachref26_Same.B V.pleachref26_Same.l11010 a0 a1 = some r) : V.pleachref26_Same a0 a1 = some r :=
  App.to (App.step 0 (fun v => F.pleachref26_Same.eq (v 0) a0 a1) (by unfold F.pleachref26_Same.B; repeat' first | exact App.val | exact App.no | exact App.lim | exact (App.enter 1 App.lim) | apply App.cond | apply App.guard | apply App.meet | apply App.ite | refine App.bind ?_ fun _ => ?_)) h
noncomputable def F.pleachref26_FewOps (K : Nat) (a0 : List TOp) : Option (Bool) := evFn Try.prog sg K 31 [.sc (.list sOp a0 false)] []
noncomputable def F.pleachref26_FewOps.at (K : Nat) (p ns : List Nat) (s : St) : Option (Bool) := atFn Try.prog sg K 31 0 p ns s
noncomputable def F.pleachref26_FewOps.in (K : Nat) (H : List Nat → List Nat → St → Option (Bool)) (p ns : List Nat) (s : St) : Option (Bool) := inFn Try.prog sg K 31 0 [] H p ns s
theorem F.pleachref26_FewOps.in_eq K p ns s : F.pleachref26_FewOps.at K p ns s = F.pleachref26_FewOps.in K (F.pleachref26_FewOps.at K) p ns s := atFn_eq (P := Try.prog) (sg := sg) (K := K) (f := 31) (m := 0) [] p ns s
theorem F.pleachref26_FewOps.in_main K a0 : F.pleachref26_FewOps (K + 1) a0 = F.pleachref26_FewOps.in K (F.pleachref26_FewOps.at K) [] [] ⟨slots [.sc (.list sOp a0 false)] 0, []⟩ := evFn_eq (P := Try.prog) (sg := sg) (K := K) (f := 31) (args := [.sc (.list sOp a0 false)]) (σ := []) [] (by kernel_rfl)
def F.pleachref26_FewOps.l11010.st (a0 : List TOp) (x0 : Int) (x1 : Int) : St := ⟨[(0, vL sOp a0), (3, vI x0), (4, vI x1)], []⟩
noncomputable def F.pleachref26_FewOps.l11010 (K n0 : Nat) (a0 : List TOp) (x0 : Int) (x1 : Int) := F.pleachref26_FewOps.at K [1, 1, 0, 1, 0] [n0] (F.pleachref26_FewOps.l11010.st a0 x0 x1)
noncomputable def F.pleachref26_FewOps.l11010.B (c0 : (List TOp) → (Int) → (Int) → Option (Bool)) (a0 : List TOp) (x0 : Int) (x1 : Int) : Option (Bool) :=
    (bif (decide (x1 < (a0.length : Int))) then (bif (decide (x1 ≤ 70)) then (guardK (decide (0 ≤ x1) && decide (x1 < (a0.length : Int))) (guardK (decide (0 ≤ x1) && decide (x1 < (a0.length : Int))) (guardK (decide (0 ≤ x1) && decide (x1 < (a0.length : Int))) (guardK (decide (0 ≤ x1) && decide (x1 < (a0.length : Int))) (guardK (decide (0 ≤ x1) && decide (x1 < (a0.length : Int))) (c0 a0 (w64 ((w64 ((w64 ((w64 ((w64 (x0 + (if 5000 < ((((rd sOp a0 x1.toNat).2).1).size : Int) then 5000 else ((((rd sOp a0 x1.toNat).2).1).size : Int)))) + (if 5000 < (((((rd sOp a0 x1.toNat).2).2).1).size : Int) then 5000 else (((((rd sOp a0 x1.toNat).2).2).1).size : Int)))) + (if 5000 < ((((((rd sOp a0 x1.toNat).2).2).2).1).size : Int) then 5000 else ((((((rd sOp a0 x1.toNat).2).2).2).1).size : Int)))) + (if 5000 < (((((((rd sOp a0 x1.toNat).2).2).2).2).1).size : Int) then 5000 else (((((((rd sOp a0 x1.toNat).2).2).2).2).1).size : Int)))) + (if 5000 < (((((((((rd sOp a0 x1.toNat).2).2).2).2).2).2).2).size : Int) then 5000 else (((((((((rd sOp a0 x1.toNat).2).2).2).2).2).2).2).size : Int)))) (w64 (x1 + 1)))))))) else (bif (decide ((a0.length : Int) ≤ 70)) then (some (decide (x0 ≤ 5000))) else (some false))) else (bif (decide ((a0.length : Int) ≤ 70)) then (some (decide (x0 ≤ 5000))) else (some false)))
theorem F.pleachref26_FewOps.l11010.eq K n0 a0 x0 x1 : F.pleachref26_FewOps.l11010 K (n0 + 1) a0 x0 x1 = F.pleachref26_FewOps.l11010.B (F.pleachref26_FewOps.l11010 K n0) a0 x0 x1 := (F.pleachref26_FewOps.in_eq K [1, 1, 0, 1, 0] [n0 + 1] (F.pleachref26_FewOps.l11010.st a0 x0 x1)).trans ((show ∀ H, F.pleachref26_FewOps.in K H [1, 1, 0, 1, 0] [n0 + 1] (F.pleachref26_FewOps.l11010.st a0 x0 x1) = F.pleachref26_FewOps.l11010.B (fun a0 x0 x1 => H [1, 1, 0, 1, 0] [n0] (F.pleachref26_FewOps.l11010.st a0 x0 x1)) a0 x0 x1 from by intro H; kernel_rfl) (F.pleachref26_FewOps.at K))
noncomputable def F.pleachref26_FewOps.B (c0 : (List TOp) → (Int) → (Int) → Option (Bool)) (a0 : List TOp) : Option (Bool) :=
    (c0 a0 0 0)
theorem F.pleachref26_FewOps.eq K a0 : F.pleachref26_FewOps (K + 1) a0 = F.pleachref26_FewOps.B (F.pleachref26_FewOps.l11010 K K) a0 := (F.pleachref26_FewOps.in_main K a0).trans ((show ∀ H, F.pleachref26_FewOps.in K H [] [] ⟨slots [.sc (.list sOp a0 false)] 0, []⟩ = F.pleachref26_FewOps.B (fun a0 x0 x1 => H [1, 1, 0, 1, 0] [K] (F.pleachref26_FewOps.l11010.st a0 x0 x1)) a0 from by intro H; kernel_rfl) (F.pleachref26_FewOps.at K))
noncomputable def V.pleachref26_FewOps.l11010 (a0 : List TOp) (x0 : Int) (x1 : Int) := lim fun v => F.pleachref26_FewOps.l11010 (v 0) (v 1) a0 x0 x1
noncomputable def V.pleachref26_FewOps (a0 : List TOp) := lim fun v => F.pleachref26_FewOps (v 0) a0
theorem V.pleachref26_FewOps.l11010.of a0 x0 x1 {r} (h : F.pleachref26_FewOps.l11010.B V.pleachref26_FewOps.l11010 a0 x0 x1 = some r) : V.pleachref26_FewOps.l11010 a0 x0 x1 = some r :=
  App.to (App.step 1 (fun v => F.pleachref26_FewOps.l11010.eq (v 0) (v 1) a0 x0 x1) (by unfold F.pleachref26_FewOps.l11010.B; repeat' first | exact App.val | exact App.no | exact App.lim | apply App.cond | apply App.guard | apply App.meet | apply App.ite | refine App.bind ?_ fun _ => ?_)) h
theorem V.pleachref26_FewOps.of a0 {r} (h : F.pleachref26_FewOps.B V.pleachref26_FewOps.l11010 a0 = some r) : V.pleachref26_FewOps a0 = some r :=
  App.to (App.step 0 (fun v => F.pleachref26_FewOps.eq (v 0) a0) (by unfold F.pleachref26_FewOps.B; repeat' first | exact App.val | exact App.no | exact App.lim | exact (App.enter 1 App.lim) | apply App.cond | apply App.guard | apply App.meet | apply App.ite | refine App.bind ?_ fun _ => ?_)) h
noncomputable def F.pleachlaw26_GraphStays (K : Nat) (a0 : TGraph) (a1 : List TOp) (a2 : TOp) : Option (Bool) := evFn Try.prog sg K 7 [.agg [.list sNode a0.1 false, .list sEdge a0.2 false], .sc (.list sOp a1 false), .agg [.val (.int .i64 a2.1), .val (.string a2.2.1), .val (.string a2.2.2.1), .val (.string a2.2.2.2.1), .val (.string a2.2.2.2.2.1), .val (.int .i64 a2.2.2.2.2.2.1), .val (.int .i64 a2.2.2.2.2.2.2.1), .val (.string a2.2.2.2.2.2.2.2)]] []
noncomputable def F.pleachlaw26_GraphStays.at (K : Nat) (p ns : List Nat) (s : St) : Option (Bool) := atFn Try.prog sg K 7 0 p ns s
noncomputable def F.pleachlaw26_GraphStays.in (K : Nat) (H : List Nat → List Nat → St → Option (Bool)) (p ns : List Nat) (s : St) : Option (Bool) := inFn Try.prog sg K 7 0 [[1, 0, 1], [1, 1, 1, 1, 1, 1]] H p ns s
theorem F.pleachlaw26_GraphStays.in_eq K p ns s : F.pleachlaw26_GraphStays.at K p ns s = F.pleachlaw26_GraphStays.in K (F.pleachlaw26_GraphStays.at K) p ns s := atFn_eq (P := Try.prog) (sg := sg) (K := K) (f := 7) (m := 0) [[1, 0, 1], [1, 1, 1, 1, 1, 1]] p ns s
theorem F.pleachlaw26_GraphStays.in_main K a0 a1 a2 : F.pleachlaw26_GraphStays (K + 1) a0 a1 a2 = F.pleachlaw26_GraphStays.in K (F.pleachlaw26_GraphStays.at K) [] [] ⟨slots [.agg [.list sNode a0.1 false, .list sEdge a0.2 false], .sc (.list sOp a1 false), .agg [.val (.int .i64 a2.1), .val (.string a2.2.1), .val (.string a2.2.2.1), .val (.string a2.2.2.2.1), .val (.string a2.2.2.2.2.1), .val (.int .i64 a2.2.2.2.2.2.1), .val (.int .i64 a2.2.2.2.2.2.2.1), .val (.string a2.2.2.2.2.2.2.2)]] 0, []⟩ := evFn_eq (P := Try.prog) (sg := sg) (K := K) (f := 7) (args := [.agg [.list sNode a0.1 false, .list sEdge a0.2 false], .sc (.list sOp a1 false), .agg [.val (.int .i64 a2.1), .val (.string a2.2.1), .val (.string a2.2.2.1), .val (.string a2.2.2.2.1), .val (.string a2.2.2.2.2.1), .val (.int .i64 a2.2.2.2.2.2.1), .val (.int .i64 a2.2.2.2.2.2.2.1), .val (.string a2.2.2.2.2.2.2.2)]]) (σ := []) [[1, 0, 1], [1, 1, 1, 1, 1, 1]] (by kernel_rfl)
def F.pleachlaw26_GraphStays.j101.st (a0 : TGraph) (a1 : List TOp) (a2 : TOp) (x0 : Bool) : St := ⟨[(1, vL sOp a1), (3, .one (.sc (.ref 0 0))), (5, .one (.sc (.ref 1 0))), (29, vB x0)], [.cells 25 [.list sNode a0.1 false, .list sEdge a0.2 false], .cells 53 [.val (.int .i64 a2.1), .val (.string a2.2.1), .val (.string a2.2.2.1), .val (.string a2.2.2.2.1), .val (.string a2.2.2.2.2.1), .val (.int .i64 a2.2.2.2.2.2.1), .val (.int .i64 a2.2.2.2.2.2.2.1), .val (.string a2.2.2.2.2.2.2.2)]]⟩
noncomputable def F.pleachlaw26_GraphStays.j101 (K : Nat) (a0 : TGraph) (a1 : List TOp) (a2 : TOp) (x0 : Bool) := F.pleachlaw26_GraphStays.at K [1, 0, 1] [] (F.pleachlaw26_GraphStays.j101.st a0 a1 a2 x0)
def F.pleachlaw26_GraphStays.j111111.st (a0 : TGraph) (a1 : List TOp) (a2 : TOp) (x0 : Int) (x1 : Int) (x2 : List TNode) (x3 : List TEdge) (x4 : List TNode) (x5 : List TEdge) (x6 : List TNode) (x7 : List TEdge) : St := ⟨[(7, .one (.sc (.ref 0 0))), (10, .one (.sc (.ref 1 0))), (12, vI x0), (13, .one (.sc (.ref 2 0))), (15, vI x1)], [.cells 25 [.list sNode x2 false, .list sEdge x3 false], .cells 25 [.list sNode x4 false, .list sEdge x5 false], .cells 25 [.list sNode x6 false, .list sEdge x7 false]]⟩
noncomputable def F.pleachlaw26_GraphStays.j111111 (K : Nat) (a0 : TGraph) (a1 : List TOp) (a2 : TOp) (x0 : Int) (x1 : Int) (x2 : List TNode) (x3 : List TEdge) (x4 : List TNode) (x5 : List TEdge) (x6 : List TNode) (x7 : List TEdge) := F.pleachlaw26_GraphStays.at K [1, 1, 1, 1, 1, 1] [] (F.pleachlaw26_GraphStays.j111111.st a0 a1 a2 x0 x1 x2 x3 x4 x5 x6 x7)
noncomputable def F.pleachlaw26_GraphStays.j101.B (c0 : Option (Bool)) (c1 : (TGraph) → (List TOp) → Option (TGraph × Int × Int)) (c2 : (TGraph) → (List TOp) → (TOp) → (Int) → (Int) → (List TNode) → (List TEdge) → (List TNode) → (List TEdge) → (List TNode) → (List TEdge) → Option (Bool)) (a0 : TGraph) (a1 : List TOp) (a2 : TOp) (x0 : Bool) : Option (Bool) :=
    (bif x0 then ((c0).bind fun t3 => (some t3)) else ((c1 (a0.1, a0.2) a1).bind fun t4 => (bif (t4.2.2 != 0) then ((c0).bind fun t5 => (some t5)) else ((c1 (t4.1.1, t4.1.2) ([(a2.1, a2.2.1, a2.2.2.1, a2.2.2.2.1, a2.2.2.2.2.1, a2.2.2.2.2.2.1, a2.2.2.2.2.2.2.1, a2.2.2.2.2.2.2.2)])).bind fun t6 => (meet (meet (guardK (decide (0 + a1.length ≤ nmax)) (meet (meet (guardK (decide (([] ++ a1).length + ([(a2.1, a2.2.1, a2.2.2.1, a2.2.2.2.1, a2.2.2.2.2.1, a2.2.2.2.2.2.1, a2.2.2.2.2.2.2.1, a2.2.2.2.2.2.2.2)]).length ≤ nmax)) (meet ((c1 (a0.1, a0.2) (([] ++ a1) ++ [(a2.1, a2.2.1, a2.2.2.1, a2.2.2.2.1, a2.2.2.2.2.1, a2.2.2.2.2.2.1, a2.2.2.2.2.2.2.1, a2.2.2.2.2.2.2.2)])).bind fun t7 => (c2 a0 a1 a2 t6.2.2 t7.2.2 t4.1.1 t4.1.2 t6.1.1 t6.1.2 t7.1.1 t7.1.2)) ((c1 (a0.1, a0.2) (([] ++ a1) ++ [(a2.1, a2.2.1, a2.2.2.1, a2.2.2.2.1, a2.2.2.2.2.1, a2.2.2.2.2.2.1, a2.2.2.2.2.2.2.1, a2.2.2.2.2.2.2.2)])).bind fun t8 => (c2 a0 a1 a2 t6.2.2 t8.2.2 t4.1.1 t4.1.2 t6.1.1 t6.1.2 t8.1.1 t8.1.2)))) (guardK (decide (([] ++ a1).length + ([(a2.1, a2.2.1, a2.2.2.1, a2.2.2.2.1, a2.2.2.2.2.1, a2.2.2.2.2.2.1, a2.2.2.2.2.2.2.1, a2.2.2.2.2.2.2.2)]).length ≤ nmax)) ((c1 (a0.1, a0.2) (([] ++ a1) ++ [(a2.1, a2.2.1, a2.2.2.1, a2.2.2.2.1, a2.2.2.2.2.1, a2.2.2.2.2.2.1, a2.2.2.2.2.2.2.1, a2.2.2.2.2.2.2.2)])).bind fun t9 => (c2 a0 a1 a2 t6.2.2 t9.2.2 t4.1.1 t4.1.2 t6.1.1 t6.1.2 t9.1.1 t9.1.2)))) (guardK (decide (([] ++ a1).length + ([(a2.1, a2.2.1, a2.2.2.1, a2.2.2.2.1, a2.2.2.2.2.1, a2.2.2.2.2.2.1, a2.2.2.2.2.2.2.1, a2.2.2.2.2.2.2.2)]).length ≤ nmax)) ((c1 (a0.1, a0.2) (([] ++ a1) ++ [(a2.1, a2.2.1, a2.2.2.1, a2.2.2.2.1, a2.2.2.2.2.1, a2.2.2.2.2.2.1, a2.2.2.2.2.2.2.1, a2.2.2.2.2.2.2.2)])).bind fun t10 => (c2 a0 a1 a2 t6.2.2 t10.2.2 t4.1.1 t4.1.2 t6.1.1 t6.1.2 t10.1.1 t10.1.2))))) (meet (meet (guardK (decide (0 + a1.length ≤ nmax)) (meet (guardK (decide (([] ++ a1).length + ([(a2.1, a2.2.1, a2.2.2.1, a2.2.2.2.1, a2.2.2.2.2.1, a2.2.2.2.2.2.1, a2.2.2.2.2.2.2.1, a2.2.2.2.2.2.2.2)]).length ≤ nmax)) (meet ((c1 (a0.1, a0.2) (([] ++ a1) ++ [(a2.1, a2.2.1, a2.2.2.1, a2.2.2.2.1, a2.2.2.2.2.1, a2.2.2.2.2.2.1, a2.2.2.2.2.2.2.1, a2.2.2.2.2.2.2.2)])).bind fun t11 => (c2 a0 a1 a2 t6.2.2 t11.2.2 t4.1.1 t4.1.2 t6.1.1 t6.1.2 t11.1.1 t11.1.2)) ((c1 (a0.1, a0.2) (([] ++ a1) ++ [(a2.1, a2.2.1, a2.2.2.1, a2.2.2.2.1, a2.2.2.2.2.1, a2.2.2.2.2.2.1, a2.2.2.2.2.2.2.1, a2.2.2.2.2.2.2.2)])).bind fun t12 => (c2 a0 a1 a2 t6.2.2 t12.2.2 t4.1.1 t4.1.2 t6.1.1 t6.1.2 t12.1.1 t12.1.2)))) (guardK (decide (([] ++ a1).length + ([(a2.1, a2.2.1, a2.2.2.1, a2.2.2.2.1, a2.2.2.2.2.1, a2.2.2.2.2.2.1, a2.2.2.2.2.2.2.1, a2.2.2.2.2.2.2.2)]).length ≤ nmax)) ((c1 (a0.1, a0.2) (([] ++ a1) ++ [(a2.1, a2.2.1, a2.2.2.1, a2.2.2.2.1, a2.2.2.2.2.1, a2.2.2.2.2.2.1, a2.2.2.2.2.2.2.1, a2.2.2.2.2.2.2.2)])).bind fun t13 => (c2 a0 a1 a2 t6.2.2 t13.2.2 t4.1.1 t4.1.2 t6.1.1 t6.1.2 t13.1.1 t13.1.2))))) (guardK (decide (0 + a1.length ≤ nmax)) (guardK (decide (([] ++ a1).length + ([(a2.1, a2.2.1, a2.2.2.1, a2.2.2.2.1, a2.2.2.2.2.1, a2.2.2.2.2.2.1, a2.2.2.2.2.2.2.1, a2.2.2.2.2.2.2.2)]).length ≤ nmax)) ((c1 (a0.1, a0.2) (([] ++ a1) ++ [(a2.1, a2.2.1, a2.2.2.1, a2.2.2.2.1, a2.2.2.2.2.1, a2.2.2.2.2.2.1, a2.2.2.2.2.2.2.1, a2.2.2.2.2.2.2.2)])).bind fun t14 => (c2 a0 a1 a2 t6.2.2 t14.2.2 t4.1.1 t4.1.2 t6.1.1 t6.1.2 t14.1.1 t14.1.2))))) (meet (guardK (decide (0 + a1.length ≤ nmax)) (guardK (decide (([] ++ a1).length + ([(a2.1, a2.2.1, a2.2.2.1, a2.2.2.2.1, a2.2.2.2.2.1, a2.2.2.2.2.2.1, a2.2.2.2.2.2.2.1, a2.2.2.2.2.2.2.2)]).length ≤ nmax)) ((c1 (a0.1, a0.2) (([] ++ a1) ++ [(a2.1, a2.2.1, a2.2.2.1, a2.2.2.2.1, a2.2.2.2.2.1, a2.2.2.2.2.2.1, a2.2.2.2.2.2.2.1, a2.2.2.2.2.2.2.2)])).bind fun t15 => (c2 a0 a1 a2 t6.2.2 t15.2.2 t4.1.1 t4.1.2 t6.1.1 t6.1.2 t15.1.1 t15.1.2)))) (guardK (decide (0 + a1.length ≤ nmax)) (guardK (decide (([] ++ a1).length + ([(a2.1, a2.2.1, a2.2.2.1, a2.2.2.2.1, a2.2.2.2.2.1, a2.2.2.2.2.2.1, a2.2.2.2.2.2.2.1, a2.2.2.2.2.2.2.2)]).length ≤ nmax)) ((c1 (a0.1, a0.2) (([] ++ a1) ++ [(a2.1, a2.2.1, a2.2.2.1, a2.2.2.2.1, a2.2.2.2.2.1, a2.2.2.2.2.2.1, a2.2.2.2.2.2.2.1, a2.2.2.2.2.2.2.2)])).bind fun t16 => (c2 a0 a1 a2 t6.2.2 t16.2.2 t4.1.1 t4.1.2 t6.1.1 t6.1.2 t16.1.1 t16.1.2))))))) (meet (meet (meet (guardK (decide (0 + a1.length ≤ nmax)) (meet (guardK (decide (([] ++ a1).length + ([(a2.1, a2.2.1, a2.2.2.1, a2.2.2.2.1, a2.2.2.2.2.1, a2.2.2.2.2.2.1, a2.2.2.2.2.2.2.1, a2.2.2.2.2.2.2.2)]).length ≤ nmax)) (meet ((c1 (a0.1, a0.2) (([] ++ a1) ++ [(a2.1, a2.2.1, a2.2.2.1, a2.2.2.2.1, a2.2.2.2.2.1, a2.2.2.2.2.2.1, a2.2.2.2.2.2.2.1, a2.2.2.2.2.2.2.2)])).bind fun t17 => (c2 a0 a1 a2 t6.2.2 t17.2.2 t4.1.1 t4.1.2 t6.1.1 t6.1.2 t17.1.1 t17.1.2)) ((c1 (a0.1, a0.2) (([] ++ a1) ++ [(a2.1, a2.2.1, a2.2.2.1, a2.2.2.2.1, a2.2.2.2.2.1, a2.2.2.2.2.2.1, a2.2.2.2.2.2.2.1, a2.2.2.2.2.2.2.2)])).bind fun t18 => (c2 a0 a1 a2 t6.2.2 t18.2.2 t4.1.1 t4.1.2 t6.1.1 t6.1.2 t18.1.1 t18.1.2)))) (guardK (decide (([] ++ a1).length + ([(a2.1, a2.2.1, a2.2.2.1, a2.2.2.2.1, a2.2.2.2.2.1, a2.2.2.2.2.2.1, a2.2.2.2.2.2.2.1, a2.2.2.2.2.2.2.2)]).length ≤ nmax)) ((c1 (a0.1, a0.2) (([] ++ a1) ++ [(a2.1, a2.2.1, a2.2.2.1, a2.2.2.2.1, a2.2.2.2.2.1, a2.2.2.2.2.2.1, a2.2.2.2.2.2.2.1, a2.2.2.2.2.2.2.2)])).bind fun t19 => (c2 a0 a1 a2 t6.2.2 t19.2.2 t4.1.1 t4.1.2 t6.1.1 t6.1.2 t19.1.1 t19.1.2))))) (guardK (decide (0 + a1.length ≤ nmax)) (guardK (decide (([] ++ a1).length + ([(a2.1, a2.2.1, a2.2.2.1, a2.2.2.2.1, a2.2.2.2.2.1, a2.2.2.2.2.2.1, a2.2.2.2.2.2.2.1, a2.2.2.2.2.2.2.2)]).length ≤ nmax)) ((c1 (a0.1, a0.2) (([] ++ a1) ++ [(a2.1, a2.2.1, a2.2.2.1, a2.2.2.2.1, a2.2.2.2.2.1, a2.2.2.2.2.2.1, a2.2.2.2.2.2.2.1, a2.2.2.2.2.2.2.2)])).bind fun t20 => (c2 a0 a1 a2 t6.2.2 t20.2.2 t4.1.1 t4.1.2 t6.1.1 t6.1.2 t20.1.1 t20.1.2))))) (guardK (decide (0 + a1.length ≤ nmax)) (guardK (decide (([] ++ a1).length + ([(a2.1, a2.2.1, a2.2.2.1, a2.2.2.2.1, a2.2.2.2.2.1, a2.2.2.2.2.2.1, a2.2.2.2.2.2.2.1, a2.2.2.2.2.2.2.2)]).length ≤ nmax)) ((c1 (a0.1, a0.2) (([] ++ a1) ++ [(a2.1, a2.2.1, a2.2.2.1, a2.2.2.2.1, a2.2.2.2.2.1, a2.2.2.2.2.2.1, a2.2.2.2.2.2.2.1, a2.2.2.2.2.2.2.2)])).bind fun t21 => (c2 a0 a1 a2 t6.2.2 t21.2.2 t4.1.1 t4.1.2 t6.1.1 t6.1.2 t21.1.1 t21.1.2))))) (meet (meet (guardK (decide (0 + a1.length ≤ nmax)) (guardK (decide (([] ++ a1).length + ([(a2.1, a2.2.1, a2.2.2.1, a2.2.2.2.1, a2.2.2.2.2.1, a2.2.2.2.2.2.1, a2.2.2.2.2.2.2.1, a2.2.2.2.2.2.2.2)]).length ≤ nmax)) ((c1 (a0.1, a0.2) (([] ++ a1) ++ [(a2.1, a2.2.1, a2.2.2.1, a2.2.2.2.1, a2.2.2.2.2.1, a2.2.2.2.2.2.1, a2.2.2.2.2.2.2.1, a2.2.2.2.2.2.2.2)])).bind fun t22 => (c2 a0 a1 a2 t6.2.2 t22.2.2 t4.1.1 t4.1.2 t6.1.1 t6.1.2 t22.1.1 t22.1.2)))) (guardK (decide (0 + a1.length ≤ nmax)) (guardK (decide (([] ++ a1).length + ([(a2.1, a2.2.1, a2.2.2.1, a2.2.2.2.1, a2.2.2.2.2.1, a2.2.2.2.2.2.1, a2.2.2.2.2.2.2.1, a2.2.2.2.2.2.2.2)]).length ≤ nmax)) ((c1 (a0.1, a0.2) (([] ++ a1) ++ [(a2.1, a2.2.1, a2.2.2.1, a2.2.2.2.1, a2.2.2.2.2.1, a2.2.2.2.2.2.1, a2.2.2.2.2.2.2.1, a2.2.2.2.2.2.2.2)])).bind fun t23 => (c2 a0 a1 a2 t6.2.2 t23.2.2 t4.1.1 t4.1.2 t6.1.1 t6.1.2 t23.1.1 t23.1.2))))) (guardK (decide (0 + a1.length ≤ nmax)) (guardK (decide (([] ++ a1).length + ([(a2.1, a2.2.1, a2.2.2.1, a2.2.2.2.1, a2.2.2.2.2.1, a2.2.2.2.2.2.1, a2.2.2.2.2.2.2.1, a2.2.2.2.2.2.2.2)]).length ≤ nmax)) ((c1 (a0.1, a0.2) (([] ++ a1) ++ [(a2.1, a2.2.1, a2.2.2.1, a2.2.2.2.1, a2.2.2.2.2.1, a2.2.2.2.2.2.1, a2.2.2.2.2.2.2.1, a2.2.2.2.2.2.2.2)])).bind fun t24 => (c2 a0 a1 a2 t6.2.2 t24.2.2 t4.1.1 t4.1.2 t6.1.1 t6.1.2 t24.1.1 t24.1.2)))))))))))
theorem F.pleachlaw26_GraphStays.j101.eq K a0 a1 a2 x0 : F.pleachlaw26_GraphStays.j101 K a0 a1 a2 x0 = F.pleachlaw26_GraphStays.j101.B (F.pleachlaw26_awake K) (F.graph_Apply K) (F.pleachlaw26_GraphStays.j111111 K) a0 a1 a2 x0 := (F.pleachlaw26_GraphStays.in_eq K [1, 0, 1] [] (F.pleachlaw26_GraphStays.j101.st a0 a1 a2 x0)).trans ((show ∀ H, F.pleachlaw26_GraphStays.in K H [1, 0, 1] [] (F.pleachlaw26_GraphStays.j101.st a0 a1 a2 x0) = F.pleachlaw26_GraphStays.j101.B (F.pleachlaw26_awake K) (F.graph_Apply K) (fun a0 a1 a2 x0 x1 x2 x3 x4 x5 x6 x7 => H [1, 1, 1, 1, 1, 1] [] (F.pleachlaw26_GraphStays.j111111.st a0 a1 a2 x0 x1 x2 x3 x4 x5 x6 x7)) a0 a1 a2 x0 from by intro H; kernel_rfl) (F.pleachlaw26_GraphStays.at K))
noncomputable def F.pleachlaw26_GraphStays.j111111.B (c0 : (TGraph) → Option (Int)) (c1 : (TGraph) → (TGraph) → Option (Bool)) (c2 : Option (Bool)) (a0 : TGraph) (a1 : List TOp) (a2 : TOp) (x0 : Int) (x1 : Int) (x2 : List TNode) (x3 : List TEdge) (x4 : List TNode) (x5 : List TEdge) (x6 : List TNode) (x7 : List TEdge) : Option (Bool) :=
    ((c0 (x2, x3)).bind fun t25 => (bif (t25 == 0) then ((c1 (x4, x5) (x6, x7)).bind fun t26 => (bif t26 then (bif (x0 == x1) then ((c2).bind fun t27 => (some t27)) else (some false)) else (some false))) else (some false)))
theorem F.pleachlaw26_GraphStays.j111111.eq K a0 a1 a2 x0 x1 x2 x3 x4 x5 x6 x7 : F.pleachlaw26_GraphStays.j111111 K a0 a1 a2 x0 x1 x2 x3 x4 x5 x6 x7 = F.pleachlaw26_GraphStays.j111111.B (F.graph_Check K) (F.pleachref26_Same K) (F.pleachlaw26_awake K) a0 a1 a2 x0 x1 x2 x3 x4 x5 x6 x7 := (F.pleachlaw26_GraphStays.in_eq K [1, 1, 1, 1, 1, 1] [] (F.pleachlaw26_GraphStays.j111111.st a0 a1 a2 x0 x1 x2 x3 x4 x5 x6 x7)).trans ((show ∀ H, F.pleachlaw26_GraphStays.in K H [1, 1, 1, 1, 1, 1] [] (F.pleachlaw26_GraphStays.j111111.st a0 a1 a2 x0 x1 x2 x3 x4 x5 x6 x7) = F.pleachlaw26_GraphStays.j111111.B (F.graph_Check K) (F.pleachref26_Same K) (F.pleachlaw26_awake K) a0 a1 a2 x0 x1 x2 x3 x4 x5 x6 x7 from by intro H; kernel_rfl) (F.pleachlaw26_GraphStays.at K))
noncomputable def F.pleachlaw26_GraphStays.B (c0 : (TGraph) → Option (Bool)) (c1 : (TGraph) → (List TOp) → (TOp) → (Bool) → Option (Bool)) (c2 : (List TOp) → Option (Bool)) (a0 : TGraph) (a1 : List TOp) (a2 : TOp) : Option (Bool) :=
    ((c0 (a0.1, a0.2)).bind fun t0 => (bif (!t0) then (c1 a0 a1 a2 true) else ((c2 a1).bind fun t1 => (bif (!t1) then (c1 a0 a1 a2 true) else ((c2 ([(a2.1, a2.2.1, a2.2.2.1, a2.2.2.2.1, a2.2.2.2.2.1, a2.2.2.2.2.2.1, a2.2.2.2.2.2.2.1, a2.2.2.2.2.2.2.2)])).bind fun t2 => (c1 a0 a1 a2 (!t2)))))))
theorem F.pleachlaw26_GraphStays.eq K a0 a1 a2 : F.pleachlaw26_GraphStays (K + 1) a0 a1 a2 = F.pleachlaw26_GraphStays.B (F.pleachref26_Few K) (F.pleachlaw26_GraphStays.j101 K) (F.pleachref26_FewOps K) a0 a1 a2 := (F.pleachlaw26_GraphStays.in_main K a0 a1 a2).trans ((show ∀ H, F.pleachlaw26_GraphStays.in K H [] [] ⟨slots [.agg [.list sNode a0.1 false, .list sEdge a0.2 false], .sc (.list sOp a1 false), .agg [.val (.int .i64 a2.1), .val (.string a2.2.1), .val (.string a2.2.2.1), .val (.string a2.2.2.2.1), .val (.string a2.2.2.2.2.1), .val (.int .i64 a2.2.2.2.2.2.1), .val (.int .i64 a2.2.2.2.2.2.2.1), .val (.string a2.2.2.2.2.2.2.2)]] 0, []⟩ = F.pleachlaw26_GraphStays.B (F.pleachref26_Few K) (fun a0 a1 a2 x0 => H [1, 0, 1] [] (F.pleachlaw26_GraphStays.j101.st a0 a1 a2 x0)) (F.pleachref26_FewOps K) a0 a1 a2 from by intro H; kernel_rfl) (F.pleachlaw26_GraphStays.at K))
noncomputable def V.pleachlaw26_GraphStays.j101 (a0 : TGraph) (a1 : List TOp) (a2 : TOp) (x0 : Bool) := lim fun v => F.pleachlaw26_GraphStays.j101 (v 0) a0 a1 a2 x0
noncomputable def V.pleachlaw26_GraphStays.j111111 (a0 : TGraph) (a1 : List TOp) (a2 : TOp) (x0 : Int) (x1 : Int) (x2 : List TNode) (x3 : List TEdge) (x4 : List TNode) (x5 : List TEdge) (x6 : List TNode) (x7 : List TEdge) := lim fun v => F.pleachlaw26_GraphStays.j111111 (v 0) a0 a1 a2 x0 x1 x2 x3 x4 x5 x6 x7
noncomputable def V.pleachlaw26_GraphStays (a0 : TGraph) (a1 : List TOp) (a2 : TOp) := lim fun v => F.pleachlaw26_GraphStays (v 0) a0 a1 a2
theorem V.pleachlaw26_GraphStays.j101.of a0 a1 a2 x0 {r} (h : F.pleachlaw26_GraphStays.j101.B V.pleachlaw26_awake V.graph_Apply V.pleachlaw26_GraphStays.j111111 a0 a1 a2 x0 = some r) : V.pleachlaw26_GraphStays.j101 a0 a1 a2 x0 = some r :=
  App.to (App.same (fun v => F.pleachlaw26_GraphStays.j101.eq (v 0) a0 a1 a2 x0) (by unfold F.pleachlaw26_GraphStays.j101.B; repeat' first | exact App.val | exact App.no | exact App.lim | apply App.cond | apply App.guard | apply App.meet | apply App.ite | refine App.bind ?_ fun _ => ?_)) h
theorem V.pleachlaw26_GraphStays.j111111.of a0 a1 a2 x0 x1 x2 x3 x4 x5 x6 x7 {r} (h : F.pleachlaw26_GraphStays.j111111.B V.graph_Check V.pleachref26_Same V.pleachlaw26_awake a0 a1 a2 x0 x1 x2 x3 x4 x5 x6 x7 = some r) : V.pleachlaw26_GraphStays.j111111 a0 a1 a2 x0 x1 x2 x3 x4 x5 x6 x7 = some r :=
  App.to (App.same (fun v => F.pleachlaw26_GraphStays.j111111.eq (v 0) a0 a1 a2 x0 x1 x2 x3 x4 x5 x6 x7) (by unfold F.pleachlaw26_GraphStays.j111111.B; repeat' first | exact App.val | exact App.no | exact App.lim | apply App.cond | apply App.guard | apply App.meet | apply App.ite | refine App.bind ?_ fun _ => ?_)) h
theorem V.pleachlaw26_GraphStays.of a0 a1 a2 {r} (h : F.pleachlaw26_GraphStays.B V.pleachref26_Few V.pleachlaw26_GraphStays.j101 V.pleachref26_FewOps a0 a1 a2 = some r) : V.pleachlaw26_GraphStays a0 a1 a2 = some r :=
  App.to (App.step 0 (fun v => F.pleachlaw26_GraphStays.eq (v 0) a0 a1 a2) (by unfold F.pleachlaw26_GraphStays.B; repeat' first | exact App.val | exact App.no | exact App.lim | apply App.cond | apply App.guard | apply App.meet | apply App.ite | refine App.bind ?_ fun _ => ?_)) h
end Go.Proofs.Ytdblhdpnllckhaa.AE
end
section
set_option linter.unusedVariables false
set_option linter.unusedSimpArgs false
namespace Go.Proofs.Ytdblhdpnllckhaa.AE
open Go

theorem w64_id {x : Int} (h0 : -9223372036854775808 ≤ x) (h1 : x ≤ 9223372036854775807) : w64 x = x := by
  show IntKind.i64.wrap x = x
  simp [IntKind.wrap, IntKind.bits, IntKind.signed]
  omega
theorem u64_id {x : Int} (h0 : 0 ≤ x) (h1 : x ≤ 18446744073709551615) : IntKind.wrap .u64 x = x := by
  have : IntKind.u64.wrap x = x % 18446744073709551616 := by simp [IntKind.wrap, IntKind.bits, IntKind.signed]
  rw [this]; omega
theorem w64_up {i n : Nat} (h : i < n) (hn : n ≤ 140737488351232) : w64 ((i : Int) + 1) = ((i + 1 : Nat) : Int) := by rw [w64_id (by omega) (by omega)]; omega
theorem w64_dn {i n : Nat} (h : i < n) (hn : n ≤ 140737488351232) (h0 : 0 < i) : w64 ((i : Int) - 1) = ((i - 1 : Nat) : Int) := by rw [w64_id (by omega) (by omega)]; omega

theorem guard_of {α : Type} {g : Bool} {a : Option α} (h : g = true) : guardK g a = a := by rw [h]; rfl
theorem guard_dec {α : Type} {p : Prop} [Decidable p] {a : Option α} (h : p) : guardK (decide p) a = a := guard_of (decide_eq_true h)
/-- Inside a row. -/
theorem guard_in {α : Type} {i n : Nat} {a : Option α} (h : i < n) : guardK (decide (0 ≤ (i : Int)) && decide ((i : Int) < (n : Int))) a = a := guard_of (by simp [h])
theorem if_in {α : Type} {i n : Nat} {a b : α} (h : i < n) : (bif decide ((i : Int) < (n : Int)) then a else b) = a := by simp [h]
theorem if_out {α : Type} {i n : Nat} {a b : α} (h : n ≤ i) : (bif decide ((i : Int) < (n : Int)) then a else b) = b := by simp [Nat.not_lt.2 h]
theorem if_yes {α : Type} {p : Prop} [Decidable p] {a b : α} (h : p) : (bif decide p then a else b) = a := by simp [h]
theorem if_no {α : Type} {p : Prop} [Decidable p] {a b : α} (h : ¬ p) : (bif decide p then a else b) = b := by simp [h]
theorem nat_cast (i : Nat) : ((i : Nat) : Int).toNat = i := rfl
theorem meet_self {α : Type} (a : Option α) : meet a a = a := by unfold meet; simp
theorem data_len (s : ByteArray) : s.data.toList.length = s.size := by rw [Array.length_toList]; rfl
theorem toList_size (s : ByteArray) : s.toList.length = s.size := by rw [ByteArray.toList_eq]; exact data_len s
theorem toList_nil {s : ByteArray} : s.toList = [] ↔ s.size = 0 := by
  rw [← toList_size, List.length_eq_zero_iff]
theorem bytes_ext {s t : ByteArray} (h : s.toList = t.toList) : s = t := by
  rw [ByteArray.toList_eq, ByteArray.toList_eq] at h
  have : s.data = t.data := by rwa [← Array.toList_inj]
  cases s; cases t; simp_all
theorem strEq_iff {s t : ByteArray} : strEq s t = true ↔ s = t := by
  unfold strEq
  rw [beq_iff_eq]
  exact ⟨bytes_ext, fun h => by rw [h]⟩
theorem strEq_self (s : ByteArray) : strEq s s = true := strEq_iff.2 rfl
theorem strEq_no {s t : ByteArray} (h : s ≠ t) : strEq s t = false := by
  cases hb : strEq s t with
  | false => rfl
  | true => exact absurd (strEq_iff.1 hb) h
theorem strEq_dec (s t : ByteArray) : strEq s t = decide (s = t) := by
  by_cases h : s = t
  · rw [h, strEq_self]; simp
  · rw [strEq_no h]; simp [h]
/-! ### The order of texts -/

theorem less_leq : ∀ x y : List UInt8, (Op.bytesLess x y || x == y) = !(Op.bytesLess y x)
  | [], [] => by simp [Op.bytesLess]
  | [], b :: y => by simp [Op.bytesLess]
  | a :: x, [] => by simp [Op.bytesLess]
  | a :: x, b :: y => by
    have ih := less_leq x y
    by_cases h1 : a < b
    · have h2 : ¬ b < a := by simp only [UInt8.lt_iff_toNat_lt] at *; omega
      have h3 : ¬ b = a := by rintro rfl; simp at h1
      simp [Op.bytesLess, h1, h2, h3]
    · by_cases h2 : b < a
      · have h3 : ¬ b = a := by rintro rfl; simp at h2
        have h4 : ¬ a = b := fun h => h3 h.symm
        simp [Op.bytesLess, h1, h2, h4]
      · have h3 : a = b := by
          apply UInt8.toNat_inj.1
          simp only [UInt8.lt_iff_toNat_lt] at *
          omega
        subst h3
        simp [Op.bytesLess, h1] at ih ⊢
        exact ih
theorem less_irr : ∀ x : List UInt8, Op.bytesLess x x = false
  | [] => rfl
  | a :: x => by
    have : ¬ a < a := by simp
    simp [Op.bytesLess, less_irr x, this]
theorem less_trans : ∀ x y z : List UInt8, Op.bytesLess x y = true → Op.bytesLess y z = true → Op.bytesLess x z = true
  | _, [], _, h, _ => by simp [Op.bytesLess] at h
  | _, _ :: _, [], _, h => by simp [Op.bytesLess] at h
  | [], b :: y, c :: z, _, _ => rfl
  | a :: x, b :: y, c :: z, h1, h2 => by
    simp only [Op.bytesLess, Bool.or_eq_true, Bool.and_eq_true, decide_eq_true_eq, beq_iff_eq] at h1 h2 ⊢
    rcases h1 with h1 | ⟨rfl, h1⟩
    · rcases h2 with h2 | ⟨rfl, h2⟩
      · left; simp only [UInt8.lt_iff_toNat_lt] at *; omega
      · exact .inl h1
    · rcases h2 with h2 | ⟨rfl, h2⟩
      · exact .inl h2
      · exact .inr ⟨rfl, less_trans x y z h1 h2⟩
/-- Of two texts one is less, or they are the same. -/
theorem lt_or (a b : ByteArray) : (strLt a b || strEq a b) = !strLt b a := less_leq a.toList b.toList
theorem lt_irr (a : ByteArray) : strLt a a = false := less_irr a.toList
theorem lt_trans {a b c : ByteArray} (h : strLt a b = true) (g : strLt b c = true) : strLt a c = true := less_trans _ _ _ h g
theorem lt_total {a b : ByteArray} (h : strLt a b = false) (hn : a ≠ b) : strLt b a = true := by
  have := lt_or a b
  rw [h, strEq_no hn] at this
  cases hb : strLt b a with
  | true => rfl
  | false => rw [hb] at this; simp at this
theorem size_zero {s : ByteArray} (h : s.size = 0) : s = (⟨#[]⟩ : ByteArray) := by
  apply bytes_ext
  rw [toList_nil.2 h]
  exact (toList_nil.2 rfl).symm
theorem strEq_nil (s : ByteArray) : strEq s (⟨#[]⟩ : ByteArray) = (s.size == 0) := by
  rw [Bool.eq_iff_iff, strEq_iff]
  simp only [beq_iff_eq]
  exact ⟨fun h => by rw [h]; rfl, size_zero⟩
theorem rd_get {e : Sh} {l : List (den e)} {i : Nat} (h : i < l.length) : rd e l i = l[i] := by
  simp [rd, List.getD_eq_getElem?_getD, List.getElem?_eq_getElem h]
theorem rd_mem {e : Sh} {l : List (den e)} {i : Nat} (h : i < l.length) : rd e l i ∈ l := by rw [rd_get h]; exact List.getElem_mem h
theorem drop_rd {e : Sh} {l : List (den e)} {i : Nat} (h : i < l.length) : l.drop i = rd e l i :: l.drop (i + 1) := by rw [rd_get h]; exact List.drop_eq_getElem_cons h
/-- A loop that ends at the first place at which the step tells something; else what is told at the end. -/
def scanG {α : Type} (step : Nat → Option α) (fin : α) : Nat → Nat → α
  | 0, _ => fin
  | d + 1, i => match step i with
    | some r => r
    | none => scanG step fin d (i + 1)
abbrev scanI (step : Nat → Option Int) : Nat → Nat → Int := scanG step 0
theorem scanG_succ {α : Type} (step : Nat → Option α) (fin : α) (d i : Nat) : scanG step fin (d + 1) i = (step i).getD (scanG step fin d (i + 1)) := by
  show (match step i with | some r => r | none => scanG step fin d (i + 1)) = _
  cases step i <;> rfl
theorem scanI_succ (step : Nat → Option Int) (d i : Nat) : scanI step (d + 1) i = (step i).getD (scanI step d (i + 1)) := scanG_succ step 0 d i
end Go.Proofs.Ytdblhdpnllckhaa.AE
end
section
set_option linter.unusedVariables false
set_option linter.unusedSimpArgs false
namespace Go.Proofs.Ytdblhdpnllckhaa.AE
open Go

def okc (c : Int) : Bool := (decide (97 ≤ c) && decide (c ≤ 122)) || (decide (48 ≤ c) && decide (c ≤ 57)) || c == 45
theorem name_fits_ok (c : Int) : V.name_fits c = some (okc c) := by
  refine V.name_fits.of _ ?_
  unfold F.name_fits.B okc
  by_cases a1 : c ≥ 97 <;> by_cases a2 : c ≤ 122 <;> by_cases a3 : c ≥ 48 <;> by_cases a4 : c ≤ 57 <;> simp [Bool.cond_eq_ite, a1, a2, a3, a4] <;> omega
/-- From place i on, d bytes, all fit. -/
def okFrom (s : ByteArray) : Nat → Nat → Bool
  | 0, _ => true
  | d + 1, i => okc (byteAt s i) && okFrom s d (i + 1)
def nameB (s : ByteArray) : Bool := decide (1 ≤ s.size) && decide (s.size ≤ 12) && okFrom s s.size 0

theorem name_Check_l (s : ByteArray) (hs : s.size ≤ 140737488351232) : ∀ d i : Nat, i + d = s.size → V.name_Check.l11010 s (i : Int) = some (if okFrom s d i then 0 else 2)
  | 0, i, h => by
    refine V.name_Check.l11010.of _ _ ?_
    unfold F.name_Check.l11010.B
    rw [if_out (by omega)]
    simp [okFrom]
  | d + 1, i, h => by
    refine V.name_Check.l11010.of _ _ ?_
    unfold F.name_Check.l11010.B
    rw [if_in (by omega), guard_in (by omega), name_fits_ok, Option.bind_some, w64_up (show i < s.size by omega) hs, name_Check_l s hs d (i + 1) (by omega)]
    cases hc : okc (byteAt s (i : Int)) <;> simp [okFrom, hc]
theorem name_Check_ok (s : ByteArray) (hs : s.size ≤ 140737488351232) : V.name_Check s = some (if nameB s then 0 else 2) := by
  refine V.name_Check.of _ ?_
  unfold F.name_Check.B
  rw [strEq_nil]
  have := name_Check_l s hs s.size 0 (by omega)
  rw [show (0 : Int) = ((0 : Nat) : Int) from rfl, this]
  by_cases h0 : s.size = 0
  · simp [Bool.cond_eq_ite, h0, nameB]
  · by_cases h2 : s.size ≤ 12
    · have h1 : 1 ≤ s.size := by omega
      have h3 : ¬ (s.size : Int) > 12 := by omega
      simp [Bool.cond_eq_ite, h0, h1, h2, h3, nameB]
    · have h3 : (s.size : Int) > 12 := by omega
      simp [Bool.cond_eq_ite, h0, h2, h3, nameB]

def valueB (v : TValue) : Bool := (v.1 == 1 && (v.2.1 == 0 || v.2.1 == 1) && v.2.2.size == 0) || (v.1 == 2 && v.2.2.size == 0) || (v.1 == 3 && v.2.1 == 0 && decide (v.2.2.size ≤ 64))
theorem value_Check_ok (v : TValue) : V.value_Check v = some (if valueB v then 0 else 2) := by
  refine V.value_Check.of _ ?_
  obtain ⟨a, b, s⟩ := v
  unfold F.value_Check.B valueB
  simp only [strEq_nil]
  by_cases a1 : a = 1
  · subst a1
    by_cases b0 : b = 0 <;> by_cases b1 : b = 1 <;> by_cases s0 : s.size = 0 <;> simp [Bool.cond_eq_ite, b0, b1, s0]
  · by_cases a2 : a = 2
    · subst a2
      by_cases s0 : s.size = 0 <;> simp [Bool.cond_eq_ite, s0]
    · by_cases a3 : a = 3
      · subst a3
        by_cases b0 : b = 0 <;> by_cases s0 : s.size ≤ 64 <;> simp [Bool.cond_eq_ite, b0, s0] <;> omega
      · simp [Bool.cond_eq_ite, a1, a2, a3]
/-! ### Rows that rise -/

def okProps (l : List TProp) : Prop := l.length ≤ 140737488351232 ∧ ∀ p ∈ l, p.1.size ≤ 140737488351232 ∧ p.2.2.2.size ≤ 140737488351232 ∧ -9223372036854775808 ≤ p.2.2.1 ∧ p.2.2.1 ≤ 9223372036854775807
def okTexts (l : List ByteArray) : Prop := l.length ≤ 140737488351232 ∧ ∀ s ∈ l, s.size ≤ 140737488351232
def propStep (l : List TProp) (i : Nat) : Option Int :=
  if (nameB (rd sProp l i).1 && valueB (rd sProp l i).2) = false then some 2
  else if 0 < i ∧ strLt (rd sProp l (i - 1)).1 (rd sProp l i).1 = false then some 4 else none
def textStep (l : List ByteArray) (i : Nat) : Option Int :=
  if nameB (rd .str l i) = false then some 2
  else if 0 < i ∧ strLt (rd .str l (i - 1)) (rd .str l i) = false then some 4 else none
def propsN (l : List TProp) : Int := if l.length > 8 then 5 else scanI (propStep l) l.length 0
def rowN (l : List ByteArray) : Int := scanI (textStep l) l.length 0
def restN (labels : List ByteArray) (props : List TProp) : Int := if labels.length > 8 then 5 else if rowN labels = 0 then propsN props else rowN labels

theorem CheckProps_l (l : List TProp) (hl : okProps l) : ∀ d i : Nat, i + d = l.length → V.elem_CheckProps.l11010 l (i : Int) = some (scanI (propStep l) d i)
  | 0, i, h => by
    refine V.elem_CheckProps.l11010.of _ _ ?_
    unfold F.elem_CheckProps.l11010.B
    rw [if_out (by omega)]
    rfl
  | d + 1, i, h => by
    refine V.elem_CheckProps.l11010.of _ _ ?_
    unfold F.elem_CheckProps.l11010.B
    have hi : i < l.length := by omega
    rw [if_in hi, guard_in hi]
    simp only [nat_cast, name_Check_ok _ (hl.2 _ (rd_mem (e := sProp) hi)).1, Option.bind_some, value_Check_ok, w64_up hi hl.1, CheckProps_l l hl d (i + 1) (by omega)]
    rw [scanI_succ]
    unfold propStep
    cases hn : nameB (rd sProp l i).1 with
    | false => simp
    | true =>
      cases hv : valueB (rd sProp l i).2 with
      | false => simp [hv]
      | true =>
        by_cases h0 : 0 < i
        · rw [w64_dn hi hl.1 h0, guard_in (show i - 1 < l.length by omega), nat_cast]
          cases hless : strLt (rd sProp l (i - 1)).1 (rd sProp l i).1 <;> simp [hless, hv, h0]
        · have h0 : i = 0 := by omega
          subst h0
          simp [hv]
theorem CheckProps_ok (l : List TProp) (hl : okProps l) : V.elem_CheckProps l = some (propsN l) := by
  refine V.elem_CheckProps.of _ ?_
  unfold F.elem_CheckProps.B propsN
  have := CheckProps_l l hl l.length 0 (by omega)
  rw [show (0 : Int) = ((0 : Nat) : Int) from rfl, this]
  by_cases h : l.length > 8
  · rw [if_yes (by omega), if_pos h]
  · rw [if_no (by omega), if_neg h]
theorem Row_l (l : List ByteArray) (hl : okTexts l) : ∀ d i : Nat, i + d = l.length → V.name_Row.l1010 l (i : Int) = some (scanI (textStep l) d i)
  | 0, i, h => by
    refine V.name_Row.l1010.of _ _ ?_
    unfold F.name_Row.l1010.B
    rw [if_out (by omega)]
    rfl
  | d + 1, i, h => by
    refine V.name_Row.l1010.of _ _ ?_
    unfold F.name_Row.l1010.B
    have hi : i < l.length := by omega
    rw [if_in hi, guard_in hi]
    simp only [nat_cast, name_Check_ok _ (hl.2 _ (rd_mem (e := .str) hi)), Option.bind_some, w64_up hi hl.1, Row_l l hl d (i + 1) (by omega)]
    rw [scanI_succ]
    unfold textStep
    cases hn : nameB (rd .str l i) with
    | false => simp
    | true =>
      by_cases h0 : 0 < i
      · rw [w64_dn hi hl.1 h0, guard_in (show i - 1 < l.length by omega), nat_cast]
        cases hless : strLt (rd .str l (i - 1)) (rd .str l i) <;> simp [hless, h0]
      · have h0 : i = 0 := by omega
        subst h0
        simp
theorem Row_ok (l : List ByteArray) (hl : okTexts l) : V.name_Row l = some (rowN l) := by
  refine V.name_Row.of _ ?_
  unfold F.name_Row.B rowN
  exact Row_l l hl l.length 0 (by omega)
theorem rest_ok (a : List ByteArray) (l : List TProp) (ha : okTexts a) (hl : okProps l) : V.elem_rest a l = some (restN a l) := by
  refine V.elem_rest.of _ _ ?_
  unfold F.elem_rest.B restN
  rw [Row_ok a ha, CheckProps_ok l hl]
  by_cases h : a.length > 8
  · rw [if_yes (by omega), if_pos h]
  · rw [if_no (by omega), if_neg h]
    by_cases h0 : rowN a = 0 <;> simp [Bool.cond_eq_ite, h0]
end Go.Proofs.Ytdblhdpnllckhaa.AE
end
section
set_option linter.unusedVariables false
set_option linter.unusedSimpArgs false
namespace Go.Proofs.Ytdblhdpnllckhaa.AE
open Go

theorem scanI_zero {step : Nat → Option Int} (hs : ∀ i r, step i = some r → r ≠ 0) : ∀ d i, scanI step d i = 0 → ∀ j, i ≤ j → j < i + d → step j = none
  | 0, i, _, j, h1, h2 => by omega
  | d + 1, i, h, j, h1, h2 => by
    rw [scanI_succ] at h
    cases hq : step i with
    | some r => rw [hq] at h; exact absurd h (hs i r hq)
    | none =>
      rw [hq] at h
      by_cases hij : j = i
      · rw [hij]; exact hq
      · exact scanI_zero hs d (i + 1) h j (by omega) (by omega)
theorem scanI_none {step : Nat → Option Int} : ∀ d i, (∀ j, i ≤ j → j < i + d → step j = none) → scanI step d i = 0
  | 0, i, _ => rfl
  | d + 1, i, h => by
    rw [scanI_succ, h i (by omega) (by omega)]
    exact scanI_none d (i + 1) (fun j h1 h2 => h j (by omega) (by omega))
theorem propStep_ne (l : List TProp) (i : Nat) (r : Int) (h : propStep l i = some r) : r ≠ 0 := by
  unfold propStep at h
  split at h
  · injection h with h; omega
  · split at h
    · injection h with h; omega
    · cases h
theorem textStep_ne (l : List ByteArray) (i : Nat) (r : Int) (h : textStep l i = some r) : r ≠ 0 := by
  unfold textStep at h
  split at h
  · injection h with h; omega
  · split at h
    · injection h with h; omega
    · cases h
theorem nameB_size {s : ByteArray} (h : nameB s = true) : 1 ≤ s.size ∧ s.size ≤ 12 := by
  unfold nameB at h
  simp at h
  exact ⟨h.1.1, h.1.2⟩
theorem textStep_none {l : List ByteArray} {i : Nat} (h : textStep l i = none) : nameB (rd .str l i) = true ∧ (0 < i → strLt (rd .str l (i - 1)) (rd .str l i) = true) := by
  unfold textStep at h
  split at h
  · cases h
  · rename_i h1
    split at h
    · cases h
    · rename_i h2
      refine ⟨by simpa using h1, fun h0 => ?_⟩
      cases hq : strLt (rd .str l (i - 1)) (rd .str l i) with
      | true => rfl
      | false => exact absurd ⟨h0, hq⟩ h2
theorem propStep_none {l : List TProp} {i : Nat} (h : propStep l i = none) : nameB (rd sProp l i).1 = true ∧ valueB (rd sProp l i).2 = true ∧ (0 < i → strLt (rd sProp l (i - 1)).1 (rd sProp l i).1 = true) := by
  unfold propStep at h
  split at h
  · cases h
  · rename_i h1
    split at h
    · cases h
    · rename_i h2
      have h3 : nameB (rd sProp l i).1 = true ∧ valueB (rd sProp l i).2 = true := by simpa using h1
      refine ⟨h3.1, h3.2, fun h0 => ?_⟩
      cases hq : strLt (rd sProp l (i - 1)).1 (rd sProp l i).1 with
      | true => rfl
      | false => exact absurd ⟨h0, hq⟩ h2
/-- What a row of names, of properties that may be is. -/
theorem rowN_zero {l : List ByteArray} (h : rowN l = 0) {i : Nat} (hi : i < l.length) : nameB (rd .str l i) = true ∧ (0 < i → strLt (rd .str l (i - 1)) (rd .str l i) = true) :=
  textStep_none (scanI_zero (textStep_ne l) l.length 0 h i (by omega) (by omega))
theorem propsN_len {l : List TProp} (h : propsN l = 0) : l.length ≤ 8 := by
  unfold propsN at h
  split at h
  · omega
  · omega
theorem propsN_zero {l : List TProp} (h : propsN l = 0) {i : Nat} (hi : i < l.length) : nameB (rd sProp l i).1 = true ∧ valueB (rd sProp l i).2 = true ∧ (0 < i → strLt (rd sProp l (i - 1)).1 (rd sProp l i).1 = true) := by
  have h8 := propsN_len h
  unfold propsN at h
  rw [if_neg (by omega)] at h
  exact propStep_none (scanI_zero (propStep_ne l) l.length 0 h i (by omega) (by omega))
theorem restN_zero {a : List ByteArray} {l : List TProp} (h : restN a l = 0) : a.length ≤ 8 ∧ rowN a = 0 ∧ propsN l = 0 := by
  unfold restN at h
  split at h
  · omega
  · split at h
    · rename_i h1 h2
      exact ⟨by omega, h2, h⟩
    · rename_i h1 h2
      exact absurd h h2

/-- Labels and properties are as few and short as they may be. -/
structure Short (a : List ByteArray) (l : List TProp) : Prop where
  na : a.length ≤ 8
  nl : l.length ≤ 8
  ta : ∀ i, i < a.length → (rd .str a i).size ≤ 12
  tl : ∀ i, i < l.length → (rd sProp l i).1.size ≤ 12
theorem Short.of {a : List ByteArray} {l : List TProp} (h : restN a l = 0) : Short a l := by
  obtain ⟨h1, h2, h3⟩ := restN_zero h
  exact ⟨h1, propsN_len h3, fun i hi => (nameB_size (rowN_zero h2 hi).1).2, fun i hi => (nameB_size (propsN_zero h3 hi).1).2⟩
structure okNode (n : TNode) : Prop where
  id : n.1.size ≤ 140737488351232
  la : okTexts n.2.1
  pr : okProps n.2.2
structure okEdge (x : TEdge) : Prop where
  id : x.1.size ≤ 140737488351232
  fr : x.2.1.size ≤ 140737488351232
  to : x.2.2.1.size ≤ 140737488351232
  la : okTexts x.2.2.2.1
  pr : okProps x.2.2.2.2
def nodeN (n : TNode) : Int := if nameB n.1 then restN n.2.1 n.2.2 else 2
def edgeN (x : TEdge) : Int := if nameB x.1 && nameB x.2.1 && nameB x.2.2.1 then restN x.2.2.2.1 x.2.2.2.2 else 2
theorem CheckNode_ok (n : TNode) (h : okNode n) : V.elem_CheckNode n = some (nodeN n) := by
  refine V.elem_CheckNode.of _ ?_
  unfold F.elem_CheckNode.B nodeN
  rw [name_Check_ok _ h.id, Option.bind_some, rest_ok _ _ h.la h.pr]
  cases nameB n.1 <;> simp
theorem CheckEdge_ok (x : TEdge) (h : okEdge x) : V.elem_CheckEdge x = some (edgeN x) := by
  have e3 : V.elem_CheckEdge.l1010 x 3 = some (restN x.2.2.2.1 x.2.2.2.2) := by
    refine V.elem_CheckEdge.l1010.of _ _ ?_
    unfold F.elem_CheckEdge.l1010.B
    rw [rest_ok _ _ h.la h.pr]
    simp
  have e2 : V.elem_CheckEdge.l1010 x 2 = some (if nameB x.2.2.1 then restN x.2.2.2.1 x.2.2.2.2 else 2) := by
    refine V.elem_CheckEdge.l1010.of _ _ ?_
    unfold F.elem_CheckEdge.l1010.B
    rw [w64_id (by omega) (by omega), show (2 : Int) + 1 = 3 from rfl, e3, name_Check_ok _ h.to]
    cases nameB x.2.2.1 <;> simp
  have e1 : V.elem_CheckEdge.l1010 x 1 = some (if nameB x.2.1 && nameB x.2.2.1 then restN x.2.2.2.1 x.2.2.2.2 else 2) := by
    refine V.elem_CheckEdge.l1010.of _ _ ?_
    unfold F.elem_CheckEdge.l1010.B
    rw [w64_id (by omega) (by omega), show (1 : Int) + 1 = 2 from rfl, e2, name_Check_ok _ h.fr]
    cases nameB x.2.1 <;> simp
  have e0 : V.elem_CheckEdge.l1010 x 0 = some (edgeN x) := by
    refine V.elem_CheckEdge.l1010.of _ _ ?_
    unfold F.elem_CheckEdge.l1010.B edgeN
    rw [w64_id (by omega) (by omega), show (0 : Int) + 1 = 1 from rfl, e1, name_Check_ok _ h.id]
    cases nameB x.1 <;> simp
  refine V.elem_CheckEdge.of _ ?_
  unfold F.elem_CheckEdge.B
  exact e0
end Go.Proofs.Ytdblhdpnllckhaa.AE
end
