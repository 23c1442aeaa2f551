/- The evaluator of the program's form, its soundness, the functions of the given program as it evaluates them, and laws on these. Conditions: as each theorem says. -/
import Derived.Test.YtmenplonaapliaaCThreeShowsN2
import Derived.Test.YtmenplonaapliaaProg
import Derived.KernelRfl
import Derived.Test.YtmenplonaapliaaRows
import Derived.WalkKit
import Derived.ProofKit
import Derived.OpenShut
import Derived.ShutString
import Derived.ChangeOld
import Derived.Below
import Derived.SizedLaws
section
set_option linter.unusedVariables false
set_option maxRecDepth 100000
set_option maxHeartbeats 4000000
namespace Go.Proofs.Ytmenplonaapliaa.AE
open Go
abbrev TValue : Type := Int × Int × ByteArray
abbrev sValue : Sh := (.prod (.int .i64) (.prod (.int .i64) .str))
abbrev TFact : Type := Int × ByteArray × ByteArray × ByteArray
abbrev sFact : Sh := (.prod (.int .i64) (.prod .str (.prod .str .str)))
abbrev TConflict : Type := Int × ByteArray × ByteArray × Int
abbrev sConflict : Sh := (.prod (.int .i64) (.prod .str (.prod .str (.int .i64))))
abbrev TProp : Type := ByteArray × TValue
abbrev sProp : Sh := (.prod .str sValue)
abbrev sNode : Sh := (.prod .str (.prod (.list .str) (.list sProp)))
abbrev sEdge : Sh := (.prod .str (.prod .str sNode))
abbrev scolumn : Sh := (.prod sFact (.prod (.prod .str (.prod .str .str)) (.prod (.int .i64) (.prod (.int .i64) (.int .i64)))))
abbrev smerge : Sh := (.prod (.list sFact) (.prod (.list sConflict) (.list (.prod .str (.int .i64)))))
abbrev sGraph : Sh := (.prod (.list sNode) (.list sEdge))
abbrev sbuilder : Sh := (.prod sGraph (.prod (.list (.prod .str (.int .i64))) (.list (.prod .str (.int .i64)))))
def sgT : List (Nat × Sig) := [
  (4, { ps := [(.sc (.list sFact)), (.sc (.list sFact)), (.sc (.list sFact))], vals := [.sc .bool] }),
  (5, { ps := [(.agg sConflict), (.agg sConflict)], vals := [.sc .bool] }),
  (9, { ps := [(.agg sGraph)], vals := [.own sFact], coer := [(3, (.own sFact))], excl := [(13, [0])] }),
  (10, { ps := [(.sc (.list sFact))], tup := true, vals := [.agg sGraph, .sc (.int .i64)], bcoer := [(71, 0, (.sc (.list sNode))), (71, 1, (.sc (.list sEdge)))] }),
  (12, { ps := [(.sc (.list sFact)), (.sc (.list sFact))], vals := [.sc .bool] }),
  (15, { ps := [(.sc (.list sFact))], vals := [.sc .bool] }),
  (16, { ps := [(.sc (.list sFact))], vals := [.sc .bool] }),
  (17, { vals := [.sc .bool], excl := [(3, [2])] }),
  (18, { ps := [(.sc (.list sFact)), (.sc (.list sFact)), (.sc (.list sFact))], tup := true, vals := [.own sFact, .own sConflict], bcoer := [(84, 0, (.own sFact)), (84, 1, (.own sConflict))] }),
  (19, { ps := [(.sc (.list sFact)), (.sc (.list sFact)), (.sc (.list sFact))], tup := true, vals := [.own sFact, .own sConflict], coer := [(8, (.own sFact)), (9, (.own sConflict))] }),
  (20, { ps := [(.sc (.list sConflict)), (.sc (.list sConflict))], vals := [.sc .bool] }),
  (21, { ps := [(.agg sConflict), (.agg sConflict)], vals := [.sc .bool] }),
  (22, { ps := [(.agg sConflict)], vals := [.sc .str] }),
  (23, { ps := [(.agg sConflict)], vals := [.sc .str] }),
  (24, { ps := [(.agg sConflict), (.agg sConflict)], vals := [.sc (.int .i64)] }),
  (29, { ps := [(.agg sGraph)], vals := [.sc (.int .i64)] }),
  (30, { ps := [.raw, .raw, .raw, (.sc (.list .str)), (.sc (.list sProp))], vals := [.own sFact], coer := [(11, (.own sFact))] }),
  (31, { vals := [.sc .str] }),
  (32, { ps := [(.own sFact), .raw], tup := true, blks := [.elems 0 sFact] }),
  (33, { ps := [(.agg sFact), (.agg sFact)], vals := [.sc (.int .i64)] }),
  (34, { ps := [(.sc (.list sFact))], vals := [.sc (.int .i64)] }),
  (35, { ps := [.raw, (.agg sFact)], vals := [.sc .bool], blks := [.cells 0 sbuilder [1002, 1003]], excl := [(3, [1]), (8, [2])] }),
  (39, { ps := [(.agg sFact), (.agg sFact)], vals := [.sc .bool] }),
  (40, { ps := [(.sc (.list .str))], vals := [.agg sGraph], bcoer := [(25, 0, (.own sNode))] }),
  (41, { ps := [(.agg sGraph), (.agg sGraph), (.agg sGraph)], tup := true, vals := [.agg sGraph, .own sConflict, .sc (.int .i64)] }),
  (42, { ps := [.raw, (.agg scolumn)], tup := true, blks := [.cells 0 smerge [0, 1, 1002]], excl := [(9, [0, 1, 2, 6])] }),
  (43, { ps := [(.agg (.prod (.list sFact) (.prod (.list sFact) (.list sFact))))], vals := [.own scolumn], coer := [(3, (.own scolumn))], excl := [(16, [0, 1, 2])] }),
  (44, { ps := [.raw, (.agg sFact)], vals := [.sc (.int .i64)], blks := [.cells 0 smerge [20000, 30001, 1002]] }),
  (45, { ps := [.raw, (.agg sFact), .raw], tup := true, blks := [.cells 0 smerge [1, 20000, 1002]], excl := [(1, [0, 1, 2, 3])] }),
  (46, { ps := [(.own sConflict), .raw], tup := true, blks := [.elems 0 sConflict] }),
  (47, { ps := [(.sc (.list sFact)), (.sc (.list sFact))], vals := [.own sFact], coer := [(5, (.own sFact))] }),
  (48, { ps := [(.sc (.list sFact)), (.sc (.list sFact)), (.sc (.list sFact)), (.agg sFact)], tup := true, vals := [.sc .str, .sc .bool, .sc .bool] }),
  (49, { tup := true, vals := [.sc .str, .sc .str] }),
  (50, { ps := [(.sc (.list sFact)), (.sc (.list sFact)), (.sc (.list sFact)), .raw, .raw], vals := [.sc .bool] }),
  (51, { ps := [(.sc (.list (.int .i64)))], vals := [.sc (.int .i64)] }),
  (52, { vals := [.sc (.int .i64)] }),
  (53, { vals := [.sc (.int .i64)] }),
  (56, { ps := [(.agg sNode)], vals := [.sc (.int .i64)] }),
  (57, { ps := [(.agg sEdge)], vals := [.sc (.int .i64)] }),
  (58, { ps := [(.agg sGraph), .raw], tup := true, vals := [.sc (.int .i64), .sc .bool] }),
  (59, { ps := [(.agg sValue)], tup := true, vals := [.sc .str, .sc (.int .i64)] }),
  (60, { ps := [(.own sFact), .raw, .raw], tup := true, blks := [.elems 0 sFact] }),
  (61, { tup := true, vals := [.sc .str, .sc .str] }),
  (65, { ps := [(.agg scolumn)], vals := [.sc (.int .i64)] }),
  (66, { ps := [.raw, (.agg sFact)], tup := true, blks := [.cells 0 smerge [20000, 30001, 1002]], excl := [(2, [3])] }),
  (67, { vals := [.sc .str] }),
  (68, { ps := [(.own sConflict), .raw, .raw], tup := true, blks := [.elems 0 sConflict] }),
  (69, { ps := [(.sc (.list sFact)), (.agg sFact)], tup := true, vals := [.sc .str, .sc .bool] }),
  (70, { vals := [.sc .bool] }),
  (71, { vals := [.sc (.int .i64)] }),
  (74, { vals := [.sc (.int .i64)] }),
  (75, { ps := [(.sc (.list .str)), (.sc (.list sProp))], vals := [.sc (.int .i64)] }),
  (76, { ps := [(.sc (.list sNode)), .raw, .raw], tup := true, vals := [.sc (.int .i64), .sc .bool] }),
  (77, { ps := [(.agg sNode), .raw], vals := [.sc (.int .i64)] }),
  (78, { vals := [.sc (.int .i64)] }),
  (79, { ps := [(.agg sValue)], vals := [.sc (.int .i64)] }),
  (80, { vals := [.sc .str] }),
  (81, { vals := [.sc .str] }),
  (82, { ps := [(.own sFact), .raw, .raw, .raw], tup := true, blks := [.elems 0 sFact], excl := [(6, [0])] }),
  (83, { ps := [(.own sFact), .raw, .raw, .raw, .raw], tup := true, blks := [.elems 0 sFact], excl := [(11, [0]), (23, [0])] }),
  (84, { tup := true, vals := [.sc .str, .sc .str, .sc .bool] }),
  (86, { ps := [(.agg scolumn), .raw, .raw], vals := [.sc .bool] }),
  (87, { ps := [(.own sConflict), .raw, .raw, .raw], tup := true, blks := [.elems 0 sConflict], excl := [(6, [0])] }),
  (88, { ps := [(.own sConflict), .raw, .raw, .raw, .raw], tup := true, blks := [.elems 0 sConflict], excl := [(11, [0]), (23, [0])] }),
  (89, { op := some opCompare }),
  (91, { vals := [.sc .bool] }),
  (92, { ps := [(.sc (.list .str))], vals := [.sc (.int .i64)] }),
  (93, { ps := [(.sc (.list sProp))], vals := [.sc (.int .i64)] }),
  (94, { vals := [.sc .bool] }),
  (95, { vals := [.sc .str] }),
  (96, { vals := [.sc .str] }),
  (97, { ps := [(.own sFact), .raw, .raw, .raw, .raw], tup := true, blks := [.elems 0 sFact] }),
  (98, { tup := true, vals := [.sc .str, .sc .str, .sc .bool] }),
  (102, { ps := [(.own sConflict), .raw, .raw, .raw, .raw], tup := true, blks := [.elems 0 sConflict] }),
  (103, { vals := [.sc (.int .u64)] }),
  (104, { ps := [(.own sFact), .raw, .raw, .raw, .raw], tup := true, blks := [.elems 0 sFact], excl := [(3, [0])] }),
  (105, { vals := [.sc (.int .i64)] }),
  (111, { ps := [(.own sConflict), .raw, .raw, .raw, .raw], tup := true, blks := [.elems 0 sConflict], excl := [(3, [0])] }),
  (112, { vals := [.sc (.int .i64)] }),
  (120, { op := some opIndexByte })]
abbrev sg : FuncId → Sig := sigOf sgT
noncomputable def F.cmp_isNaN_int (K : Nat) (a0 : Int) : Option (Bool) := evFn Try.prog sg K 70 [.sc (.val (.int .i64 a0))] []
noncomputable def F.cmp_isNaN_int.B (a0 : Int) : Option (Bool) :=
    (some (a0 != a0))
theorem F.cmp_isNaN_int.eq K a0 : F.cmp_isNaN_int (K + 1) a0 = F.cmp_isNaN_int.B a0 := by kernel_rfl
noncomputable def V.cmp_isNaN_int (a0 : Int) := lim fun v => F.cmp_isNaN_int (v 0) a0
theorem V.cmp_isNaN_int.of a0 {r} (h : F.cmp_isNaN_int.B a0 = some r) : V.cmp_isNaN_int a0 = some r :=
  App.to (a := fun v => F.cmp_isNaN_int (v 0) a0) (b := F.cmp_isNaN_int.B a0) (App.step 0 (a := fun v => F.cmp_isNaN_int (v 0) a0) (fun v => F.cmp_isNaN_int.eq (v 0) a0) App.const) h
noncomputable def F.cmp_Compare_int (K : Nat) (a0 : Int) (a1 : Int) : Option (Int) := evFn Try.prog sg K 52 [.sc (.val (.int .i64 a0)), .sc (.val (.int .i64 a1))] []
noncomputable def F.cmp_Compare_int.B (c0 : (Int) → Option (Bool)) (a0 : Int) (a1 : Int) : Option (Int) :=
    ((c0 a0).bind fun t0 => ((c0 a1).bind fun t1 => (bif t0 then (bif t1 then (some 0) else (some (-1))) else (bif t1 then (some 1) else (bif (decide (a0 < a1)) then (some (-1)) else (bif (decide (a0 > a1)) then (some 1) else (some 0)))))))
theorem F.cmp_Compare_int.eq K a0 a1 : F.cmp_Compare_int (K + 1) a0 a1 = F.cmp_Compare_int.B (F.cmp_isNaN_int K) a0 a1 := by kernel_rfl
noncomputable def V.cmp_Compare_int (a0 : Int) (a1 : Int) := lim fun v => F.cmp_Compare_int (v 0) a0 a1
theorem V.cmp_Compare_int.of a0 a1 {r} (h : F.cmp_Compare_int.B V.cmp_isNaN_int a0 a1 = some r) : V.cmp_Compare_int a0 a1 = some r :=
  App.to (App.step 0 (fun v => F.cmp_Compare_int.eq (v 0) a0 a1) (by unfold F.cmp_Compare_int.B; repeat' first | apply App.guard | apply App.cond | exact App.lim | exact App.val | exact App.no | apply App.meet | apply App.ite | refine App.bind ?_ fun _ => ?_)) h
noncomputable def F.bytealg_CompareString (K : Nat) (a0 : ByteArray) (a1 : ByteArray) : Option (Int) := evFn Try.prog sg K 71 [.sc (.val (.string a0)), .sc (.val (.string a1))] []
noncomputable def F.bytealg_CompareString.B (a0 : ByteArray) (a1 : ByteArray) : Option (Int) :=
    (some (cmpS a0 a1))
theorem F.bytealg_CompareString.eq K a0 a1 : F.bytealg_CompareString (K + 1) a0 a1 = F.bytealg_CompareString.B a0 a1 := by kernel_rfl
noncomputable def V.bytealg_CompareString (a0 : ByteArray) (a1 : ByteArray) := lim fun v => F.bytealg_CompareString (v 0) a0 a1
theorem V.bytealg_CompareString.of a0 a1 {r} (h : F.bytealg_CompareString.B a0 a1 = some r) : V.bytealg_CompareString a0 a1 = some r :=
  App.to (a := fun v => F.bytealg_CompareString (v 0) a0 a1) (b := F.bytealg_CompareString.B a0 a1) (App.step 0 (a := fun v => F.bytealg_CompareString (v 0) a0 a1) (fun v => F.bytealg_CompareString.eq (v 0) a0 a1) App.const) h
noncomputable def F.strings_Compare (K : Nat) (a0 : ByteArray) (a1 : ByteArray) : Option (Int) := evFn Try.prog sg K 53 [.sc (.val (.string a0)), .sc (.val (.string a1))] []
noncomputable def F.strings_Compare.B (c0 : (ByteArray) → (ByteArray) → Option (Int)) (a0 : ByteArray) (a1 : ByteArray) : Option (Int) :=
    ((c0 a0 a1).bind fun t0 => (some t0))
theorem F.strings_Compare.eq K a0 a1 : F.strings_Compare (K + 1) a0 a1 = F.strings_Compare.B (F.bytealg_CompareString K) a0 a1 := by kernel_rfl
noncomputable def V.strings_Compare (a0 : ByteArray) (a1 : ByteArray) := lim fun v => F.strings_Compare (v 0) a0 a1
theorem V.strings_Compare.of a0 a1 {r} (h : F.strings_Compare.B V.bytealg_CompareString a0 a1 = some r) : V.strings_Compare a0 a1 = some r :=
  App.to (App.step 0 (fun v => F.strings_Compare.eq (v 0) a0 a1) (by unfold F.strings_Compare.B; repeat' first | apply App.guard | apply App.cond | exact App.lim | exact App.val | exact App.no | apply App.meet | apply App.ite | refine App.bind ?_ fun _ => ?_)) h
noncomputable def F.cmp_Or_int (K : Nat) (a0 : List Int) : Option (Int) := evFn Try.prog sg K 51 [.sc (.list (.int .i64) a0 false)] []
noncomputable def F.cmp_Or_int.at (K : Nat) (p ns : List Nat) (s : St) : Option (Int) := atFn Try.prog sg K 51 0 p ns s
noncomputable def F.cmp_Or_int.in (K : Nat) (H : List Nat → List Nat → St → Option (Int)) (p ns : List Nat) (s : St) : Option (Int) := inFn Try.prog sg K 51 0 [] H p ns s
theorem F.cmp_Or_int.in_eq K p ns s : F.cmp_Or_int.at K p ns s = F.cmp_Or_int.in K (F.cmp_Or_int.at K) p ns s := atFn_eq (P := Try.prog) (sg := sg) (K := K) (f := 51) (m := 0) [] p ns s
theorem F.cmp_Or_int.in_main K a0 : F.cmp_Or_int (K + 1) a0 = F.cmp_Or_int.in K (F.cmp_Or_int.at K) [] [] ⟨slots [.sc (.list (.int .i64) a0 false)] 0, []⟩ := evFn_eq (P := Try.prog) (sg := sg) (K := K) (f := 51) (args := [.sc (.list (.int .i64) a0 false)]) (σ := []) [] (by kernel_rfl)
def F.cmp_Or_int.l11010.st (a0 : List Int) (x0 : Int) : St := ⟨[(3, vI 0), (6, vL (.int .i64) a0), (7, vI (a0.length : Int)), (8, vI x0)], []⟩
noncomputable def F.cmp_Or_int.l11010 (K n0 : Nat) (a0 : List Int) (x0 : Int) := F.cmp_Or_int.at K [1, 1, 0, 1, 0] [n0] (F.cmp_Or_int.l11010.st a0 x0)
noncomputable def F.cmp_Or_int.l11010.B (c0 : (List Int) → (Int) → Option (Int)) (a0 : List Int) (x0 : Int) : Option (Int) :=
    (bif (decide (x0 < (a0.length : Int))) then (guardK (decide (0 ≤ x0) && decide (x0 < (a0.length : Int))) (bif ((rd (.int .i64) a0 x0.toNat) != 0) then (some (rd (.int .i64) a0 x0.toNat)) else (c0 a0 (w64 (x0 + 1))))) else (some 0))
theorem F.cmp_Or_int.l11010.eq K n0 a0 x0 : F.cmp_Or_int.l11010 K (n0 + 1) a0 x0 = F.cmp_Or_int.l11010.B (F.cmp_Or_int.l11010 K n0) a0 x0 := (F.cmp_Or_int.in_eq K [1, 1, 0, 1, 0] [n0 + 1] (F.cmp_Or_int.l11010.st a0 x0)).trans ((show ∀ H, F.cmp_Or_int.in K H [1, 1, 0, 1, 0] [n0 + 1] (F.cmp_Or_int.l11010.st a0 x0) = F.cmp_Or_int.l11010.B (fun a0 x0 => H [1, 1, 0, 1, 0] [n0] (F.cmp_Or_int.l11010.st a0 x0)) a0 x0 from by intro H; kernel_rfl) (F.cmp_Or_int.at K))
noncomputable def F.cmp_Or_int.B (c0 : (List Int) → (Int) → Option (Int)) (a0 : List Int) : Option (Int) :=
    (c0 a0 0)
theorem F.cmp_Or_int.eq K a0 : F.cmp_Or_int (K + 1) a0 = F.cmp_Or_int.B (F.cmp_Or_int.l11010 K K) a0 := (F.cmp_Or_int.in_main K a0).trans ((show ∀ H, F.cmp_Or_int.in K H [] [] ⟨slots [.sc (.list (.int .i64) a0 false)] 0, []⟩ = F.cmp_Or_int.B (fun a0 x0 => H [1, 1, 0, 1, 0] [K] (F.cmp_Or_int.l11010.st a0 x0)) a0 from by intro H; kernel_rfl) (F.cmp_Or_int.at K))
noncomputable def V.cmp_Or_int.l11010 (a0 : List Int) (x0 : Int) := lim fun v => F.cmp_Or_int.l11010 (v 0) (v 1) a0 x0
noncomputable def V.cmp_Or_int (a0 : List Int) := lim fun v => F.cmp_Or_int (v 0) a0
theorem V.cmp_Or_int.l11010.of a0 x0 {r} (h : F.cmp_Or_int.l11010.B V.cmp_Or_int.l11010 a0 x0 = some r) : V.cmp_Or_int.l11010 a0 x0 = some r :=
  App.to (App.step 1 (fun v => F.cmp_Or_int.l11010.eq (v 0) (v 1) a0 x0) (by unfold F.cmp_Or_int.l11010.B; repeat' first | apply App.guard | apply App.cond | exact App.lim | exact App.val | exact App.no | apply App.meet | apply App.ite | refine App.bind ?_ fun _ => ?_)) h
theorem V.cmp_Or_int.of a0 {r} (h : F.cmp_Or_int.B V.cmp_Or_int.l11010 a0 = some r) : V.cmp_Or_int a0 = some r :=
  App.to (App.step 0 (fun v => F.cmp_Or_int.eq (v 0) a0) (by unfold F.cmp_Or_int.B; repeat' first | apply App.guard | apply App.cond | exact App.lim | exact (App.enter 1 App.lim) | exact App.val | exact App.no | apply App.meet | apply App.ite | refine App.bind ?_ fun _ => ?_)) h
noncomputable def F.three_Compare (K : Nat) (a0 : TConflict) (a1 : TConflict) : Option (Int) := evFn Try.prog sg K 24 [.agg [.val (.int .i64 a0.1), .val (.string a0.2.1), .val (.string a0.2.2.1), .val (.int .i64 a0.2.2.2)], .agg [.val (.int .i64 a1.1), .val (.string a1.2.1), .val (.string a1.2.2.1), .val (.int .i64 a1.2.2.2)]] []
noncomputable def F.three_Compare.B (c0 : (Int) → (Int) → Option (Int)) (c1 : (ByteArray) → (ByteArray) → Option (Int)) (c2 : (List Int) → Option (Int)) (a0 : TConflict) (a1 : TConflict) : Option (Int) :=
    ((c0 a0.1 a1.1).bind fun t0 => ((c1 a0.2.1 a1.2.1).bind fun t1 => ((c1 a0.2.2.1 a1.2.2.1).bind fun t2 => ((c0 a0.2.2.2 a1.2.2.2).bind fun t3 => ((c2 ([t0, t1, t2, t3])).bind fun t4 => (some t4))))))
theorem F.three_Compare.eq K a0 a1 : F.three_Compare (K + 1) a0 a1 = F.three_Compare.B (F.cmp_Compare_int K) (F.strings_Compare K) (F.cmp_Or_int K) a0 a1 := by kernel_rfl
noncomputable def V.three_Compare (a0 : TConflict) (a1 : TConflict) := lim fun v => F.three_Compare (v 0) a0 a1
theorem V.three_Compare.of a0 a1 {r} (h : F.three_Compare.B V.cmp_Compare_int V.strings_Compare V.cmp_Or_int a0 a1 = some r) : V.three_Compare a0 a1 = some r :=
  App.to (App.step 0 (fun v => F.three_Compare.eq (v 0) a0 a1) (by unfold F.three_Compare.B; repeat' first | apply App.guard | apply App.cond | exact App.lim | exact App.val | exact App.no | apply App.meet | apply App.ite | refine App.bind ?_ fun _ => ?_)) h
noncomputable def F.three_Show (K : Nat) (a0 : TConflict) : Option (ByteArray) := evFn Try.prog sg K 22 [.agg [.val (.int .i64 a0.1), .val (.string a0.2.1), .val (.string a0.2.2.1), .val (.int .i64 a0.2.2.2)]] []
noncomputable def F.three_Show.at (K : Nat) (p ns : List Nat) (s : St) : Option (ByteArray) := atFn Try.prog sg K 22 0 p ns s
noncomputable def F.three_Show.in (K : Nat) (H : List Nat → List Nat → St → Option (ByteArray)) (p ns : List Nat) (s : St) : Option (ByteArray) := inFn Try.prog sg K 22 0 [[1, 1, 1, 0, 1], [1, 1, 1, 1, 1, 1]] H p ns s
theorem F.three_Show.in_eq K p ns s : F.three_Show.at K p ns s = F.three_Show.in K (F.three_Show.at K) p ns s := atFn_eq (P := Try.prog) (sg := sg) (K := K) (f := 22) (m := 0) [[1, 1, 1, 0, 1], [1, 1, 1, 1, 1, 1]] p ns s
theorem F.three_Show.in_main K a0 : F.three_Show (K + 1) a0 = F.three_Show.in K (F.three_Show.at K) [] [] ⟨slots [.agg [.val (.int .i64 a0.1), .val (.string a0.2.1), .val (.string a0.2.2.1), .val (.int .i64 a0.2.2.2)]] 0, []⟩ := evFn_eq (P := Try.prog) (sg := sg) (K := K) (f := 22) (args := [.agg [.val (.int .i64 a0.1), .val (.string a0.2.1), .val (.string a0.2.2.1), .val (.int .i64 a0.2.2.2)]]) (σ := []) [[1, 1, 1, 0, 1], [1, 1, 1, 1, 1, 1]] (by kernel_rfl)
def F.three_Show.j11101.st (a0 : TConflict) (x0 : Bool) : St := ⟨[(1, .one (.sc (.ref 0 0))), (3, .one (.sc (.own 1 none))), (4, .one (.sc (.own 2 none))), (29, vB x0)], [.cells 46 [.val (.int .i64 a0.1), .val (.string a0.2.1), .val (.string a0.2.2.1), .val (.int .i64 a0.2.2.2)], .elems .str ([(⟨#[]⟩ : ByteArray), (⟨#[110, 111, 100, 101]⟩ : ByteArray), (⟨#[108, 97, 98, 101, 108]⟩ : ByteArray), (⟨#[112, 114, 111, 112, 101, 114, 116, 121]⟩ : ByteArray), (⟨#[101, 100, 103, 101]⟩ : ByteArray), (⟨#[109, 97, 114, 107]⟩ : ByteArray), (⟨#[97, 116, 116, 114, 105, 98, 117, 116, 101]⟩ : ByteArray)]), .elems .str ([(⟨#[]⟩ : ByteArray), (⟨#[98, 111, 116, 104]⟩ : ByteArray), (⟨#[101, 110, 100]⟩ : ByteArray), (⟨#[115, 116, 114, 97, 121]⟩ : ByteArray)])]⟩
noncomputable def F.three_Show.j11101 (K : Nat) (a0 : TConflict) (x0 : Bool) := F.three_Show.at K [1, 1, 1, 0, 1] [] (F.three_Show.j11101.st a0 x0)
def F.three_Show.j111111.st (a0 : TConflict) (x0 : ByteArray) : St := ⟨[(5, vS x0)], []⟩
noncomputable def F.three_Show.j111111 (K : Nat) (a0 : TConflict) (x0 : ByteArray) := F.three_Show.at K [1, 1, 1, 1, 1, 1] [] (F.three_Show.j111111.st a0 x0)
noncomputable def F.three_Show.j11101.B (c0 : (TConflict) → (ByteArray) → Option (ByteArray)) (a0 : TConflict) (x0 : Bool) : Option (ByteArray) :=
    (bif x0 then (some (⟨#[]⟩ : ByteArray)) else (guardK (decide (0 ≤ a0.2.2.2) && decide (a0.2.2.2 < (([(⟨#[]⟩ : ByteArray), (⟨#[98, 111, 116, 104]⟩ : ByteArray), (⟨#[101, 110, 100]⟩ : ByteArray), (⟨#[115, 116, 114, 97, 121]⟩ : ByteArray)]).length : Int))) (guardK (decide ((rd .str ([(⟨#[]⟩ : ByteArray), (⟨#[98, 111, 116, 104]⟩ : ByteArray), (⟨#[101, 110, 100]⟩ : ByteArray), (⟨#[115, 116, 114, 97, 121]⟩ : ByteArray)]) a0.2.2.2.toNat).size + (⟨#[32]⟩ : ByteArray).size ≤ i64max)) (guardK (decide (0 ≤ a0.1) && decide (a0.1 < (([(⟨#[]⟩ : ByteArray), (⟨#[110, 111, 100, 101]⟩ : ByteArray), (⟨#[108, 97, 98, 101, 108]⟩ : ByteArray), (⟨#[112, 114, 111, 112, 101, 114, 116, 121]⟩ : ByteArray), (⟨#[101, 100, 103, 101]⟩ : ByteArray), (⟨#[109, 97, 114, 107]⟩ : ByteArray), (⟨#[97, 116, 116, 114, 105, 98, 117, 116, 101]⟩ : ByteArray)]).length : Int))) (guardK (decide (((rd .str ([(⟨#[]⟩ : ByteArray), (⟨#[98, 111, 116, 104]⟩ : ByteArray), (⟨#[101, 110, 100]⟩ : ByteArray), (⟨#[115, 116, 114, 97, 121]⟩ : ByteArray)]) a0.2.2.2.toNat) ++ (⟨#[32]⟩ : ByteArray)).size + (rd .str ([(⟨#[]⟩ : ByteArray), (⟨#[110, 111, 100, 101]⟩ : ByteArray), (⟨#[108, 97, 98, 101, 108]⟩ : ByteArray), (⟨#[112, 114, 111, 112, 101, 114, 116, 121]⟩ : ByteArray), (⟨#[101, 100, 103, 101]⟩ : ByteArray), (⟨#[109, 97, 114, 107]⟩ : ByteArray), (⟨#[97, 116, 116, 114, 105, 98, 117, 116, 101]⟩ : ByteArray)]) a0.1.toNat).size ≤ i64max)) (guardK (decide ((((rd .str ([(⟨#[]⟩ : ByteArray), (⟨#[98, 111, 116, 104]⟩ : ByteArray), (⟨#[101, 110, 100]⟩ : ByteArray), (⟨#[115, 116, 114, 97, 121]⟩ : ByteArray)]) a0.2.2.2.toNat) ++ (⟨#[32]⟩ : ByteArray)) ++ (rd .str ([(⟨#[]⟩ : ByteArray), (⟨#[110, 111, 100, 101]⟩ : ByteArray), (⟨#[108, 97, 98, 101, 108]⟩ : ByteArray), (⟨#[112, 114, 111, 112, 101, 114, 116, 121]⟩ : ByteArray), (⟨#[101, 100, 103, 101]⟩ : ByteArray), (⟨#[109, 97, 114, 107]⟩ : ByteArray), (⟨#[97, 116, 116, 114, 105, 98, 117, 116, 101]⟩ : ByteArray)]) a0.1.toNat)).size + (⟨#[32]⟩ : ByteArray).size ≤ i64max)) (guardK (decide (((((rd .str ([(⟨#[]⟩ : ByteArray), (⟨#[98, 111, 116, 104]⟩ : ByteArray), (⟨#[101, 110, 100]⟩ : ByteArray), (⟨#[115, 116, 114, 97, 121]⟩ : ByteArray)]) a0.2.2.2.toNat) ++ (⟨#[32]⟩ : ByteArray)) ++ (rd .str ([(⟨#[]⟩ : ByteArray), (⟨#[110, 111, 100, 101]⟩ : ByteArray), (⟨#[108, 97, 98, 101, 108]⟩ : ByteArray), (⟨#[112, 114, 111, 112, 101, 114, 116, 121]⟩ : ByteArray), (⟨#[101, 100, 103, 101]⟩ : ByteArray), (⟨#[109, 97, 114, 107]⟩ : ByteArray), (⟨#[97, 116, 116, 114, 105, 98, 117, 116, 101]⟩ : ByteArray)]) a0.1.toNat)) ++ (⟨#[32]⟩ : ByteArray)).size + a0.2.1.size ≤ i64max)) (bif (!strEq a0.2.2.1 (⟨#[]⟩ : ByteArray)) then (guardK (decide ((⟨#[32]⟩ : ByteArray).size + a0.2.2.1.size ≤ i64max)) (guardK (decide ((((((rd .str ([(⟨#[]⟩ : ByteArray), (⟨#[98, 111, 116, 104]⟩ : ByteArray), (⟨#[101, 110, 100]⟩ : ByteArray), (⟨#[115, 116, 114, 97, 121]⟩ : ByteArray)]) a0.2.2.2.toNat) ++ (⟨#[32]⟩ : ByteArray)) ++ (rd .str ([(⟨#[]⟩ : ByteArray), (⟨#[110, 111, 100, 101]⟩ : ByteArray), (⟨#[108, 97, 98, 101, 108]⟩ : ByteArray), (⟨#[112, 114, 111, 112, 101, 114, 116, 121]⟩ : ByteArray), (⟨#[101, 100, 103, 101]⟩ : ByteArray), (⟨#[109, 97, 114, 107]⟩ : ByteArray), (⟨#[97, 116, 116, 114, 105, 98, 117, 116, 101]⟩ : ByteArray)]) a0.1.toNat)) ++ (⟨#[32]⟩ : ByteArray)) ++ a0.2.1).size + ((⟨#[32]⟩ : ByteArray) ++ a0.2.2.1).size ≤ i64max)) (c0 a0 ((((((rd .str ([(⟨#[]⟩ : ByteArray), (⟨#[98, 111, 116, 104]⟩ : ByteArray), (⟨#[101, 110, 100]⟩ : ByteArray), (⟨#[115, 116, 114, 97, 121]⟩ : ByteArray)]) a0.2.2.2.toNat) ++ (⟨#[32]⟩ : ByteArray)) ++ (rd .str ([(⟨#[]⟩ : ByteArray), (⟨#[110, 111, 100, 101]⟩ : ByteArray), (⟨#[108, 97, 98, 101, 108]⟩ : ByteArray), (⟨#[112, 114, 111, 112, 101, 114, 116, 121]⟩ : ByteArray), (⟨#[101, 100, 103, 101]⟩ : ByteArray), (⟨#[109, 97, 114, 107]⟩ : ByteArray), (⟨#[97, 116, 116, 114, 105, 98, 117, 116, 101]⟩ : ByteArray)]) a0.1.toNat)) ++ (⟨#[32]⟩ : ByteArray)) ++ a0.2.1) ++ ((⟨#[32]⟩ : ByteArray) ++ a0.2.2.1))))) else (c0 a0 (((((rd .str ([(⟨#[]⟩ : ByteArray), (⟨#[98, 111, 116, 104]⟩ : ByteArray), (⟨#[101, 110, 100]⟩ : ByteArray), (⟨#[115, 116, 114, 97, 121]⟩ : ByteArray)]) a0.2.2.2.toNat) ++ (⟨#[32]⟩ : ByteArray)) ++ (rd .str ([(⟨#[]⟩ : ByteArray), (⟨#[110, 111, 100, 101]⟩ : ByteArray), (⟨#[108, 97, 98, 101, 108]⟩ : ByteArray), (⟨#[112, 114, 111, 112, 101, 114, 116, 121]⟩ : ByteArray), (⟨#[101, 100, 103, 101]⟩ : ByteArray), (⟨#[109, 97, 114, 107]⟩ : ByteArray), (⟨#[97, 116, 116, 114, 105, 98, 117, 116, 101]⟩ : ByteArray)]) a0.1.toNat)) ++ (⟨#[32]⟩ : ByteArray)) ++ a0.2.1))))))))))
theorem F.three_Show.j11101.eq K a0 x0 : F.three_Show.j11101 K a0 x0 = F.three_Show.j11101.B (F.three_Show.j111111 K) a0 x0 := (F.three_Show.in_eq K [1, 1, 1, 0, 1] [] (F.three_Show.j11101.st a0 x0)).trans ((show ∀ H, F.three_Show.in K H [1, 1, 1, 0, 1] [] (F.three_Show.j11101.st a0 x0) = F.three_Show.j11101.B (fun a0 x0 => H [1, 1, 1, 1, 1, 1] [] (F.three_Show.j111111.st a0 x0)) a0 x0 from by intro H; kernel_rfl) (F.three_Show.at K))
noncomputable def F.three_Show.j111111.B (a0 : TConflict) (x0 : ByteArray) : Option (ByteArray) :=
    (some x0)
theorem F.three_Show.j111111.eq K a0 x0 : F.three_Show.j111111 K a0 x0 = F.three_Show.j111111.B a0 x0 := (F.three_Show.in_eq K [1, 1, 1, 1, 1, 1] [] (F.three_Show.j111111.st a0 x0)).trans ((show ∀ H, F.three_Show.in K H [1, 1, 1, 1, 1, 1] [] (F.three_Show.j111111.st a0 x0) = F.three_Show.j111111.B a0 x0 from by intro H; kernel_rfl) (F.three_Show.at K))
noncomputable def F.three_Show.B (c0 : (TConflict) → (Bool) → Option (ByteArray)) (a0 : TConflict) : Option (ByteArray) :=
    (bif (decide (a0.1 < 1)) then (c0 a0 true) else (bif (decide (a0.1 ≥ (([(⟨#[]⟩ : ByteArray), (⟨#[110, 111, 100, 101]⟩ : ByteArray), (⟨#[108, 97, 98, 101, 108]⟩ : ByteArray), (⟨#[112, 114, 111, 112, 101, 114, 116, 121]⟩ : ByteArray), (⟨#[101, 100, 103, 101]⟩ : ByteArray), (⟨#[109, 97, 114, 107]⟩ : ByteArray), (⟨#[97, 116, 116, 114, 105, 98, 117, 116, 101]⟩ : ByteArray)]).length : Int))) then (c0 a0 true) else (bif (decide (a0.2.2.2 < 1)) then (c0 a0 true) else (c0 a0 (decide (a0.2.2.2 ≥ (([(⟨#[]⟩ : ByteArray), (⟨#[98, 111, 116, 104]⟩ : ByteArray), (⟨#[101, 110, 100]⟩ : ByteArray), (⟨#[115, 116, 114, 97, 121]⟩ : ByteArray)]).length : Int)))))))
theorem F.three_Show.eq K a0 : F.three_Show (K + 1) a0 = F.three_Show.B (F.three_Show.j11101 K) a0 := (F.three_Show.in_main K a0).trans ((show ∀ H, F.three_Show.in K H [] [] ⟨slots [.agg [.val (.int .i64 a0.1), .val (.string a0.2.1), .val (.string a0.2.2.1), .val (.int .i64 a0.2.2.2)]] 0, []⟩ = F.three_Show.B (fun a0 x0 => H [1, 1, 1, 0, 1] [] (F.three_Show.j11101.st a0 x0)) a0 from by intro H; kernel_rfl) (F.three_Show.at K))
noncomputable def V.three_Show.j11101 (a0 : TConflict) (x0 : Bool) := lim fun v => F.three_Show.j11101 (v 0) a0 x0
noncomputable def V.three_Show.j111111 (a0 : TConflict) (x0 : ByteArray) := lim fun v => F.three_Show.j111111 (v 0) a0 x0
noncomputable def V.three_Show (a0 : TConflict) := lim fun v => F.three_Show (v 0) a0
theorem V.three_Show.j11101.of a0 x0 {r} (h : F.three_Show.j11101.B V.three_Show.j111111 a0 x0 = some r) : V.three_Show.j11101 a0 x0 = some r :=
  App.to (App.same (fun v => F.three_Show.j11101.eq (v 0) a0 x0) (by unfold F.three_Show.j11101.B; repeat' first | apply App.guard | apply App.cond | exact App.lim | exact App.val | exact App.no | apply App.meet | apply App.ite | refine App.bind ?_ fun _ => ?_)) h
theorem V.three_Show.j111111.of a0 x0 {r} (h : F.three_Show.j111111.B a0 x0 = some r) : V.three_Show.j111111 a0 x0 = some r :=
  App.to (App.same (fun v => F.three_Show.j111111.eq (v 0) a0 x0) App.const) h
theorem V.three_Show.of a0 {r} (h : F.three_Show.B V.three_Show.j11101 a0 = some r) : V.three_Show a0 = some r :=
  App.to (App.step 0 (fun v => F.three_Show.eq (v 0) a0) (by unfold F.three_Show.B; repeat' first | apply App.guard | apply App.cond | exact App.lim | exact App.val | exact App.no | apply App.meet | apply App.ite | refine App.bind ?_ fun _ => ?_)) h
noncomputable def F.pleachlaw28_awake (K : Nat) : Option (Bool) := evFn Try.prog sg K 17 [] []
noncomputable def V.pleachlaw28_awake := lim fun v => F.pleachlaw28_awake (v 0)
noncomputable def F.pleachref27_Less (K : Nat) (a0 : TFact) (a1 : TFact) : Option (Bool) := evFn Try.prog sg K 39 [.agg [.val (.int .i64 a0.1), .val (.string a0.2.1), .val (.string a0.2.2.1), .val (.string a0.2.2.2)], .agg [.val (.int .i64 a1.1), .val (.string a1.2.1), .val (.string a1.2.2.1), .val (.string a1.2.2.2)]] []
noncomputable def F.pleachref27_Less.B (a0 : TFact) (a1 : TFact) : Option (Bool) :=
    (bif (a0.1 != a1.1) then (some (decide (a0.1 < a1.1))) else (bif (!strEq a0.2.1 a1.2.1) then (some (strLt a0.2.1 a1.2.1)) else (some (strLt a0.2.2.1 a1.2.2.1))))
theorem F.pleachref27_Less.eq K a0 a1 : F.pleachref27_Less (K + 1) a0 a1 = F.pleachref27_Less.B a0 a1 := by kernel_rfl
noncomputable def V.pleachref27_Less (a0 : TFact) (a1 : TFact) := lim fun v => F.pleachref27_Less (v 0) a0 a1
theorem V.pleachref27_Less.of a0 a1 {r} (h : F.pleachref27_Less.B a0 a1 = some r) : V.pleachref27_Less a0 a1 = some r :=
  App.to (a := fun v => F.pleachref27_Less (v 0) a0 a1) (b := F.pleachref27_Less.B a0 a1) (App.step 0 (a := fun v => F.pleachref27_Less (v 0) a0 a1) (fun v => F.pleachref27_Less.eq (v 0) a0 a1) App.const) h
noncomputable def F.pleachref28_Less (K : Nat) (a0 : TConflict) (a1 : TConflict) : Option (Bool) := evFn Try.prog sg K 21 [.agg [.val (.int .i64 a0.1), .val (.string a0.2.1), .val (.string a0.2.2.1), .val (.int .i64 a0.2.2.2)], .agg [.val (.int .i64 a1.1), .val (.string a1.2.1), .val (.string a1.2.2.1), .val (.int .i64 a1.2.2.2)]] []
noncomputable def F.pleachref28_Less.B (c0 : (TFact) → (TFact) → Option (Bool)) (a0 : TConflict) (a1 : TConflict) : Option (Bool) :=
    (bif ((a0.1 == a1.1) && ((strEq a0.2.1 a1.2.1) && ((strEq a0.2.2.1 a1.2.2.1) && ((strEq (⟨#[]⟩ : ByteArray) (⟨#[]⟩ : ByteArray)) && true)))) then (some (decide (a0.2.2.2 < a1.2.2.2))) else ((c0 (a0.1, a0.2.1, a0.2.2.1, (⟨#[]⟩ : ByteArray)) (a1.1, a1.2.1, a1.2.2.1, (⟨#[]⟩ : ByteArray))).bind fun t0 => (some t0)))
theorem F.pleachref28_Less.eq K a0 a1 : F.pleachref28_Less (K + 1) a0 a1 = F.pleachref28_Less.B (F.pleachref27_Less K) a0 a1 := by kernel_rfl
noncomputable def V.pleachref28_Less (a0 : TConflict) (a1 : TConflict) := lim fun v => F.pleachref28_Less (v 0) a0 a1
theorem V.pleachref28_Less.of a0 a1 {r} (h : F.pleachref28_Less.B V.pleachref27_Less a0 a1 = some r) : V.pleachref28_Less a0 a1 = some r :=
  App.to (App.step 0 (fun v => F.pleachref28_Less.eq (v 0) a0 a1) (by unfold F.pleachref28_Less.B; repeat' first | apply App.guard | apply App.cond | exact App.lim | exact App.val | exact App.no | apply App.meet | apply App.ite | refine App.bind ?_ fun _ => ?_)) h
noncomputable def F.pleachref28_Show (K : Nat) (a0 : TConflict) : Option (ByteArray) := evFn Try.prog sg K 23 [.agg [.val (.int .i64 a0.1), .val (.string a0.2.1), .val (.string a0.2.2.1), .val (.int .i64 a0.2.2.2)]] []
noncomputable def F.pleachref28_Show.at (K : Nat) (p ns : List Nat) (s : St) : Option (ByteArray) := atFn Try.prog sg K 23 0 p ns s
noncomputable def F.pleachref28_Show.in (K : Nat) (H : List Nat → List Nat → St → Option (ByteArray)) (p ns : List Nat) (s : St) : Option (ByteArray) := inFn Try.prog sg K 23 0 [[1, 1, 1, 0, 1], [1, 1, 1, 1, 1, 1]] H p ns s
theorem F.pleachref28_Show.in_eq K p ns s : F.pleachref28_Show.at K p ns s = F.pleachref28_Show.in K (F.pleachref28_Show.at K) p ns s := atFn_eq (P := Try.prog) (sg := sg) (K := K) (f := 23) (m := 0) [[1, 1, 1, 0, 1], [1, 1, 1, 1, 1, 1]] p ns s
theorem F.pleachref28_Show.in_main K a0 : F.pleachref28_Show (K + 1) a0 = F.pleachref28_Show.in K (F.pleachref28_Show.at K) [] [] ⟨slots [.agg [.val (.int .i64 a0.1), .val (.string a0.2.1), .val (.string a0.2.2.1), .val (.int .i64 a0.2.2.2)]] 0, []⟩ := evFn_eq (P := Try.prog) (sg := sg) (K := K) (f := 23) (args := [.agg [.val (.int .i64 a0.1), .val (.string a0.2.1), .val (.string a0.2.2.1), .val (.int .i64 a0.2.2.2)]]) (σ := []) [[1, 1, 1, 0, 1], [1, 1, 1, 1, 1, 1]] (by kernel_rfl)
def F.pleachref28_Show.j11101.st (a0 : TConflict) (x0 : Bool) : St := ⟨[(1, .one (.sc (.ref 0 0))), (3, .one (.sc (.own 1 none))), (4, .one (.sc (.own 2 none))), (25, vB x0)], [.cells 46 [.val (.int .i64 a0.1), .val (.string a0.2.1), .val (.string a0.2.2.1), .val (.int .i64 a0.2.2.2)], .elems .str ([(⟨#[110, 111, 100, 101]⟩ : ByteArray), (⟨#[108, 97, 98, 101, 108]⟩ : ByteArray), (⟨#[112, 114, 111, 112, 101, 114, 116, 121]⟩ : ByteArray), (⟨#[101, 100, 103, 101]⟩ : ByteArray), (⟨#[109, 97, 114, 107]⟩ : ByteArray), (⟨#[97, 116, 116, 114, 105, 98, 117, 116, 101]⟩ : ByteArray)]), .elems .str ([(⟨#[98, 111, 116, 104]⟩ : ByteArray), (⟨#[101, 110, 100]⟩ : ByteArray), (⟨#[115, 116, 114, 97, 121]⟩ : ByteArray)])]⟩
noncomputable def F.pleachref28_Show.j11101 (K : Nat) (a0 : TConflict) (x0 : Bool) := F.pleachref28_Show.at K [1, 1, 1, 0, 1] [] (F.pleachref28_Show.j11101.st a0 x0)
def F.pleachref28_Show.j111111.st (a0 : TConflict) (x0 : ByteArray) : St := ⟨[(5, vS x0)], []⟩
noncomputable def F.pleachref28_Show.j111111 (K : Nat) (a0 : TConflict) (x0 : ByteArray) := F.pleachref28_Show.at K [1, 1, 1, 1, 1, 1] [] (F.pleachref28_Show.j111111.st a0 x0)
noncomputable def F.pleachref28_Show.j11101.B (c0 : (TConflict) → (ByteArray) → Option (ByteArray)) (a0 : TConflict) (x0 : Bool) : Option (ByteArray) :=
    (bif x0 then (some (⟨#[]⟩ : ByteArray)) else (guardK (decide (0 ≤ (w64 (a0.2.2.2 - 1))) && decide ((w64 (a0.2.2.2 - 1)) < (([(⟨#[98, 111, 116, 104]⟩ : ByteArray), (⟨#[101, 110, 100]⟩ : ByteArray), (⟨#[115, 116, 114, 97, 121]⟩ : ByteArray)]).length : Int))) (guardK (decide ((rd .str ([(⟨#[98, 111, 116, 104]⟩ : ByteArray), (⟨#[101, 110, 100]⟩ : ByteArray), (⟨#[115, 116, 114, 97, 121]⟩ : ByteArray)]) ((w64 (a0.2.2.2 - 1)).toNat)).size + (⟨#[32]⟩ : ByteArray).size ≤ i64max)) (guardK (decide (0 ≤ (w64 (a0.1 - 1))) && decide ((w64 (a0.1 - 1)) < (([(⟨#[110, 111, 100, 101]⟩ : ByteArray), (⟨#[108, 97, 98, 101, 108]⟩ : ByteArray), (⟨#[112, 114, 111, 112, 101, 114, 116, 121]⟩ : ByteArray), (⟨#[101, 100, 103, 101]⟩ : ByteArray), (⟨#[109, 97, 114, 107]⟩ : ByteArray), (⟨#[97, 116, 116, 114, 105, 98, 117, 116, 101]⟩ : ByteArray)]).length : Int))) (guardK (decide (((rd .str ([(⟨#[98, 111, 116, 104]⟩ : ByteArray), (⟨#[101, 110, 100]⟩ : ByteArray), (⟨#[115, 116, 114, 97, 121]⟩ : ByteArray)]) ((w64 (a0.2.2.2 - 1)).toNat)) ++ (⟨#[32]⟩ : ByteArray)).size + (rd .str ([(⟨#[110, 111, 100, 101]⟩ : ByteArray), (⟨#[108, 97, 98, 101, 108]⟩ : ByteArray), (⟨#[112, 114, 111, 112, 101, 114, 116, 121]⟩ : ByteArray), (⟨#[101, 100, 103, 101]⟩ : ByteArray), (⟨#[109, 97, 114, 107]⟩ : ByteArray), (⟨#[97, 116, 116, 114, 105, 98, 117, 116, 101]⟩ : ByteArray)]) ((w64 (a0.1 - 1)).toNat)).size ≤ i64max)) (guardK (decide ((((rd .str ([(⟨#[98, 111, 116, 104]⟩ : ByteArray), (⟨#[101, 110, 100]⟩ : ByteArray), (⟨#[115, 116, 114, 97, 121]⟩ : ByteArray)]) ((w64 (a0.2.2.2 - 1)).toNat)) ++ (⟨#[32]⟩ : ByteArray)) ++ (rd .str ([(⟨#[110, 111, 100, 101]⟩ : ByteArray), (⟨#[108, 97, 98, 101, 108]⟩ : ByteArray), (⟨#[112, 114, 111, 112, 101, 114, 116, 121]⟩ : ByteArray), (⟨#[101, 100, 103, 101]⟩ : ByteArray), (⟨#[109, 97, 114, 107]⟩ : ByteArray), (⟨#[97, 116, 116, 114, 105, 98, 117, 116, 101]⟩ : ByteArray)]) ((w64 (a0.1 - 1)).toNat))).size + (⟨#[32]⟩ : ByteArray).size ≤ i64max)) (guardK (decide (((((rd .str ([(⟨#[98, 111, 116, 104]⟩ : ByteArray), (⟨#[101, 110, 100]⟩ : ByteArray), (⟨#[115, 116, 114, 97, 121]⟩ : ByteArray)]) ((w64 (a0.2.2.2 - 1)).toNat)) ++ (⟨#[32]⟩ : ByteArray)) ++ (rd .str ([(⟨#[110, 111, 100, 101]⟩ : ByteArray), (⟨#[108, 97, 98, 101, 108]⟩ : ByteArray), (⟨#[112, 114, 111, 112, 101, 114, 116, 121]⟩ : ByteArray), (⟨#[101, 100, 103, 101]⟩ : ByteArray), (⟨#[109, 97, 114, 107]⟩ : ByteArray), (⟨#[97, 116, 116, 114, 105, 98, 117, 116, 101]⟩ : ByteArray)]) ((w64 (a0.1 - 1)).toNat))) ++ (⟨#[32]⟩ : ByteArray)).size + a0.2.1.size ≤ i64max)) (bif (!strEq a0.2.2.1 (⟨#[]⟩ : ByteArray)) then (guardK (decide ((((((rd .str ([(⟨#[98, 111, 116, 104]⟩ : ByteArray), (⟨#[101, 110, 100]⟩ : ByteArray), (⟨#[115, 116, 114, 97, 121]⟩ : ByteArray)]) ((w64 (a0.2.2.2 - 1)).toNat)) ++ (⟨#[32]⟩ : ByteArray)) ++ (rd .str ([(⟨#[110, 111, 100, 101]⟩ : ByteArray), (⟨#[108, 97, 98, 101, 108]⟩ : ByteArray), (⟨#[112, 114, 111, 112, 101, 114, 116, 121]⟩ : ByteArray), (⟨#[101, 100, 103, 101]⟩ : ByteArray), (⟨#[109, 97, 114, 107]⟩ : ByteArray), (⟨#[97, 116, 116, 114, 105, 98, 117, 116, 101]⟩ : ByteArray)]) ((w64 (a0.1 - 1)).toNat))) ++ (⟨#[32]⟩ : ByteArray)) ++ a0.2.1).size + (⟨#[32]⟩ : ByteArray).size ≤ i64max)) (guardK (decide (((((((rd .str ([(⟨#[98, 111, 116, 104]⟩ : ByteArray), (⟨#[101, 110, 100]⟩ : ByteArray), (⟨#[115, 116, 114, 97, 121]⟩ : ByteArray)]) ((w64 (a0.2.2.2 - 1)).toNat)) ++ (⟨#[32]⟩ : ByteArray)) ++ (rd .str ([(⟨#[110, 111, 100, 101]⟩ : ByteArray), (⟨#[108, 97, 98, 101, 108]⟩ : ByteArray), (⟨#[112, 114, 111, 112, 101, 114, 116, 121]⟩ : ByteArray), (⟨#[101, 100, 103, 101]⟩ : ByteArray), (⟨#[109, 97, 114, 107]⟩ : ByteArray), (⟨#[97, 116, 116, 114, 105, 98, 117, 116, 101]⟩ : ByteArray)]) ((w64 (a0.1 - 1)).toNat))) ++ (⟨#[32]⟩ : ByteArray)) ++ a0.2.1) ++ (⟨#[32]⟩ : ByteArray)).size + a0.2.2.1.size ≤ i64max)) (c0 a0 (((((((rd .str ([(⟨#[98, 111, 116, 104]⟩ : ByteArray), (⟨#[101, 110, 100]⟩ : ByteArray), (⟨#[115, 116, 114, 97, 121]⟩ : ByteArray)]) ((w64 (a0.2.2.2 - 1)).toNat)) ++ (⟨#[32]⟩ : ByteArray)) ++ (rd .str ([(⟨#[110, 111, 100, 101]⟩ : ByteArray), (⟨#[108, 97, 98, 101, 108]⟩ : ByteArray), (⟨#[112, 114, 111, 112, 101, 114, 116, 121]⟩ : ByteArray), (⟨#[101, 100, 103, 101]⟩ : ByteArray), (⟨#[109, 97, 114, 107]⟩ : ByteArray), (⟨#[97, 116, 116, 114, 105, 98, 117, 116, 101]⟩ : ByteArray)]) ((w64 (a0.1 - 1)).toNat))) ++ (⟨#[32]⟩ : ByteArray)) ++ a0.2.1) ++ (⟨#[32]⟩ : ByteArray)) ++ a0.2.2.1)))) else (c0 a0 (((((rd .str ([(⟨#[98, 111, 116, 104]⟩ : ByteArray), (⟨#[101, 110, 100]⟩ : ByteArray), (⟨#[115, 116, 114, 97, 121]⟩ : ByteArray)]) ((w64 (a0.2.2.2 - 1)).toNat)) ++ (⟨#[32]⟩ : ByteArray)) ++ (rd .str ([(⟨#[110, 111, 100, 101]⟩ : ByteArray), (⟨#[108, 97, 98, 101, 108]⟩ : ByteArray), (⟨#[112, 114, 111, 112, 101, 114, 116, 121]⟩ : ByteArray), (⟨#[101, 100, 103, 101]⟩ : ByteArray), (⟨#[109, 97, 114, 107]⟩ : ByteArray), (⟨#[97, 116, 116, 114, 105, 98, 117, 116, 101]⟩ : ByteArray)]) ((w64 (a0.1 - 1)).toNat))) ++ (⟨#[32]⟩ : ByteArray)) ++ a0.2.1))))))))))
theorem F.pleachref28_Show.j11101.eq K a0 x0 : F.pleachref28_Show.j11101 K a0 x0 = F.pleachref28_Show.j11101.B (F.pleachref28_Show.j111111 K) a0 x0 := (F.pleachref28_Show.in_eq K [1, 1, 1, 0, 1] [] (F.pleachref28_Show.j11101.st a0 x0)).trans ((show ∀ H, F.pleachref28_Show.in K H [1, 1, 1, 0, 1] [] (F.pleachref28_Show.j11101.st a0 x0) = F.pleachref28_Show.j11101.B (fun a0 x0 => H [1, 1, 1, 1, 1, 1] [] (F.pleachref28_Show.j111111.st a0 x0)) a0 x0 from by intro H; kernel_rfl) (F.pleachref28_Show.at K))
noncomputable def F.pleachref28_Show.j111111.B (a0 : TConflict) (x0 : ByteArray) : Option (ByteArray) :=
    (some x0)
theorem F.pleachref28_Show.j111111.eq K a0 x0 : F.pleachref28_Show.j111111 K a0 x0 = F.pleachref28_Show.j111111.B a0 x0 := (F.pleachref28_Show.in_eq K [1, 1, 1, 1, 1, 1] [] (F.pleachref28_Show.j111111.st a0 x0)).trans ((show ∀ H, F.pleachref28_Show.in K H [1, 1, 1, 1, 1, 1] [] (F.pleachref28_Show.j111111.st a0 x0) = F.pleachref28_Show.j111111.B a0 x0 from by intro H; kernel_rfl) (F.pleachref28_Show.at K))
noncomputable def F.pleachref28_Show.B (c0 : (TConflict) → (Bool) → Option (ByteArray)) (a0 : TConflict) : Option (ByteArray) :=
    (bif (decide (a0.1 < 1)) then (c0 a0 true) else (bif (decide (a0.1 > 6)) then (c0 a0 true) else (bif (decide (a0.2.2.2 < 1)) then (c0 a0 true) else (c0 a0 (decide (a0.2.2.2 > 3))))))
theorem F.pleachref28_Show.eq K a0 : F.pleachref28_Show (K + 1) a0 = F.pleachref28_Show.B (F.pleachref28_Show.j11101 K) a0 := (F.pleachref28_Show.in_main K a0).trans ((show ∀ H, F.pleachref28_Show.in K H [] [] ⟨slots [.agg [.val (.int .i64 a0.1), .val (.string a0.2.1), .val (.string a0.2.2.1), .val (.int .i64 a0.2.2.2)]] 0, []⟩ = F.pleachref28_Show.B (fun a0 x0 => H [1, 1, 1, 0, 1] [] (F.pleachref28_Show.j11101.st a0 x0)) a0 from by intro H; kernel_rfl) (F.pleachref28_Show.at K))
noncomputable def V.pleachref28_Show.j11101 (a0 : TConflict) (x0 : Bool) := lim fun v => F.pleachref28_Show.j11101 (v 0) a0 x0
noncomputable def V.pleachref28_Show.j111111 (a0 : TConflict) (x0 : ByteArray) := lim fun v => F.pleachref28_Show.j111111 (v 0) a0 x0
noncomputable def V.pleachref28_Show (a0 : TConflict) := lim fun v => F.pleachref28_Show (v 0) a0
theorem V.pleachref28_Show.j11101.of a0 x0 {r} (h : F.pleachref28_Show.j11101.B V.pleachref28_Show.j111111 a0 x0 = some r) : V.pleachref28_Show.j11101 a0 x0 = some r :=
  App.to (App.same (fun v => F.pleachref28_Show.j11101.eq (v 0) a0 x0) (by unfold F.pleachref28_Show.j11101.B; repeat' first | apply App.guard | apply App.cond | exact App.lim | exact App.val | exact App.no | apply App.meet | apply App.ite | refine App.bind ?_ fun _ => ?_)) h
theorem V.pleachref28_Show.j111111.of a0 x0 {r} (h : F.pleachref28_Show.j111111.B a0 x0 = some r) : V.pleachref28_Show.j111111 a0 x0 = some r :=
  App.to (App.same (fun v => F.pleachref28_Show.j111111.eq (v 0) a0 x0) App.const) h
theorem V.pleachref28_Show.of a0 {r} (h : F.pleachref28_Show.B V.pleachref28_Show.j11101 a0 = some r) : V.pleachref28_Show a0 = some r :=
  App.to (App.step 0 (fun v => F.pleachref28_Show.eq (v 0) a0) (by unfold F.pleachref28_Show.B; repeat' first | apply App.guard | apply App.cond | exact App.lim | exact App.val | exact App.no | apply App.meet | apply App.ite | refine App.bind ?_ fun _ => ?_)) h
noncomputable def F.pleachlaw28_ThreeShows (K : Nat) (a0 : TConflict) (a1 : TConflict) : Option (Bool) := evFn Try.prog sg K 5 [.agg [.val (.int .i64 a0.1), .val (.string a0.2.1), .val (.string a0.2.2.1), .val (.int .i64 a0.2.2.2)], .agg [.val (.int .i64 a1.1), .val (.string a1.2.1), .val (.string a1.2.2.1), .val (.int .i64 a1.2.2.2)]] []
noncomputable def F.pleachlaw28_ThreeShows.B (c0 : Option (Bool)) (c1 : (TConflict) → (TConflict) → Option (Bool)) (c2 : (TConflict) → Option (ByteArray)) (c3 : (TConflict) → Option (ByteArray)) (c4 : (TConflict) → (TConflict) → Option (Int)) (a0 : TConflict) (a1 : TConflict) : Option (Bool) :=
    (bif (decide ((w64 ((a0.2.1.size : Int) + (a0.2.2.1.size : Int))) > 200)) then ((c0).bind fun t0 => (some t0)) else (bif (decide ((w64 ((a1.2.1.size : Int) + (a1.2.2.1.size : Int))) > 200)) then ((c0).bind fun t1 => (some t1)) else ((c1 (a0.1, a0.2.1, a0.2.2.1, a0.2.2.2) (a1.1, a1.2.1, a1.2.2.1, a1.2.2.2)).bind fun t2 => (bif t2 then ((c1 (a1.1, a1.2.1, a1.2.2.1, a1.2.2.2) (a0.1, a0.2.1, a0.2.2.1, a0.2.2.2)).bind fun t3 => (bif t3 then ((c2 (a0.1, a0.2.1, a0.2.2.1, a0.2.2.2)).bind fun t4 => ((c3 (a0.1, a0.2.1, a0.2.2.1, a0.2.2.2)).bind fun t5 => (bif (strEq t4 t5) then ((c4 (a0.1, a0.2.1, a0.2.2.1, a0.2.2.2) (a1.1, a1.2.1, a1.2.2.1, a1.2.2.2)).bind fun t6 => (bif (t6 == 1) then ((c0).bind fun t7 => (some t7)) else (some false))) else (some false)))) else ((c2 (a0.1, a0.2.1, a0.2.2.1, a0.2.2.2)).bind fun t8 => ((c3 (a0.1, a0.2.1, a0.2.2.1, a0.2.2.2)).bind fun t9 => (bif (strEq t8 t9) then ((c4 (a0.1, a0.2.1, a0.2.2.1, a0.2.2.2) (a1.1, a1.2.1, a1.2.2.1, a1.2.2.2)).bind fun t10 => (bif (t10 == (-1)) then ((c0).bind fun t11 => (some t11)) else (some false))) else (some false)))))) else ((c1 (a1.1, a1.2.1, a1.2.2.1, a1.2.2.2) (a0.1, a0.2.1, a0.2.2.1, a0.2.2.2)).bind fun t12 => (bif t12 then ((c2 (a0.1, a0.2.1, a0.2.2.1, a0.2.2.2)).bind fun t13 => ((c3 (a0.1, a0.2.1, a0.2.2.1, a0.2.2.2)).bind fun t14 => (bif (strEq t13 t14) then ((c4 (a0.1, a0.2.1, a0.2.2.1, a0.2.2.2) (a1.1, a1.2.1, a1.2.2.1, a1.2.2.2)).bind fun t15 => (bif (t15 == 1) then ((c0).bind fun t16 => (some t16)) else (some false))) else (some false)))) else ((c2 (a0.1, a0.2.1, a0.2.2.1, a0.2.2.2)).bind fun t17 => ((c3 (a0.1, a0.2.1, a0.2.2.1, a0.2.2.2)).bind fun t18 => (bif (strEq t17 t18) then ((c4 (a0.1, a0.2.1, a0.2.2.1, a0.2.2.2) (a1.1, a1.2.1, a1.2.2.1, a1.2.2.2)).bind fun t19 => (bif (t19 == 0) then ((c0).bind fun t20 => (some t20)) else (some false))) else (some false))))))))))
theorem F.pleachlaw28_ThreeShows.eq K a0 a1 : F.pleachlaw28_ThreeShows (K + 1) a0 a1 = F.pleachlaw28_ThreeShows.B (F.pleachlaw28_awake K) (F.pleachref28_Less K) (F.three_Show K) (F.pleachref28_Show K) (F.three_Compare K) a0 a1 := by kernel_rfl
noncomputable def V.pleachlaw28_ThreeShows (a0 : TConflict) (a1 : TConflict) := lim fun v => F.pleachlaw28_ThreeShows (v 0) a0 a1
theorem V.pleachlaw28_ThreeShows.of a0 a1 {r} (h : F.pleachlaw28_ThreeShows.B V.pleachlaw28_awake V.pleachref28_Less V.three_Show V.pleachref28_Show V.three_Compare a0 a1 = some r) : V.pleachlaw28_ThreeShows a0 a1 = some r :=
  App.to (App.step 0 (fun v => F.pleachlaw28_ThreeShows.eq (v 0) a0 a1) (by unfold F.pleachlaw28_ThreeShows.B; repeat' first | apply App.guard | apply App.cond | exact App.lim | exact App.val | exact App.no | apply App.meet | apply App.ite | refine App.bind ?_ fun _ => ?_)) h
end Go.Proofs.Ytmenplonaapliaa.AE
end
section
set_option linter.unusedVariables false
set_option linter.unusedSimpArgs false
namespace Go.Proofs.Ytmenplonaapliaa.AE
open Go

theorem w64_id {x : Int} (h0 : -9223372036854775808 ≤ x) (h1 : x ≤ 9223372036854775807) : w64 x = x := by
  show IntKind.i64.wrap x = x
  simp [IntKind.wrap, IntKind.bits, IntKind.signed]
  omega
theorem w64_up {i n : Nat} (h : i < n) (hn : n ≤ 140737488351232) : w64 ((i : Int) + 1) = ((i + 1 : Nat) : Int) := by rw [w64_id (by omega) (by omega)]; omega
theorem guard_of {α : Type} {g : Bool} {a : Option α} (h : g = true) : guardK g a = a := by rw [h]; rfl
/-- Inside a row. -/
theorem guard_in {α : Type} {i n : Nat} {a : Option α} (h : i < n) : guardK (decide (0 ≤ (i : Int)) && decide ((i : Int) < (n : Int))) a = a := guard_of (by simp [h])
theorem if_in {α : Type} {i n : Nat} {a b : α} (h : i < n) : (bif decide ((i : Int) < (n : Int)) then a else b) = a := by simp [h]
theorem if_out {α : Type} {i n : Nat} {a b : α} (h : n ≤ i) : (bif decide ((i : Int) < (n : Int)) then a else b) = b := by simp [Nat.not_lt.2 h]
theorem if_yes {α : Type} {p : Prop} [Decidable p] {a b : α} (h : p) : (bif decide p then a else b) = a := by simp [h]
theorem if_no {α : Type} {p : Prop} [Decidable p] {a b : α} (h : ¬ p) : (bif decide p then a else b) = b := by simp [h]
theorem nat_cast (i : Nat) : ((i : Nat) : Int).toNat = i := rfl
theorem bytes_ext {s t : ByteArray} (h : s.toList = t.toList) : s = t := by
  rw [ByteArray.toList_eq, ByteArray.toList_eq] at h
  have : s.data = t.data := by rwa [← Array.toList_inj]
  cases s; cases t; simp_all
theorem strEq_iff {s t : ByteArray} : strEq s t = true ↔ s = t := by
  unfold strEq
  rw [beq_iff_eq]
  exact ⟨bytes_ext, fun h => by rw [h]⟩
theorem strEq_self (s : ByteArray) : strEq s s = true := strEq_iff.2 rfl
theorem strEq_no {s t : ByteArray} (h : s ≠ t) : strEq s t = false := by
  cases hb : strEq s t with
  | false => rfl
  | true => exact absurd (strEq_iff.1 hb) h
theorem strEq_dec (s t : ByteArray) : strEq s t = decide (s = t) := by
  by_cases h : s = t
  · rw [h, strEq_self]; simp
  · rw [strEq_no h]; simp [h]
/-! ### The order of texts -/

theorem less_leq : ∀ x y : List UInt8, (Op.bytesLess x y || x == y) = !(Op.bytesLess y x)
  | [], [] => by simp [Op.bytesLess]
  | [], b :: y => by simp [Op.bytesLess]
  | a :: x, [] => by simp [Op.bytesLess]
  | a :: x, b :: y => by
    have ih := less_leq x y
    by_cases h1 : a < b
    · have h2 : ¬ b < a := by simp only [UInt8.lt_iff_toNat_lt] at *; omega
      have h3 : ¬ b = a := by rintro rfl; simp at h1
      simp [Op.bytesLess, h1, h2, h3]
    · by_cases h2 : b < a
      · have h3 : ¬ b = a := by rintro rfl; simp at h2
        have h4 : ¬ a = b := fun h => h3 h.symm
        simp [Op.bytesLess, h1, h2, h4]
      · have h3 : a = b := by
          apply UInt8.toNat_inj.1
          simp only [UInt8.lt_iff_toNat_lt] at *
          omega
        subst h3
        simp [Op.bytesLess, h1] at ih ⊢
        exact ih
theorem less_irr : ∀ x : List UInt8, Op.bytesLess x x = false
  | [] => rfl
  | a :: x => by
    have : ¬ a < a := by simp
    simp [Op.bytesLess, less_irr x, this]
theorem less_trans : ∀ x y z : List UInt8, Op.bytesLess x y = true → Op.bytesLess y z = true → Op.bytesLess x z = true
  | _, [], _, h, _ => by simp [Op.bytesLess] at h
  | _, _ :: _, [], _, h => by simp [Op.bytesLess] at h
  | [], b :: y, c :: z, _, _ => rfl
  | a :: x, b :: y, c :: z, h1, h2 => by
    simp only [Op.bytesLess, Bool.or_eq_true, Bool.and_eq_true, decide_eq_true_eq, beq_iff_eq] at h1 h2 ⊢
    rcases h1 with h1 | ⟨rfl, h1⟩
    · rcases h2 with h2 | ⟨rfl, h2⟩
      · left; simp only [UInt8.lt_iff_toNat_lt] at *; omega
      · exact .inl h1
    · rcases h2 with h2 | ⟨rfl, h2⟩
      · exact .inl h2
      · exact .inr ⟨rfl, less_trans x y z h1 h2⟩
/-- Of two texts one is less, or they are the same. -/
theorem lt_or (a b : ByteArray) : (strLt a b || strEq a b) = !strLt b a := less_leq a.toList b.toList
theorem lt_irr (a : ByteArray) : strLt a a = false := less_irr a.toList
theorem lt_trans {a b c : ByteArray} (h : strLt a b = true) (g : strLt b c = true) : strLt a c = true := less_trans _ _ _ h g
theorem lt_asymm {a b : ByteArray} (h : strLt a b = true) : strLt b a = false := by
  cases hb : strLt b a with
  | false => rfl
  | true => have := lt_trans h hb; rw [lt_irr] at this; cases this
theorem lt_total {a b : ByteArray} (h : strLt a b = false) (hn : a ≠ b) : strLt b a = true := by
  have := lt_or a b
  rw [h, strEq_no hn] at this
  cases hb : strLt b a with
  | true => rfl
  | false => rw [hb] at this; simp at this
theorem rd_get {e : Sh} {l : List (den e)} {i : Nat} (h : i < l.length) : rd e l i = l[i] := by
  simp [rd, List.getD_eq_getElem?_getD, List.getElem?_eq_getElem h]
theorem drop_rd {e : Sh} {l : List (den e)} {i : Nat} (h : i < l.length) : l.drop i = rd e l i :: l.drop (i + 1) := by rw [rd_get h]; exact List.drop_eq_getElem_cons h
/-- A loop that ends at the first place at which the step tells something; else what is told at the end. -/
def scanG {α : Type} (step : Nat → Option α) (fin : α) : Nat → Nat → α
  | 0, _ => fin
  | d + 1, i => match step i with
    | some r => r
    | none => scanG step fin d (i + 1)
abbrev scanI (step : Nat → Option Int) : Nat → Nat → Int := scanG step 0
theorem scanG_succ {α : Type} (step : Nat → Option α) (fin : α) (d i : Nat) : scanG step fin (d + 1) i = (step i).getD (scanG step fin d (i + 1)) := by
  show (match step i with | some r => r | none => scanG step fin d (i + 1)) = _
  cases step i <;> rfl
theorem scanI_succ (step : Nat → Option Int) (d i : Nat) : scanI step (d + 1) i = (step i).getD (scanI step d (i + 1)) := scanG_succ step 0 d i
end Go.Proofs.Ytmenplonaapliaa.AE
end
section
set_option linter.unusedVariables false
set_option linter.unusedSimpArgs false
namespace Go.Proofs.Ytmenplonaapliaa.AE
open Go

def okc (c : Int) : Bool := (decide (97 ≤ c) && decide (c ≤ 122)) || (decide (48 ≤ c) && decide (c ≤ 57)) || c == 45
/-- From place i on, d bytes, all fit. -/
def okFrom (s : ByteArray) : Nat → Nat → Bool
  | 0, _ => true
  | d + 1, i => okc (byteAt s i) && okFrom s d (i + 1)
def nameB (s : ByteArray) : Bool := decide (1 ≤ s.size) && decide (s.size ≤ 12) && okFrom s s.size 0

def valueB (v : TValue) : Bool := (v.1 == 1 && (v.2.1 == 0 || v.2.1 == 1) && v.2.2.size == 0) || (v.1 == 2 && v.2.2.size == 0) || (v.1 == 3 && v.2.1 == 0 && decide (v.2.2.size ≤ 64))
/-! ### Rows that rise -/

def propStep (l : List TProp) (i : Nat) : Option Int :=
  if (nameB (rd sProp l i).1 && valueB (rd sProp l i).2) = false then some 2
  else if 0 < i ∧ strLt (rd sProp l (i - 1)).1 (rd sProp l i).1 = false then some 4 else none
def textStep (l : List ByteArray) (i : Nat) : Option Int :=
  if nameB (rd .str l i) = false then some 2
  else if 0 < i ∧ strLt (rd .str l (i - 1)) (rd .str l i) = false then some 4 else none
def propsN (l : List TProp) : Int := if l.length > 8 then 5 else scanI (propStep l) l.length 0
def rowN (l : List ByteArray) : Int := scanI (textStep l) l.length 0
def restN (labels : List ByteArray) (props : List TProp) : Int := if labels.length > 8 then 5 else if rowN labels = 0 then propsN props else rowN labels

end Go.Proofs.Ytmenplonaapliaa.AE
end
section
set_option linter.unusedVariables false
set_option linter.unusedSimpArgs false
namespace Go.Proofs.Ytmenplonaapliaa.AE
open Go

theorem scanI_zero {step : Nat → Option Int} (hs : ∀ i r, step i = some r → r ≠ 0) : ∀ d i, scanI step d i = 0 → ∀ j, i ≤ j → j < i + d → step j = none
  | 0, i, _, j, h1, h2 => by omega
  | d + 1, i, h, j, h1, h2 => by
    rw [scanI_succ] at h
    cases hq : step i with
    | some r => rw [hq] at h; exact absurd h (hs i r hq)
    | none =>
      rw [hq] at h
      by_cases hij : j = i
      · rw [hij]; exact hq
      · exact scanI_zero hs d (i + 1) h j (by omega) (by omega)
theorem propStep_ne (l : List TProp) (i : Nat) (r : Int) (h : propStep l i = some r) : r ≠ 0 := by
  unfold propStep at h
  split at h
  · injection h with h; omega
  · split at h
    · injection h with h; omega
    · cases h
theorem textStep_ne (l : List ByteArray) (i : Nat) (r : Int) (h : textStep l i = some r) : r ≠ 0 := by
  unfold textStep at h
  split at h
  · injection h with h; omega
  · split at h
    · injection h with h; omega
    · cases h
theorem nameB_size {s : ByteArray} (h : nameB s = true) : 1 ≤ s.size ∧ s.size ≤ 12 := by
  unfold nameB at h
  simp at h
  exact ⟨h.1.1, h.1.2⟩
theorem textStep_none {l : List ByteArray} {i : Nat} (h : textStep l i = none) : nameB (rd .str l i) = true ∧ (0 < i → strLt (rd .str l (i - 1)) (rd .str l i) = true) := by
  unfold textStep at h
  split at h
  · cases h
  · rename_i h1
    split at h
    · cases h
    · rename_i h2
      refine ⟨by simpa using h1, fun h0 => ?_⟩
      cases hq : strLt (rd .str l (i - 1)) (rd .str l i) with
      | true => rfl
      | false => exact absurd ⟨h0, hq⟩ h2
theorem propStep_none {l : List TProp} {i : Nat} (h : propStep l i = none) : nameB (rd sProp l i).1 = true ∧ valueB (rd sProp l i).2 = true ∧ (0 < i → strLt (rd sProp l (i - 1)).1 (rd sProp l i).1 = true) := by
  unfold propStep at h
  split at h
  · cases h
  · rename_i h1
    split at h
    · cases h
    · rename_i h2
      have h3 : nameB (rd sProp l i).1 = true ∧ valueB (rd sProp l i).2 = true := by simpa using h1
      refine ⟨h3.1, h3.2, fun h0 => ?_⟩
      cases hq : strLt (rd sProp l (i - 1)).1 (rd sProp l i).1 with
      | true => rfl
      | false => exact absurd ⟨h0, hq⟩ h2
/-- What a row of names, of properties that may be is. -/
theorem rowN_zero {l : List ByteArray} (h : rowN l = 0) {i : Nat} (hi : i < l.length) : nameB (rd .str l i) = true ∧ (0 < i → strLt (rd .str l (i - 1)) (rd .str l i) = true) :=
  textStep_none (scanI_zero (textStep_ne l) l.length 0 h i (by omega) (by omega))
theorem propsN_len {l : List TProp} (h : propsN l = 0) : l.length ≤ 8 := by
  unfold propsN at h
  split at h
  · omega
  · omega
theorem propsN_zero {l : List TProp} (h : propsN l = 0) {i : Nat} (hi : i < l.length) : nameB (rd sProp l i).1 = true ∧ valueB (rd sProp l i).2 = true ∧ (0 < i → strLt (rd sProp l (i - 1)).1 (rd sProp l i).1 = true) := by
  have h8 := propsN_len h
  unfold propsN at h
  rw [if_neg (by omega)] at h
  exact propStep_none (scanI_zero (propStep_ne l) l.length 0 h i (by omega) (by omega))
theorem restN_zero {a : List ByteArray} {l : List TProp} (h : restN a l = 0) : a.length ≤ 8 ∧ rowN a = 0 ∧ propsN l = 0 := by
  unfold restN at h
  split at h
  · omega
  · split at h
    · rename_i h1 h2
      exact ⟨by omega, h2, h⟩
    · rename_i h1 h2
      exact absurd h h2

/-- Labels and properties are as few and short as they may be. -/
structure Short (a : List ByteArray) (l : List TProp) : Prop where
  na : a.length ≤ 8
  nl : l.length ≤ 8
  ta : ∀ i, i < a.length → (rd .str a i).size ≤ 12
  tl : ∀ i, i < l.length → (rd sProp l i).1.size ≤ 12
theorem Short.of {a : List ByteArray} {l : List TProp} (h : restN a l = 0) : Short a l := by
  obtain ⟨h1, h2, h3⟩ := restN_zero h
  exact ⟨h1, propsN_len h3, fun i hi => (nameB_size (rowN_zero h2 hi).1).2, fun i hi => (nameB_size (propsN_zero h3 hi).1).2⟩
end Go.Proofs.Ytmenplonaapliaa.AE
end
section
set_option linter.unusedVariables false
set_option linter.unusedSimpArgs false
set_option maxRecDepth 20000
namespace Go.Proofs.Ytmenplonaapliaa.AE
open Go

def lessF (a b : TFact) : Bool := bif a.1 != b.1 then decide (a.1 < b.1) else bif !strEq a.2.1 b.2.1 then strLt a.2.1 b.2.1 else strLt a.2.2.1 b.2.2.1
theorem Less_ok (a b : TFact) : V.pleachref27_Less a b = some (lessF a b) := by
  refine V.pleachref27_Less.of a b ?_
  unfold F.pleachref27_Less.B lessF
  cases a.1 != b.1 <;> cases strEq a.2.1 b.2.1 <;> rfl

theorem CompareString_ok (a b : ByteArray) : V.bytealg_CompareString a b = some (cmpS a b) := V.bytealg_CompareString.of a b rfl
theorem stringsCompare_ok (a b : ByteArray) : V.strings_Compare a b = some (cmpS a b) := by
  refine V.strings_Compare.of a b ?_
  unfold F.strings_Compare.B
  rw [CompareString_ok, Option.bind_some]
def cmpI (a b : Int) : Int := if a < b then -1 else if b < a then 1 else 0
theorem cmpCompareInt_ok (a b : Int) : V.cmp_Compare_int a b = some (cmpI a b) := by
  have nan : ∀ x : Int, V.cmp_isNaN_int x = some false := fun x => V.cmp_isNaN_int.of x (by unfold F.cmp_isNaN_int.B; simp)
  refine V.cmp_Compare_int.of a b ?_
  unfold F.cmp_Compare_int.B cmpI
  rw [nan, nan, Option.bind_some, Option.bind_some]
  by_cases h : a < b
  · simp [h]
  · by_cases g : b < a <;> simp [h, g]
theorem cmpS_self (a : ByteArray) : cmpS a a = 0 := by simp [cmpS, lt_irr]
theorem cmpS_lt {a b : ByteArray} (h : strLt a b = true) : cmpS a b = -1 := by simp [cmpS, h]
theorem cmpS_gt {a b : ByteArray} (h : strLt b a = true) : cmpS a b = 1 := by simp [cmpS, h, lt_asymm h]
theorem cmpS_ne {a b : ByteArray} (h : a ≠ b) : (strLt a b = true ∧ cmpS a b = -1) ∨ (strLt b a = true ∧ strLt a b = false ∧ cmpS a b = 1) := by
  cases hl : strLt a b with
  | true => exact .inl ⟨rfl, cmpS_lt hl⟩
  | false => have := lt_total hl h; exact .inr ⟨this, rfl, cmpS_gt this⟩

end Go.Proofs.Ytmenplonaapliaa.AE
end
section
set_option linter.unusedVariables false
set_option linter.unusedSimpArgs false
set_option maxRecDepth 20000
namespace Go.Proofs.Ytmenplonaapliaa.AE
open Go

end Go.Proofs.Ytmenplonaapliaa.AE
end
section
set_option linter.unusedVariables false
set_option linter.unusedSimpArgs false
set_option maxRecDepth 20000
namespace Go.Proofs.Ytmenplonaapliaa.AE
open Go

theorem lessF_asymm {a b : TFact} (h : lessF a b = true) : lessF b a = false := by
  unfold lessF at h ⊢
  by_cases h1 : a.1 = b.1
  · have h1' : b.1 = a.1 := h1.symm
    rw [h1] at h ⊢
    simp only [bne_self_eq_false, cond_false] at h ⊢
    by_cases h2 : a.2.1 = b.2.1
    · rw [h2] at h ⊢
      simp only [strEq_self, Bool.not_true, cond_false] at h ⊢
      exact lt_asymm h
    · have h2' : b.2.1 ≠ a.2.1 := fun e => h2 e.symm
      simp only [strEq_no h2, strEq_no h2', Bool.not_false, cond_true] at h ⊢
      exact lt_asymm h
  · have h1' : b.1 ≠ a.1 := fun e => h1 e.symm
    have e1 : (a.1 != b.1) = true := by simpa using h1
    have e2 : (b.1 != a.1) = true := by simpa using h1'
    rw [e1] at h
    rw [e2]
    simp only [cond_true, decide_eq_true_eq, decide_eq_false_iff_not] at h ⊢
    omega

def keyF (a : TFact) : Int × ByteArray × ByteArray := (a.1, a.2.1, a.2.2.1)
/-- A row that rises. -/
def Rs : List TFact → Prop := List.Pairwise fun a b => lessF a b = true

def strip (f : TFact) : TFact := (f.1, f.2.1, f.2.2.1, (⟨#[]⟩ : ByteArray))
/-- What two rows have. -/
def both : List TFact → List TFact → List TFact
  | [], b => b.map strip
  | x :: a, [] => strip x :: both a []
  | x :: a, y :: b => if lessF y x then strip y :: both (x :: a) b else if lessF x y then strip x :: both a (y :: b) else strip x :: both a b
termination_by a b => a.length + b.length

theorem Rs.tail {x : TFact} {l : List TFact} (h : Rs (x :: l)) : Rs l := List.Pairwise.of_cons h

end Go.Proofs.Ytmenplonaapliaa.AE
end
section
set_option linter.unusedVariables false
set_option linter.unusedSimpArgs false
set_option maxRecDepth 20000
namespace Go.Proofs.Ytmenplonaapliaa.AE
open Go

end Go.Proofs.Ytmenplonaapliaa.AE
end
section
set_option linter.unusedVariables false
set_option linter.unusedSimpArgs false
set_option maxRecDepth 20000
namespace Go.Proofs.Ytmenplonaapliaa.AE
open Go

end Go.Proofs.Ytmenplonaapliaa.AE
end
section
set_option linter.unusedVariables false
set_option linter.unusedSimpArgs false
set_option maxRecDepth 20000
namespace Go.Proofs.Ytmenplonaapliaa.AE
open Go

section
variable {a b : List TFact}

end
end Go.Proofs.Ytmenplonaapliaa.AE
end
section
set_option linter.unusedVariables false
set_option linter.unusedSimpArgs false
namespace Go.Proofs.Ytmenplonaapliaa.AE
open Go

def orL : List Int → Int
  | [] => 0
  | x :: r => if x ≠ 0 then x else orL r
theorem orL_l (l : List Int) (hs : l.length ≤ 1000) : ∀ d i : Nat, i + d = l.length → V.cmp_Or_int.l11010 l (i : Int) = some (orL (l.drop i))
  | 0, i, h => by
    refine V.cmp_Or_int.l11010.of _ _ ?_
    unfold F.cmp_Or_int.l11010.B
    rw [if_out (by omega), List.drop_eq_nil_of_le (by omega)]; rfl
  | d + 1, i, h => by
    have hi : i < l.length := by omega
    refine V.cmp_Or_int.l11010.of _ _ ?_
    unfold F.cmp_Or_int.l11010.B
    rw [if_in hi, guard_in hi, w64_up hi (by omega), nat_cast, orL_l l hs d (i + 1) (by omega), drop_rd (e := .int .i64) hi]
    obtain ⟨x, hx⟩ : ∃ x : Int, x = rd (.int .i64) l i := ⟨_, rfl⟩
    rw [← hx]
    show (bif ((x : Int) != 0) then some x else some (orL (l.drop (i + 1)))) = some (if x ≠ 0 then x else orL (l.drop (i + 1)))
    by_cases g : x = 0
    · simp [g]
    · rw [show (x != 0) = true from bne_iff_ne.2 g, cond_true, if_pos g]
theorem orL_ok (l : List Int) (hs : l.length ≤ 1000) : V.cmp_Or_int l = some (orL l) := by
  refine V.cmp_Or_int.of _ ?_
  unfold F.cmp_Or_int.B
  exact orL_l l hs l.length 0 (by omega)
def factC (c : TConflict) : TFact := (c.1, c.2.1, c.2.2.1, (⟨#[]⟩ : ByteArray))
def lessC (a b : TConflict) : Bool := if keyF (factC a) = keyF (factC b) then decide (a.2.2.2 < b.2.2.2) else lessF (factC a) (factC b)
def cmpC (a b : TConflict) : Int := if lessC a b then -1 else if lessC b a then 1 else 0
theorem lessC_asymm {a b : TConflict} (h : lessC a b = true) : lessC b a = false := by
  unfold lessC at h ⊢
  by_cases g : keyF (factC a) = keyF (factC b)
  · rw [if_pos g] at h; rw [if_pos g.symm]
    simp at h ⊢; omega
  · rw [if_neg g] at h; rw [if_neg (fun e => g e.symm)]
    exact lessF_asymm h
theorem rLess_ok (a b : TConflict) : V.pleachref28_Less a b = some (lessC a b) := by
  refine V.pleachref28_Less.of a b ?_
  unfold F.pleachref28_Less.B lessC
  rw [show V.pleachref27_Less (a.1, a.2.1, a.2.2.1, (⟨#[]⟩ : ByteArray)) (b.1, b.2.1, b.2.2.1, (⟨#[]⟩ : ByteArray)) = some (lessF (factC a) (factC b)) from Less_ok _ _, Option.bind_some]
  have e : (a.1 == b.1 && (strEq a.2.1 b.2.1 && (strEq a.2.2.1 b.2.2.1 && (strEq (⟨#[]⟩ : ByteArray) (⟨#[]⟩ : ByteArray) && true)))) = decide (keyF (factC a) = keyF (factC b)) := by
    rw [Bool.eq_iff_iff]
    simp [strEq_dec, keyF, factC]
  rw [e]
  by_cases g : keyF (factC a) = keyF (factC b)
  · rw [if_yes g, if_pos g]
  · rw [if_no g, if_neg g]
theorem CompareC_ok (a b : TConflict) : V.three_Compare a b = some (cmpC a b) := by
  refine V.three_Compare.of a b ?_
  unfold F.three_Compare.B
  rw [cmpCompareInt_ok, Option.bind_some, stringsCompare_ok, Option.bind_some, stringsCompare_ok, Option.bind_some, cmpCompareInt_ok, Option.bind_some, orL_ok _ (by simp), Option.bind_some]
  refine congrArg some ?_
  unfold cmpC lessC factC keyF lessF cmpI
  simp only [orL, Prod.mk.injEq]
  by_cases h1 : a.1 = b.1
  · rw [h1]
    by_cases h2 : a.2.1 = b.2.1
    · rw [h2, cmpS_self]
      by_cases h3 : a.2.2.1 = b.2.2.1
      · rw [h3, cmpS_self]
        by_cases h4 : a.2.2.2 < b.2.2.2
        · simp [h4]
        · by_cases h5 : b.2.2.2 < a.2.2.2 <;> simp [h4, h5]
      · have h3' : b.2.2.1 ≠ a.2.2.1 := fun e => h3 e.symm
        rcases cmpS_ne h3 with ⟨g1, g2⟩ | ⟨g1, g2, g3⟩
        · simp [strEq_self, g1, g2, h3]
        · simp [strEq_self, g1, g2, g3, h3, h3']
    · have h2' : b.2.1 ≠ a.2.1 := fun e => h2 e.symm
      rcases cmpS_ne h2 with ⟨g1, g2⟩ | ⟨g1, g2, g3⟩
      · simp [strEq_no h2, strEq_no h2', g1, g2, h2]
      · simp [strEq_no h2, strEq_no h2', g1, g2, g3, h2, h2']
  · have h1' : ¬ b.1 = a.1 := fun e => h1 e.symm
    by_cases h4 : a.1 < b.1
    · simp [h1, h4]
    · have h5 : b.1 < a.1 := by omega
      simp [h1, h1', h4, h5]

/-! ### How a conflict is shown -/
def kindsT : List ByteArray := [(⟨#[110, 111, 100, 101]⟩ : ByteArray), (⟨#[108, 97, 98, 101, 108]⟩ : ByteArray), (⟨#[112, 114, 111, 112, 101, 114, 116, 121]⟩ : ByteArray), (⟨#[101, 100, 103, 101]⟩ : ByteArray), (⟨#[109, 97, 114, 107]⟩ : ByteArray), (⟨#[97, 116, 116, 114, 105, 98, 117, 116, 101]⟩ : ByteArray)]
def whyT : List ByteArray := [(⟨#[98, 111, 116, 104]⟩ : ByteArray), (⟨#[101, 110, 100]⟩ : ByteArray), (⟨#[115, 116, 114, 97, 121]⟩ : ByteArray)]
abbrev blank : ByteArray := ⟨#[32]⟩
def showC (c : TConflict) : ByteArray :=
  if 1 ≤ c.1 ∧ c.1 ≤ 6 ∧ 1 ≤ c.2.2.2 ∧ c.2.2.2 ≤ 3 then
    (if c.2.2.1 = (⟨#[]⟩ : ByteArray) then (((rd .str whyT (c.2.2.2.toNat - 1) ++ blank) ++ rd .str kindsT (c.1.toNat - 1)) ++ blank) ++ c.2.1
      else ((((((rd .str whyT (c.2.2.2.toNat - 1) ++ blank) ++ rd .str kindsT (c.1.toNat - 1)) ++ blank) ++ c.2.1) ++ blank) ++ c.2.2.1))
  else ⟨#[]⟩
theorem small_g {a b : Nat} (h : a + b ≤ 1000000000000000000) {α : Type} {x : Option α} : guardK (decide (a + b ≤ i64max)) x = x := guard_of (decide_eq_true (by unfold i64max; omega))
theorem whyT_size (n : Nat) : (rd .str whyT n).size ≤ 5 := by
  by_cases h : n < 3
  · have : ∀ k : Fin 3, (rd .str whyT (k : Nat)).size ≤ 5 := by decide
    exact this ⟨n, h⟩
  · show (whyT.getD n _).size ≤ 5
    rw [List.getD_eq_getElem?_getD, List.getElem?_eq_none (show whyT.length ≤ n by show 3 ≤ n; omega)]; decide
theorem kindsT_size (n : Nat) : (rd .str kindsT n).size ≤ 9 := by
  by_cases h : n < 6
  · have : ∀ k : Fin 6, (rd .str kindsT (k : Nat)).size ≤ 9 := by decide
    exact this ⟨n, h⟩
  · show (kindsT.getD n _).size ≤ 9
    rw [List.getD_eq_getElem?_getD, List.getElem?_eq_none (show kindsT.length ≤ n by show 6 ≤ n; omega)]; decide
theorem nat_dn {k : Int} (h0 : 1 ≤ k) (h1 : k ≤ 1000) : w64 (k - 1) = ((k.toNat - 1 : Nat) : Int) := by rw [w64_id (by omega) (by omega)]; omega
theorem ShowC_ok (c : TConflict) (hi : c.2.1.size ≤ 140737488351232) (hk : c.2.2.1.size ≤ 140737488351232) : V.three_Show c = some (showC c) := by
  have s1 : blank.size = 1 := rfl
  apply V.three_Show.of; unfold F.three_Show.B
  have bad : V.three_Show.j11101 c true = some (⟨#[]⟩ : ByteArray) := V.three_Show.j11101.of _ _ rfl
  have fin : ∀ x, V.three_Show.j111111 c x = some x := fun x => V.three_Show.j111111.of _ _ rfl
  by_cases h1 : c.1 < 1
  · rw [if_yes h1, bad]; unfold showC; rw [if_neg (by omega)]
  · rw [if_no h1]
    by_cases h2 : c.1 ≥ 7
    · rw [if_yes (by exact h2), bad]; unfold showC; rw [if_neg (by omega)]
    · rw [if_no (by exact h2)]
      by_cases h3 : c.2.2.2 < 1
      · rw [if_yes h3, bad]; unfold showC; rw [if_neg (by omega)]
      · rw [if_no h3]
        by_cases h4 : c.2.2.2 ≥ 4
        · rw [decide_eq_true (by exact h4), bad]; unfold showC; rw [if_neg (by omega)]
        · rw [decide_eq_false (by exact h4)]
          apply V.three_Show.j11101.of; unfold F.three_Show.j11101.B
          have e1 : ∀ (l : List ByteArray) (n : Nat) (z : ByteArray), 1 ≤ n → rd .str (z :: l) n = rd .str l (n - 1) := fun l n z h => by
            cases n with
            | zero => omega
            | succ n => rfl
          have w1 := whyT_size (c.2.2.2.toNat - 1)
          have w2 := kindsT_size (c.1.toNat - 1)
          have q1 : rd .str ([(⟨#[]⟩ : ByteArray), (⟨#[98, 111, 116, 104]⟩ : ByteArray), (⟨#[101, 110, 100]⟩ : ByteArray), (⟨#[115, 116, 114, 97, 121]⟩ : ByteArray)]) c.2.2.2.toNat = rd .str whyT (c.2.2.2.toNat - 1) := e1 whyT _ _ (by omega)
          have q2 : rd .str ([(⟨#[]⟩ : ByteArray), (⟨#[110, 111, 100, 101]⟩ : ByteArray), (⟨#[108, 97, 98, 101, 108]⟩ : ByteArray), (⟨#[112, 114, 111, 112, 101, 114, 116, 121]⟩ : ByteArray), (⟨#[101, 100, 103, 101]⟩ : ByteArray), (⟨#[109, 97, 114, 107]⟩ : ByteArray), (⟨#[97, 116, 116, 114, 105, 98, 117, 116, 101]⟩ : ByteArray)]) c.1.toNat = rd .str kindsT (c.1.toNat - 1) := e1 kindsT _ _ (by omega)
          rw [cond_false, guard_of (by simp; omega), q1, q2, small_g (by show _ + 1 ≤ _; omega), guard_of (by simp; omega)]
          rw [small_g (by rw [ByteArray.size_append]; show _ + 1 + _ ≤ _; omega), small_g (by simp only [ByteArray.size_append]; show _ + 1 + _ + 1 ≤ _; omega), small_g (by simp only [ByteArray.size_append]; show _ + 1 + _ + 1 + _ ≤ _; omega)]
          unfold showC
          rw [if_pos (by omega), strEq_dec]
          by_cases g : c.2.2.1 = (⟨#[]⟩ : ByteArray)
          · rw [if_pos g, decide_eq_true g, Bool.not_true, cond_false, fin]
          · rw [if_neg g, decide_eq_false g, Bool.not_false, cond_true, small_g (by show 1 + _ ≤ _; omega), small_g (by simp only [ByteArray.size_append]; show _ + 1 + _ + 1 + _ + (1 + _) ≤ _; omega), fin, ← ByteArray.append_assoc]
theorem rShowC_ok (c : TConflict) (hi : c.2.1.size ≤ 140737488351232) (hk : c.2.2.1.size ≤ 140737488351232) : V.pleachref28_Show c = some (showC c) := by
  apply V.pleachref28_Show.of; unfold F.pleachref28_Show.B
  have bad : V.pleachref28_Show.j11101 c true = some (⟨#[]⟩ : ByteArray) := V.pleachref28_Show.j11101.of _ _ rfl
  have fin : ∀ x, V.pleachref28_Show.j111111 c x = some x := fun x => V.pleachref28_Show.j111111.of _ _ rfl
  by_cases h1 : c.1 < 1
  · rw [if_yes h1, bad]; unfold showC; rw [if_neg (by omega)]
  · rw [if_no h1]
    by_cases h2 : c.1 > 6
    · rw [if_yes h2, bad]; unfold showC; rw [if_neg (by omega)]
    · rw [if_no h2]
      by_cases h3 : c.2.2.2 < 1
      · rw [if_yes h3, bad]; unfold showC; rw [if_neg (by omega)]
      · rw [if_no h3]
        by_cases h4 : c.2.2.2 > 3
        · rw [decide_eq_true h4, bad]; unfold showC; rw [if_neg (by omega)]
        · rw [decide_eq_false h4]
          apply V.pleachref28_Show.j11101.of; unfold F.pleachref28_Show.j11101.B
          have w1 := whyT_size (c.2.2.2.toNat - 1)
          have w2 := kindsT_size (c.1.toNat - 1)
          rw [cond_false, nat_dn (show 1 ≤ c.2.2.2 by omega) (by omega), nat_dn (show 1 ≤ c.1 by omega) (by omega), nat_cast, nat_cast]
          rw [guard_of (show (decide (0 ≤ ((c.2.2.2.toNat - 1 : Nat) : Int)) && _) = true by simp; omega), guard_of (show (decide (0 ≤ ((c.1.toNat - 1 : Nat) : Int)) && _) = true by simp; omega)]
          rw [show [(⟨#[98, 111, 116, 104]⟩ : ByteArray), (⟨#[101, 110, 100]⟩ : ByteArray), (⟨#[115, 116, 114, 97, 121]⟩ : ByteArray)] = whyT from rfl, show [(⟨#[110, 111, 100, 101]⟩ : ByteArray), (⟨#[108, 97, 98, 101, 108]⟩ : ByteArray), (⟨#[112, 114, 111, 112, 101, 114, 116, 121]⟩ : ByteArray), (⟨#[101, 100, 103, 101]⟩ : ByteArray), (⟨#[109, 97, 114, 107]⟩ : ByteArray), (⟨#[97, 116, 116, 114, 105, 98, 117, 116, 101]⟩ : ByteArray)] = kindsT from rfl]
          rw [small_g (by show _ + 1 ≤ _; omega)]
          rw [small_g (by rw [ByteArray.size_append]; show _ + 1 + _ ≤ _; omega), small_g (by simp only [ByteArray.size_append]; show _ + 1 + _ + 1 ≤ _; omega), small_g (by simp only [ByteArray.size_append]; show _ + 1 + _ + 1 + _ ≤ _; omega)]
          unfold showC
          rw [if_pos (by omega), strEq_dec]
          by_cases g : c.2.2.1 = (⟨#[]⟩ : ByteArray)
          · rw [if_pos g, decide_eq_true g, Bool.not_true, cond_false, fin]
          · rw [if_neg g, decide_eq_false g, Bool.not_false, cond_true, small_g (by simp only [ByteArray.size_append]; show _ + 1 + _ + 1 + _ + 1 ≤ _; omega), small_g (by simp only [ByteArray.size_append]; show _ + 1 + _ + 1 + _ + 1 + _ ≤ _; omega), fin]
end Go.Proofs.Ytmenplonaapliaa.AE
end
section
set_option linter.unusedVariables false
namespace Go.Proofs.Ytmenplonaapliaa.AE
open Go
theorem lim_ev {α : Type} {a : Nat → Option α} {r : α} (N : Nat) (h : ∀ K, a (K + N) = some r) : AE.lim (fun v => a (v 0)) = some r :=
  lim_some.2 ⟨N, fun v hv => by
    have := hv 0
    obtain ⟨k, hk⟩ : ∃ k, v 0 = k + N := ⟨v 0 - N, by omega⟩
    show a (v 0) = some r
    rw [hk]; exact h k⟩
end Go.Proofs.Ytmenplonaapliaa.AE
end
section
set_option linter.unusedVariables false
namespace Go.Proofs.Ytmenplonaapliaa.AE
open Go
theorem awake28 : V.pleachlaw28_awake = some true := lim_ev 300 fun K => by kernel_rfl
end Go.Proofs.Ytmenplonaapliaa.AE
end
section
set_option linter.unusedVariables false
set_option linter.unusedSimpArgs false
namespace Go.Proofs.Ytmenplonaapliaa.AE
open Go
theorem ThreeShows_pure (a b : TConflict) (ha : Gd sConflict a) (hb : Gd sConflict b) : V.pleachlaw28_ThreeShows a b = some true := by
  apply V.pleachlaw28_ThreeShows.of; unfold F.pleachlaw28_ThreeShows.B
  rw [awake28, rLess_ok, rLess_ok, CompareC_ok, ShowC_ok _ ha.2.1 ha.2.2.1, rShowC_ok _ ha.2.1 ha.2.2.1]
  simp only [Option.bind_some, strEq_self, cond_true]
  have e1 : (a.1, a.2.1, a.2.2.1, a.2.2.2) = a := rfl
  have e2 : (b.1, b.2.1, b.2.2.1, b.2.2.2) = b := rfl
  rw [e1, e2]
  unfold cmpC
  cases h1 : lessC a b with
  | true => rw [lessC_asymm h1]; simp [Bool.cond_eq_ite]
  | false => cases h2 : lessC b a <;> simp [Bool.cond_eq_ite]
end Go.Proofs.Ytmenplonaapliaa.AE
end
section
namespace Go.Proofs.Ytmenplonaapliaa.AE
open Go Go.ChangeShapes Go.WideShapes Go.ChangeAt Go.RowKit Go.Lib
variable {W₀ : World}
theorem weights_each {H : Type} {P : Program} {p : Nat → Bool} {ts : List TypeId} {ds : List (DataW H)} (h : (DataW.weightsEach P ts ds).all p = true) {j : Nat} {t : TypeId} {d : DataW H} (ht : ts[j]? = some t) (hd : ds[j]? = some d) : ∀ n ∈ d.weights P t, p n = true :=
  fun n hn => List.all_eq_true.1 h _ (DataW.weights_mem_each ht hd n hn)
theorem own : ownKnob Try.prog.godebug = none := by kernel_rfl
theorem laidOut : laidOutB Try.prog = true := by kernel_rfl
theorem mix : Try.prog.follows .mixedOrders = true := by kernel_rfl
theorem numGoB : (Try.prog.funcs.all fun fn => !(fn.name == "runtime.NumGoroutine")) = true := by kernel_rfl
theorem num (f : FuncId) (fn : Func) (h : Try.prog.funcs[f]? = some fn) : (fn.name == "runtime.NumGoroutine") = false := by
  have := Array.all_eq_true_iff_forall_mem.1 numGoB fn (Array.mem_of_getElem? h)
  simpa using this

theorem handed_shaped {H : Type} {enc : TypeId × Value → H} {a : Assume} {C : Checked} {os : Os} {f : FuncId} {fn : Func} {s : ChangeSpec} {conds : List PathCond} {apart fresh handsOn again : Bool} {X : World → Array Value → Prop}
    (hX : ∀ (w w' : World) (args : Array Value), w.heap = w'.heap → X w args → X w' args)
    (own : ownKnob C.prog.godebug = none) (started : os.Started) (noInit : C.prog.inits.idxOf? f = none) (hfn : C.prog.funcs[f]? = some fn)
    (witness : ∃ (w : World) (tape : Tape) (i : Input), w.os = os ∧ (w.forCall tape i).Shaped C.prog ∧ i.vars = [] ∧ Input.okWide C.prog (w.forCall tape i) .any w.heap.size f i ∧
      ((s.pre enc C.prog fn conds apart (w.forCall tape i).memory i.args ∧ X (w.forCall tape i).memory i.args) ∧ sizedMet enc C.prog fn (OpenSpec.ofChange s) apart (w.forCall tape i).memory i.args) ∧ a.holds C.prog (lone (Frame.enter C.prog f i.args .normal) [] (w.forCall tape i)))
    (contract : ∀ (W : World) (base : Nat) (args : Array Value) (ds gs : List (DataW H)) (before : List MemPlace),
      (∀ (j : Nat) t v, fn.params[j]? = some t → args[j]? = some v → Value.okWide C.prog W .any base t v) →
      DataW.Whole enc C.prog fn.params.toList s.vars apart W args.toList ds gs before →
      conds.all (PathCond.test C.prog ⟨fn.params.toList, ds, s.plain.varTypes C.prog, gs⟩) = true →
      (DataW.weightsEach C.prog (fn.params.toList ++ s.plain.varTypes C.prog) (ds ++ gs)).all (· ≤ reachBytes) = true → X W args ∧ W.ShapedOpen C.prog →
      a.holds C.prog (lone (Frame.enter C.prog f args .normal) [] W) →
      Calls C.prog f args W fun e W' => ∃ v, e = .returned v ∧ s.post enc C.prog fn apart fresh handsOn again W args v W') :
    ReturnsInHanded a C os f .any (fun w args => (s.pre enc C.prog fn conds apart w args ∧ X w args) ∧ sizedMet enc C.prog fn (OpenSpec.ofChange s) apart w args) (s.post enc C.prog fn apart fresh handsOn again) := by
  refine returnsInHanded_of_calls own started noInit witness ?_
  intro w tape i _ hsh _ hok hpre hholds
  obtain ⟨_, _, _, fn', hfn', _, _, _, _, hval⟩ := hok
  have e : fn' = fn := Option.some.inj (hfn'.symm.trans hfn)
  subst e
  obtain ⟨⟨⟨ds, gs, before, hw, hc⟩, hx⟩, hz⟩ := hpre
  have hw' := DataW.Whole.of_heap (w' := w.forCall tape i) (by rfl) hw
  refine (contract (w.forCall tape i) w.heap.size i.args ds gs before hval hw' hc (hz.weights hw) ⟨hX _ _ _ (by rfl) hx, hsh⟩ hholds).mono fun e W' ⟨v, he, hp⟩ => ?_
  subst he
  exact ChangeSpec.post_blind hp
theorem extok : ExtOk W₀ Try.prog sg := .of (show extAll W₀ Try.prog sgT from
  ⟨.nothing rfl rfl,
  ⟨.nothing rfl rfl,
  ⟨.nothing rfl rfl,
  ⟨.nothing rfl rfl,
  ⟨.nothing rfl rfl,
  ⟨.nothing rfl rfl,
  ⟨.nothing rfl rfl,
  ⟨.nothing rfl rfl,
  ⟨.nothing rfl rfl,
  ⟨.nothing rfl rfl,
  ⟨.nothing rfl rfl,
  ⟨.nothing rfl rfl,
  ⟨.nothing rfl rfl,
  ⟨.nothing rfl rfl,
  ⟨.nothing rfl rfl,
  ⟨.nothing rfl rfl,
  ⟨.nothing rfl rfl,
  ⟨.nothing rfl rfl,
  ⟨.nothing rfl rfl,
  ⟨.nothing rfl rfl,
  ⟨.nothing rfl rfl,
  ⟨.nothing rfl rfl,
  ⟨.nothing rfl rfl,
  ⟨.nothing rfl rfl,
  ⟨.nothing rfl rfl,
  ⟨.nothing rfl rfl,
  ⟨.nothing rfl rfl,
  ⟨.nothing rfl rfl,
  ⟨.nothing rfl rfl,
  ⟨.nothing rfl rfl,
  ⟨.nothing rfl rfl,
  ⟨.nothing rfl rfl,
  ⟨.nothing rfl rfl,
  ⟨.nothing rfl rfl,
  ⟨.nothing rfl rfl,
  ⟨.nothing rfl rfl,
  ⟨.nothing rfl rfl,
  ⟨.nothing rfl rfl,
  ⟨.nothing rfl rfl,
  ⟨.nothing rfl rfl,
  ⟨.nothing rfl rfl,
  ⟨.nothing rfl rfl,
  ⟨.nothing rfl rfl,
  ⟨.nothing rfl rfl,
  ⟨.nothing rfl rfl,
  ⟨.nothing rfl rfl,
  ⟨.nothing rfl rfl,
  ⟨.nothing rfl rfl,
  ⟨.nothing rfl rfl,
  ⟨.nothing rfl rfl,
  ⟨.nothing rfl rfl,
  ⟨.nothing rfl rfl,
  ⟨.nothing rfl rfl,
  ⟨.nothing rfl rfl,
  ⟨.nothing rfl rfl,
  ⟨.nothing rfl rfl,
  ⟨.nothing rfl rfl,
  ⟨.nothing rfl rfl,
  ⟨.nothing rfl rfl,
  ⟨.nothing rfl rfl,
  ⟨.nothing rfl rfl,
  ⟨.nothing rfl rfl,
  ⟨.nothing rfl rfl,
  ⟨.nothing rfl rfl,
  ⟨.ofOp rfl rfl (opCompare_ok Try.func89 (by kernel_rfl) (by kernel_rfl) (by kernel_rfl) (by kernel_rfl)),
  ⟨.nothing rfl rfl,
  ⟨.nothing rfl rfl,
  ⟨.nothing rfl rfl,
  ⟨.nothing rfl rfl,
  ⟨.nothing rfl rfl,
  ⟨.nothing rfl rfl,
  ⟨.nothing rfl rfl,
  ⟨.nothing rfl rfl,
  ⟨.nothing rfl rfl,
  ⟨.nothing rfl rfl,
  ⟨.nothing rfl rfl,
  ⟨.nothing rfl rfl,
  ⟨.nothing rfl rfl,
  ⟨.nothing rfl rfl,
  ⟨.ofOp rfl rfl (opIndexByte_ok Try.func120 (by kernel_rfl) (by kernel_rfl) (by kernel_rfl) (by kernel_rfl)),
  trivial⟩⟩⟩⟩⟩⟩⟩⟩⟩⟩⟩⟩⟩⟩⟩⟩⟩⟩⟩⟩⟩⟩⟩⟩⟩⟩⟩⟩⟩⟩⟩⟩⟩⟩⟩⟩⟩⟩⟩⟩⟩⟩⟩⟩⟩⟩⟩⟩⟩⟩⟩⟩⟩⟩⟩⟩⟩⟩⟩⟩⟩⟩⟩⟩⟩⟩⟩⟩⟩⟩⟩⟩⟩⟩⟩⟩⟩⟩⟩⟩)
end Go.Proofs.Ytmenplonaapliaa.AE
end
section
namespace Go.Proofs.Ytmenplonaapliaa.AE.threeShows
open Go Go.ChangeShapes Go.WideShapes Go.ChangeAt Go.RowKit
open Go.ChangeMaps (open_string shut_string)
set_option linter.unusedVariables false
def Pure : Prop := ∀ (x0 : den ((.prod (.int .i64) (.prod .str (.prod .str (.int .i64)))))) (x1 : den ((.prod (.int .i64) (.prod .str (.prod .str (.int .i64)))))), Gd ((.prod (.int .i64) (.prod .str (.prod .str (.int .i64))))) x0 → Gd ((.prod (.int .i64) (.prod .str (.prod .str (.int .i64))))) x1 → ∃ K, F.pleachlaw28_ThreeShows K x0 x1 = some true
set_option maxRecDepth 100000 in
theorem lifted (pure : Pure) (os : Os) (started : os.Started) (H : Type) (enc : TypeId × Value → H) :
    ReturnsInHanded {} Try.checked os 5 .any (Rows.threeShowsSpec.pre6 enc Try.prog Try.f5 Rows.threeShowsRow.domain false) (Rows.threeShowsSpec.post enc Try.prog Try.f5 false true false false) := by
  refine returnsInHanded_of_change_sized (C := Try.checked) own started (by kernel_rfl) Try.func5
    (ChangeSpec.witness6 (enc := enc) (C := Try.checked) false ⟨#[], #[.agg #[.int .i64 0, .string ByteArray.empty, .string ByteArray.empty, .int .i64 0], .agg #[.int .i64 0, .string ByteArray.empty, .string ByteArray.empty, .int .i64 0]], []⟩ 8 (by kernel_rfl) (by kernel_rfl) (by kernel_rfl) (by kernel_rfl)) ?_
  intro W base args ds gs before hval0 hW hcnd hsz0 _
  have hsz : (DataW.weightsEach Try.prog (Try.f5.params.toList ++ Rows.threeShowsSpec.plain.varTypes Try.prog) (ds ++ gs)).all (· ≤ reachBytes) = true := hsz0
  have hval : ∀ (j : Nat) t v, Try.f5.params[j]? = some t → args[j]? = some v → Value.okWide Try.prog W .any base t v := hval0
  have hW' := hW
  obtain ⟨p, q, hA0, hV, rfl, hfz, hnd⟩ := hW
  have hA : DataW.TrodAll enc Try.prog W 0 (fun _ => true) true Try.f5.params.toList args.toList ds p := hA0
  rw [Try.params5] at hA hval hsz
  obtain ⟨v0, vs0, d0, ds0, p0, q0, hargs, rfl, rfl, h0, r0⟩ := trodAll_cons hA
  obtain ⟨v1, vs1, d1, ds1, p1, q1, rfl, rfl, rfl, h1, r1⟩ := trodAll_cons r0
  obtain ⟨rfl, rfl, rfl⟩ := trodAll_nil r1
  obtain rfl : args = #[v0, v1] := by cases args; simp_all
  obtain ⟨rfl, rfl⟩ := trodVars_none hV
  have k0 := h0
  have lt0 : ∀ x ∈ p0, x.block < W.heap.size := by obtain ⟨m, hm⟩ := k0; exact DataW.trod_lt m _ _ _ hm
  obtain ⟨cs0, rfl, _⟩ := okWide_struct Try.underlying46 (hval 0 46 v0 rfl rfl)
  obtain ⟨fuel0, hf0⟩ := h0
  obtain ⟨x0, S0, G0⟩ := fitT_ok (O := OX (NoX (W₀ := W)) [] []) (fun b => own_none) 20 46 ((.prod (.int .i64) (.prod .str (.prod .str (.int .i64))))) (by kernel_rfl) fuel0 _ _ hf0 (fun m hm => by have hq := weights_each hsz (j := 0) (t := 46) rfl rfl m hm; exact of_decide_eq_true hq)
  have k1 := h1
  have lt1 : ∀ x ∈ p1, x.block < W.heap.size := by obtain ⟨m, hm⟩ := k1; exact DataW.trod_lt m _ _ _ hm
  obtain ⟨cs1, rfl, _⟩ := okWide_struct Try.underlying46 (hval 1 46 v1 rfl rfl)
  obtain ⟨fuel1, hf1⟩ := h1
  obtain ⟨x1, S1, G1⟩ := fitT_ok (O := OX (NoX (W₀ := W)) [] []) (fun b => own_none) 20 46 ((.prod (.int .i64) (.prod .str (.prod .str (.int .i64))))) (by kernel_rfl) fuel1 _ _ hf1 (fun m hm => by have hq := weights_each hsz (j := 1) (t := 46) rfl rfl m hm; exact of_decide_eq_true hq)
  obtain ⟨K, hk⟩ := pure x0 x1 G0 G1
  have ha : AV1sR (OX (NoX (W₀ := W)) [] []) W [] [.agg (inj ((.prod (.int .i64) (.prod .str (.prod .str (.int .i64))))) x0), .agg (inj ((.prod (.int .i64) (.prod .str (.prod .str (.int .i64))))) x1)] (#[.agg cs0, .agg cs1] : Array Value).toList := .cons (arg_agg S0) (.cons (arg_agg S1) ⟨rfl, by simp⟩)
  refine (law_calls (good Try.prog sg extok mix num K) (f := 5) (t := (true : Bool)) (b := true) hk rfl (fun O w ρ vals σ v h hv => bool_of h hv) ha).mono fun e W' ⟨he, hd⟩ => ?_
  have bel : Below W.heap.size W W' := hd
  subst he
  exact ⟨_, rfl, _, _, _, [], _, [], hW', trodAll_mk1 (shut_bool Try.underlying4 _), (trodAll_cons_mk (Below.trod laidOut (by kernel_rfl) (of_decide_eq_true (by kernel_rfl)) k0 bel lt0) (trodAll_cons_mk (Below.trod laidOut (by kernel_rfl) (of_decide_eq_true (by kernel_rfl)) k1 bel lt1) trodAll_mk0)), rfl, bel.frame _, fun h => by cases h⟩
theorem over (pure : Pure) : Rows.threeShowsRow.holds Try.pinned (OpenSpec.ofChange Rows.threeShowsSpec) :=
  OpenClaim.holds_of_wide 5 Try.f5 rfl rfl rfl rfl rfl rfl rfl ⟨rfl, rfl, rfl, rfl, rfl⟩ rfl rfl rfl rfl rfl (by kernel_rfl) Try.func5 (by kernel_rfl)
    (of_decide_eq_true (by kernel_rfl)) (by unfold Func.isWrapper; first | (rw [if_pos (by decide +kernel)]; kernel_rfl) | (rw [if_neg (by decide +kernel)]; exact ⟨rfl, rfl⟩))
    (fun os started H enc _ => lifted pure os started H enc)
theorem proved (pure : Pure) : Rows.ThreeShowsSaid := over pure
end Go.Proofs.Ytmenplonaapliaa.AE.threeShows
end
