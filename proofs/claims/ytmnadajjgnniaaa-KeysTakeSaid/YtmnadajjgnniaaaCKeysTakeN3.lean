/- The evaluator of the program's form, its soundness, the functions of the given program as it evaluates them, and laws on these. Conditions: as each theorem says. -/
import Derived.Test.YtmnadajjgnniaaaCKeysTakeN2
import Derived.Test.YtmnadajjgnniaaaProg
section
set_option linter.unusedVariables false
set_option maxRecDepth 100000
namespace Go.Proofs.Ytmnadajjgnniaaa.AE
open Go
abbrev TEntry : Type := ByteArray × ByteArray
abbrev sEntry : Sh := (.prod .str .str)
abbrev TValue : Type := Int × Int × ByteArray
abbrev sValue : Sh := (.prod (.int .i64) (.prod (.int .i64) .str))
abbrev TScan : Type := ByteArray × Int × Int
abbrev sScan : Sh := (.prod .str (.prod (.int .i64) (.int .i64)))
abbrev TProp : Type := ByteArray × TValue
abbrev sProp : Sh := (.prod .str sValue)
abbrev TScanx : Type := ByteArray × Int × Int × Bool
abbrev sScanx : Sh := (.prod .str (.prod (.int .i64) (.prod (.int .i64) .bool)))
abbrev TNode : Type := ByteArray × (List ByteArray) × List TProp
abbrev sNode : Sh := (.prod .str (.prod (.list .str) (.list sProp)))
abbrev TEdge : Type := ByteArray × ByteArray × TNode
abbrev sEdge : Sh := (.prod .str (.prod .str sNode))
abbrev TGraph : Type := (List TNode) × List TEdge
abbrev sGraph : Sh := (.prod (.list sNode) (.list sEdge))
def sgT : List (Nat × Sig) := [
  (3, { ps := [(.agg sNode)], vals := [.sc .bool] }),
  (4, { ps := [(.agg sEdge)], vals := [.sc .bool] }),
  (6, { ps := [(.sc (.list sEntry))], vals := [.sc .bool], bcoer := [(58, 0, (.own sNode)), (58, 1, (.own sEdge))], excl := [(11, [0, 3, 4])] }),
  (7, { vals := [.sc .bool] }),
  (8, { ps := [(.agg sNode), (.agg sEdge), .raw], vals := [.sc .bool] }),
  (10, { ps := [(.sc (.list .str)), (.sc (.list sProp))], vals := [.sc .bool] }),
  (11, { vals := [.sc .bool] }),
  (12, { ps := [(.agg sNode)], tup := true, vals := [.sc .str, .sc (.int .i64)] }),
  (13, { ps := [(.agg sNode)], vals := [.sc .str] }),
  (14, { ps := [(.agg sNode)], vals := [.sc (.int .i64)] }),
  (15, { ps := [(.agg sNode)], vals := [.sc (.int .i64)] }),
  (16, { ps := [(.sc (.list sProp))], vals := [.sc (.int .i64)] }),
  (17, { ps := [(.sc (.list sProp))], vals := [.sc (.int .i64)] }),
  (18, { ps := [(.agg sEdge)], tup := true, vals := [.sc .str, .sc (.int .i64)] }),
  (19, { ps := [(.agg sEdge)], vals := [.sc .str] }),
  (20, { ps := [(.agg sEdge)], vals := [.sc (.int .i64)] }),
  (21, { ps := [(.agg sEdge)], vals := [.sc (.int .i64)] }),
  (22, { vals := [.sc .bool] }),
  (23, { tup := true, vals := [.sc .str, .sc (.int .i64)] }),
  (28, { ps := [(.sc (.list sEntry)), .raw], vals := [.sc .bool] }),
  (29, { tup := true, vals := [.agg sNode, .sc .bool] }),
  (30, { tup := true, vals := [.agg sEdge, .sc .bool] }),
  (31, { ps := [(.sc (.list sEntry))], tup := true, vals := [.own sNode, .sc (.int .i64)], coer := [(4, (.own sNode))] }),
  (32, { ps := [(.sc (.list sEntry))], tup := true, vals := [.own sEdge, .sc (.int .i64)], coer := [(4, (.own sEdge))] }),
  (33, { ps := [(.agg sGraph), (.agg sGraph)], vals := [.sc .bool] }),
  (34, { tup := true, vals := [.agg sNode, .sc (.int .i64)] }),
  (35, { tup := true, vals := [.agg sEdge, .sc (.int .i64)] }),
  (36, { ps := [(.agg sNode), (.agg sNode)], vals := [.sc .bool] }),
  (37, { ps := [(.agg sEdge), (.agg sEdge)], vals := [.sc .bool] }),
  (45, { ps := [(.sc (.list sProp)), (.sc (.list sProp))], vals := [.sc .bool] }),
  (50, { ps := [(.sc (.list .str)), (.sc (.list .str))], vals := [.sc .bool] }),
  (51, { ps := [(.sc (.list .str))], vals := [.sc (.int .i64)] }),
  (52, { ps := [(.sc (.list .str)), (.sc (.list sProp))], vals := [.sc .str] }),
  (53, { ps := [(.sc (.list .str)), (.sc (.list sProp))], vals := [.sc .str] }),
  (54, { vals := [.sc .bool] }),
  (55, { ps := [(.sc (.list .str)), (.sc (.list sProp))], vals := [.sc (.int .i64)] }),
  (56, { vals := [.sc (.int .i64)] }),
  (57, { ps := [(.sc (.list .str)), (.sc (.list sProp))], vals := [.sc (.int .i64)] }),
  (58, { ps := [(.agg sValue)], vals := [.sc (.int .i64)] }),
  (59, { ps := [(.agg sValue)], vals := [.sc .bool] }),
  (60, { vals := [.sc .str] }),
  (61, { vals := [.sc .str] }),
  (63, { ps := [(.agg sScan)], tup := true, vals := [.agg sScan, .own .str, .own sProp], coer := [(5, (.own .str)), (6, (.own sProp))] }),
  (64, { ps := [(.agg sScan), .raw], tup := true, vals := [.agg sScan, .sc .str] }),
  (65, { vals := [.ptr 143 sScanx] }),
  (66, { tup := true, vals := [.own .str, .own sProp], blks := [.cells 0 sScanx], coer := [(2, (.own .str)), (3, (.own sProp))] }),
  (67, { vals := [.sc (.int .i64)], blks := [.cells 0 sScanx], excl := [(1, [0])] }),
  (68, { vals := [.sc .str], blks := [.cells 0 sScanx] }),
  (79, { vals := [.sc .str] }),
  (80, { ps := [(.agg sValue)], tup := true, vals := [.sc .str, .sc (.int .i64)] }),
  (81, { vals := [.sc .str] }),
  (82, { ps := [(.agg sValue)], vals := [.sc .str] }),
  (83, { ps := [(.sc (.list .str))], vals := [.sc (.int .i64)] }),
  (84, { vals := [.sc .bool] }),
  (85, { ps := [(.sc (.list .str))], vals := [.sc (.int .i64)] }),
  (86, { vals := [.sc .str] }),
  (87, { vals := [.sc .str] }),
  (89, { ps := [(.agg sScan), .raw], tup := true, vals := [.agg sScan, .sc (.int .i64)] }),
  (90, { ps := [(.agg sScan)], tup := true, vals := [.agg sScan, .agg sValue], excl := [(13, [1, 2])] }),
  (91, { ps := [(.agg sScan), .raw], tup := true, vals := [.agg sScan, .sc .str] }),
  (92, { vals := [.sc (.int .i64)], blks := [.cells 0 sScanx] }),
  (93, { vals := [.agg sValue], blks := [.cells 0 sScanx] }),
  (94, { vals := [.sc (.int .i64)], blks := [.cells 0 sScanx] }),
  (95, { vals := [.sc .str], blks := [.cells 0 sScanx] }),
  (106, { vals := [.sc .str] }),
  (107, { vals := [.sc (.int .u64)] }),
  (108, { vals := [.own (.int .i64)] }),
  (110, { tup := true, vals := [.sc (.int .u64), .sc (.int .i64), .sc .bool] }),
  (111, { ps := [(.agg sScan)], tup := true, vals := [.agg sScan, .sc (.int .i64)], excl := [(4, [1])] }),
  (112, { ps := [(.agg sScan)], tup := true, vals := [.agg sScan, .sc (.int .i64)], excl := [(8, [1])] }),
  (113, { tup := true, vals := [.sc (.int .u64), .sc (.int .i64), .sc .bool] }),
  (114, { tup := true, blks := [.cells 0 sScanx] }),
  (115, { vals := [.sc (.int .i64)], blks := [.cells 0 sScanx] }),
  (116, { vals := [.sc (.int .i64)], blks := [.cells 0 sScanx] }),
  (117, { tup := true, blks := [.cells 0 sScanx] }),
  (123, { vals := [.sc .str] }),
  (128, { vals := [.sc (.int .i64)] }),
  (129, { tup := true, vals := [.sc (.int .i64), .sc (.int .i64), .sc .bool] }),
  (134, { vals := [.sc (.int .u64)] }),
  (137, { vals := [.sc (.int .i64)] })]
abbrev sg : FuncId → Sig := sigOf sgT
noncomputable def F.name_fits (K : Nat) (a0 : Int) : Option (Bool) := evFn Try.prog sg K 84 [.sc (.val (.int .u8 a0))] []
noncomputable def F.name_fits.B (a0 : Int) : Option (Bool) :=
    (bif (decide (a0 ≥ 97)) then (bif (decide (a0 ≤ 122)) then (some true) else (bif (decide (a0 ≥ 48)) then (bif (decide (a0 ≤ 57)) then (some true) else (some (a0 == 45))) else (some (a0 == 45)))) else (bif (decide (a0 ≥ 48)) then (bif (decide (a0 ≤ 57)) then (some true) else (some (a0 == 45))) else (some (a0 == 45))))
theorem F.name_fits.eq K a0 : F.name_fits (K + 1) a0 = F.name_fits.B a0 := by kernel_rfl
noncomputable def V.name_fits (a0 : Int) := lim fun v => F.name_fits (v 0) a0
theorem V.name_fits.of a0 {r} (h : F.name_fits.B a0 = some r) : V.name_fits a0 = some r :=
  App.to (App.step 0 (fun v => F.name_fits.eq (v 0) a0) (by unfold F.name_fits.B; repeat' first | exact App.val | exact App.no | exact App.lim | apply App.cond | apply App.guard | apply App.meet | apply App.ite | refine App.bind ?_ fun _ => ?_)) h
noncomputable def F.name_Check (K : Nat) (a0 : ByteArray) : Option (Int) := evFn Try.prog sg K 56 [.sc (.val (.string a0))] []
noncomputable def F.name_Check.at (K : Nat) (p ns : List Nat) (s : St) : Option (Int) := atFn Try.prog sg K 56 0 p ns s
noncomputable def F.name_Check.in (K : Nat) (H : List Nat → List Nat → St → Option (Int)) (p ns : List Nat) (s : St) : Option (Int) := inFn Try.prog sg K 56 0 [] H p ns s
theorem F.name_Check.in_eq K p ns s : F.name_Check.at K p ns s = F.name_Check.in K (F.name_Check.at K) p ns s := atFn_eq (P := Try.prog) (sg := sg) (K := K) (f := 56) (m := 0) [] p ns s
theorem F.name_Check.in_main K a0 : F.name_Check (K + 1) a0 = F.name_Check.in K (F.name_Check.at K) [] [] ⟨slots [.sc (.val (.string a0))] 0, []⟩ := evFn_eq (P := Try.prog) (sg := sg) (K := K) (f := 56) (args := [.sc (.val (.string a0))]) (σ := []) [] (by kernel_rfl)
def F.name_Check.l11010.st (a0 : ByteArray) (x0 : Int) : St := ⟨[(0, vS a0), (12, vI (a0.size : Int)), (13, vI x0)], []⟩
noncomputable def F.name_Check.l11010 (K n0 : Nat) (a0 : ByteArray) (x0 : Int) := F.name_Check.at K [1, 1, 0, 1, 0] [n0] (F.name_Check.l11010.st a0 x0)
noncomputable def F.name_Check.l11010.B (c0 : (Int) → Option (Bool)) (c1 : (ByteArray) → (Int) → Option (Int)) (a0 : ByteArray) (x0 : Int) : Option (Int) :=
    (bif (decide (x0 < (a0.size : Int))) then (guardK (decide (0 ≤ x0) && decide (x0 < (a0.size : Int))) ((c0 (byteAt a0 x0)).bind fun t0 => (bif (!t0) then (some 2) else (c1 a0 (w64 (x0 + 1)))))) else (some 0))
theorem F.name_Check.l11010.eq K n0 a0 x0 : F.name_Check.l11010 K (n0 + 1) a0 x0 = F.name_Check.l11010.B (F.name_fits K) (F.name_Check.l11010 K n0) a0 x0 := (F.name_Check.in_eq K [1, 1, 0, 1, 0] [n0 + 1] (F.name_Check.l11010.st a0 x0)).trans ((show ∀ H, F.name_Check.in K H [1, 1, 0, 1, 0] [n0 + 1] (F.name_Check.l11010.st a0 x0) = F.name_Check.l11010.B (F.name_fits K) (fun a0 x0 => H [1, 1, 0, 1, 0] [n0] (F.name_Check.l11010.st a0 x0)) a0 x0 from by intro H; kernel_rfl) (F.name_Check.at K))
noncomputable def F.name_Check.B (c0 : (ByteArray) → (Int) → Option (Int)) (a0 : ByteArray) : Option (Int) :=
    (bif (strEq a0 (⟨#[]⟩ : ByteArray)) then (some 2) else (bif (decide ((a0.size : Int) > 12)) then (some 2) else (c0 a0 0)))
theorem F.name_Check.eq K a0 : F.name_Check (K + 1) a0 = F.name_Check.B (F.name_Check.l11010 K K) a0 := (F.name_Check.in_main K a0).trans ((show ∀ H, F.name_Check.in K H [] [] ⟨slots [.sc (.val (.string a0))] 0, []⟩ = F.name_Check.B (fun a0 x0 => H [1, 1, 0, 1, 0] [K] (F.name_Check.l11010.st a0 x0)) a0 from by intro H; kernel_rfl) (F.name_Check.at K))
noncomputable def V.name_Check.l11010 (a0 : ByteArray) (x0 : Int) := lim fun v => F.name_Check.l11010 (v 0) (v 1) a0 x0
noncomputable def V.name_Check (a0 : ByteArray) := lim fun v => F.name_Check (v 0) a0
theorem V.name_Check.l11010.of a0 x0 {r} (h : F.name_Check.l11010.B V.name_fits V.name_Check.l11010 a0 x0 = some r) : V.name_Check.l11010 a0 x0 = some r :=
  App.to (App.step 1 (fun v => F.name_Check.l11010.eq (v 0) (v 1) a0 x0) (by unfold F.name_Check.l11010.B; repeat' first | exact App.val | exact App.no | exact App.lim | apply App.cond | apply App.guard | apply App.meet | apply App.ite | refine App.bind ?_ fun _ => ?_)) h
theorem V.name_Check.of a0 {r} (h : F.name_Check.B V.name_Check.l11010 a0 = some r) : V.name_Check a0 = some r :=
  App.to (App.step 0 (fun v => F.name_Check.eq (v 0) a0) (by unfold F.name_Check.B; repeat' first | exact App.val | exact App.no | exact App.lim | exact (App.enter 1 App.lim) | apply App.cond | apply App.guard | apply App.meet | apply App.ite | refine App.bind ?_ fun _ => ?_)) h
noncomputable def F.name_Row (K : Nat) (a0 : List ByteArray) : Option (Int) := evFn Try.prog sg K 85 [.sc (.list .str a0 false)] []
noncomputable def F.name_Row.at (K : Nat) (p ns : List Nat) (s : St) : Option (Int) := atFn Try.prog sg K 85 0 p ns s
noncomputable def F.name_Row.in (K : Nat) (H : List Nat → List Nat → St → Option (Int)) (p ns : List Nat) (s : St) : Option (Int) := inFn Try.prog sg K 85 0 [] H p ns s
theorem F.name_Row.in_eq K p ns s : F.name_Row.at K p ns s = F.name_Row.in K (F.name_Row.at K) p ns s := atFn_eq (P := Try.prog) (sg := sg) (K := K) (f := 85) (m := 0) [] p ns s
theorem F.name_Row.in_main K a0 : F.name_Row (K + 1) a0 = F.name_Row.in K (F.name_Row.at K) [] [] ⟨slots [.sc (.list .str a0 false)] 0, []⟩ := evFn_eq (P := Try.prog) (sg := sg) (K := K) (f := 85) (args := [.sc (.list .str a0 false)]) (σ := []) [] (by kernel_rfl)
def F.name_Row.l1010.st (a0 : List ByteArray) (x0 : Int) : St := ⟨[(0, vL .str a0), (6, vL .str a0), (7, vI (a0.length : Int)), (8, vI x0)], []⟩
noncomputable def F.name_Row.l1010 (K n0 : Nat) (a0 : List ByteArray) (x0 : Int) := F.name_Row.at K [1, 0, 1, 0] [n0] (F.name_Row.l1010.st a0 x0)
noncomputable def F.name_Row.l1010.B (c0 : (ByteArray) → Option (Int)) (c1 : (List ByteArray) → (Int) → Option (Int)) (a0 : List ByteArray) (x0 : Int) : Option (Int) :=
    (bif (decide (x0 < (a0.length : Int))) then (guardK (decide (0 ≤ x0) && decide (x0 < (a0.length : Int))) ((c0 (rd .str a0 x0.toNat)).bind fun t0 => (bif (t0 != 0) then (some t0) else (bif (decide (x0 > 0)) then (guardK (decide (0 ≤ (w64 (x0 - 1))) && decide ((w64 (x0 - 1)) < (a0.length : Int))) (bif (!strLt (rd .str a0 ((w64 (x0 - 1)).toNat)) (rd .str a0 x0.toNat)) then (some 4) else (c1 a0 (w64 (x0 + 1))))) else (c1 a0 (w64 (x0 + 1))))))) else (some 0))
theorem F.name_Row.l1010.eq K n0 a0 x0 : F.name_Row.l1010 K (n0 + 1) a0 x0 = F.name_Row.l1010.B (F.name_Check K) (F.name_Row.l1010 K n0) a0 x0 := (F.name_Row.in_eq K [1, 0, 1, 0] [n0 + 1] (F.name_Row.l1010.st a0 x0)).trans ((show ∀ H, F.name_Row.in K H [1, 0, 1, 0] [n0 + 1] (F.name_Row.l1010.st a0 x0) = F.name_Row.l1010.B (F.name_Check K) (fun a0 x0 => H [1, 0, 1, 0] [n0] (F.name_Row.l1010.st a0 x0)) a0 x0 from by intro H; kernel_rfl) (F.name_Row.at K))
noncomputable def F.name_Row.B (c0 : (List ByteArray) → (Int) → Option (Int)) (a0 : List ByteArray) : Option (Int) :=
    (c0 a0 0)
theorem F.name_Row.eq K a0 : F.name_Row (K + 1) a0 = F.name_Row.B (F.name_Row.l1010 K K) a0 := (F.name_Row.in_main K a0).trans ((show ∀ H, F.name_Row.in K H [] [] ⟨slots [.sc (.list .str a0 false)] 0, []⟩ = F.name_Row.B (fun a0 x0 => H [1, 0, 1, 0] [K] (F.name_Row.l1010.st a0 x0)) a0 from by intro H; kernel_rfl) (F.name_Row.at K))
noncomputable def V.name_Row.l1010 (a0 : List ByteArray) (x0 : Int) := lim fun v => F.name_Row.l1010 (v 0) (v 1) a0 x0
noncomputable def V.name_Row (a0 : List ByteArray) := lim fun v => F.name_Row (v 0) a0
theorem V.name_Row.l1010.of a0 x0 {r} (h : F.name_Row.l1010.B V.name_Check V.name_Row.l1010 a0 x0 = some r) : V.name_Row.l1010 a0 x0 = some r :=
  App.to (App.step 1 (fun v => F.name_Row.l1010.eq (v 0) (v 1) a0 x0) (by unfold F.name_Row.l1010.B; repeat' first | exact App.val | exact App.no | exact App.lim | apply App.cond | apply App.guard | apply App.meet | apply App.ite | refine App.bind ?_ fun _ => ?_)) h
theorem V.name_Row.of a0 {r} (h : F.name_Row.B V.name_Row.l1010 a0 = some r) : V.name_Row a0 = some r :=
  App.to (App.step 0 (fun v => F.name_Row.eq (v 0) a0) (by unfold F.name_Row.B; repeat' first | exact App.val | exact App.no | exact App.lim | exact (App.enter 1 App.lim) | apply App.cond | apply App.guard | apply App.meet | apply App.ite | refine App.bind ?_ fun _ => ?_)) h
noncomputable def F.value_Check (K : Nat) (a0 : TValue) : Option (Int) := evFn Try.prog sg K 58 [.agg [.val (.int .i64 a0.1), .val (.int .i64 a0.2.1), .val (.string a0.2.2)]] []
noncomputable def F.value_Check.B (a0 : TValue) : Option (Int) :=
    (bif (a0.1 == 1) then (bif (a0.2.1 == 0) then (bif (!(strEq a0.2.2 (⟨#[]⟩ : ByteArray))) then (some 2) else (some 0)) else (bif (a0.2.1 == 1) then (bif (!(strEq a0.2.2 (⟨#[]⟩ : ByteArray))) then (some 2) else (some 0)) else (some 2))) else (bif (a0.1 == 2) then (bif (!(strEq a0.2.2 (⟨#[]⟩ : ByteArray))) then (some 2) else (some 0)) else (bif (a0.1 == 3) then (bif (a0.2.1 == 0) then (bif (!(decide ((a0.2.2.size : Int) ≤ 64))) then (some 2) else (some 0)) else (some 2)) else (some 2))))
theorem F.value_Check.eq K a0 : F.value_Check (K + 1) a0 = F.value_Check.B a0 := by kernel_rfl
noncomputable def V.value_Check (a0 : TValue) := lim fun v => F.value_Check (v 0) a0
theorem V.value_Check.of a0 {r} (h : F.value_Check.B a0 = some r) : V.value_Check a0 = some r :=
  App.to (App.step 0 (fun v => F.value_Check.eq (v 0) a0) (by unfold F.value_Check.B; repeat' first | exact App.val | exact App.no | exact App.lim | apply App.cond | apply App.guard | apply App.meet | apply App.ite | refine App.bind ?_ fun _ => ?_)) h
noncomputable def F.elem_CheckProps (K : Nat) (a0 : List TProp) : Option (Int) := evFn Try.prog sg K 16 [.sc (.list sProp a0 false)] []
noncomputable def F.elem_CheckProps.at (K : Nat) (p ns : List Nat) (s : St) : Option (Int) := atFn Try.prog sg K 16 0 p ns s
noncomputable def F.elem_CheckProps.in (K : Nat) (H : List Nat → List Nat → St → Option (Int)) (p ns : List Nat) (s : St) : Option (Int) := inFn Try.prog sg K 16 0 [] H p ns s
theorem F.elem_CheckProps.in_eq K p ns s : F.elem_CheckProps.at K p ns s = F.elem_CheckProps.in K (F.elem_CheckProps.at K) p ns s := atFn_eq (P := Try.prog) (sg := sg) (K := K) (f := 16) (m := 0) [] p ns s
theorem F.elem_CheckProps.in_main K a0 : F.elem_CheckProps (K + 1) a0 = F.elem_CheckProps.in K (F.elem_CheckProps.at K) [] [] ⟨slots [.sc (.list sProp a0 false)] 0, []⟩ := evFn_eq (P := Try.prog) (sg := sg) (K := K) (f := 16) (args := [.sc (.list sProp a0 false)]) (σ := []) [] (by kernel_rfl)
def F.elem_CheckProps.l11010.st (a0 : List TProp) (x0 : Int) : St := ⟨[(0, vL sProp a0), (8, vL sProp a0), (9, vI (a0.length : Int)), (10, vI x0)], []⟩
noncomputable def F.elem_CheckProps.l11010 (K n0 : Nat) (a0 : List TProp) (x0 : Int) := F.elem_CheckProps.at K [1, 1, 0, 1, 0] [n0] (F.elem_CheckProps.l11010.st a0 x0)
noncomputable def F.elem_CheckProps.l11010.B (c0 : (ByteArray) → Option (Int)) (c1 : (TValue) → Option (Int)) (c2 : (List TProp) → (Int) → Option (Int)) (a0 : List TProp) (x0 : Int) : Option (Int) :=
    (bif (decide (x0 < (a0.length : Int))) then (guardK (decide (0 ≤ x0) && decide (x0 < (a0.length : Int))) ((c0 ((rd sProp a0 x0.toNat).1)).bind fun t0 => (bif (t0 != 0) then (some 2) else ((c1 (((rd sProp a0 x0.toNat).2).1, (((rd sProp a0 x0.toNat).2).2).1, (((rd sProp a0 x0.toNat).2).2).2)).bind fun t1 => (bif (t1 != 0) then (some 2) else (bif (decide (x0 > 0)) then (guardK (decide (0 ≤ (w64 (x0 - 1))) && decide ((w64 (x0 - 1)) < (a0.length : Int))) (bif (!strLt ((rd sProp a0 ((w64 (x0 - 1)).toNat)).1) ((rd sProp a0 x0.toNat).1)) then (some 4) else (c2 a0 (w64 (x0 + 1))))) else (c2 a0 (w64 (x0 + 1))))))))) else (some 0))
theorem F.elem_CheckProps.l11010.eq K n0 a0 x0 : F.elem_CheckProps.l11010 K (n0 + 1) a0 x0 = F.elem_CheckProps.l11010.B (F.name_Check K) (F.value_Check K) (F.elem_CheckProps.l11010 K n0) a0 x0 := (F.elem_CheckProps.in_eq K [1, 1, 0, 1, 0] [n0 + 1] (F.elem_CheckProps.l11010.st a0 x0)).trans ((show ∀ H, F.elem_CheckProps.in K H [1, 1, 0, 1, 0] [n0 + 1] (F.elem_CheckProps.l11010.st a0 x0) = F.elem_CheckProps.l11010.B (F.name_Check K) (F.value_Check K) (fun a0 x0 => H [1, 1, 0, 1, 0] [n0] (F.elem_CheckProps.l11010.st a0 x0)) a0 x0 from by intro H; kernel_rfl) (F.elem_CheckProps.at K))
noncomputable def F.elem_CheckProps.B (c0 : (List TProp) → (Int) → Option (Int)) (a0 : List TProp) : Option (Int) :=
    (bif (decide ((a0.length : Int) > 8)) then (some 5) else (c0 a0 0))
theorem F.elem_CheckProps.eq K a0 : F.elem_CheckProps (K + 1) a0 = F.elem_CheckProps.B (F.elem_CheckProps.l11010 K K) a0 := (F.elem_CheckProps.in_main K a0).trans ((show ∀ H, F.elem_CheckProps.in K H [] [] ⟨slots [.sc (.list sProp a0 false)] 0, []⟩ = F.elem_CheckProps.B (fun a0 x0 => H [1, 1, 0, 1, 0] [K] (F.elem_CheckProps.l11010.st a0 x0)) a0 from by intro H; kernel_rfl) (F.elem_CheckProps.at K))
noncomputable def V.elem_CheckProps.l11010 (a0 : List TProp) (x0 : Int) := lim fun v => F.elem_CheckProps.l11010 (v 0) (v 1) a0 x0
noncomputable def V.elem_CheckProps (a0 : List TProp) := lim fun v => F.elem_CheckProps (v 0) a0
theorem V.elem_CheckProps.l11010.of a0 x0 {r} (h : F.elem_CheckProps.l11010.B V.name_Check V.value_Check V.elem_CheckProps.l11010 a0 x0 = some r) : V.elem_CheckProps.l11010 a0 x0 = some r :=
  App.to (App.step 1 (fun v => F.elem_CheckProps.l11010.eq (v 0) (v 1) a0 x0) (by unfold F.elem_CheckProps.l11010.B; repeat' first | exact App.val | exact App.no | exact App.lim | apply App.cond | apply App.guard | apply App.meet | apply App.ite | refine App.bind ?_ fun _ => ?_)) h
theorem V.elem_CheckProps.of a0 {r} (h : F.elem_CheckProps.B V.elem_CheckProps.l11010 a0 = some r) : V.elem_CheckProps a0 = some r :=
  App.to (App.step 0 (fun v => F.elem_CheckProps.eq (v 0) a0) (by unfold F.elem_CheckProps.B; repeat' first | exact App.val | exact App.no | exact App.lim | exact (App.enter 1 App.lim) | apply App.cond | apply App.guard | apply App.meet | apply App.ite | refine App.bind ?_ fun _ => ?_)) h
noncomputable def F.elem_rest (K : Nat) (a0 : List ByteArray) (a1 : List TProp) : Option (Int) := evFn Try.prog sg K 57 [.sc (.list .str a0 false), .sc (.list sProp a1 false)] []
noncomputable def F.elem_rest.B (c0 : (List ByteArray) → Option (Int)) (c1 : (List TProp) → Option (Int)) (a0 : List ByteArray) (a1 : List TProp) : Option (Int) :=
    (bif (decide ((a0.length : Int) > 8)) then (some 5) else ((c0 a0).bind fun t0 => (bif (t0 != 0) then (some t0) else ((c1 a1).bind fun t1 => (some t1)))))
theorem F.elem_rest.eq K a0 a1 : F.elem_rest (K + 1) a0 a1 = F.elem_rest.B (F.name_Row K) (F.elem_CheckProps K) a0 a1 := by kernel_rfl
noncomputable def V.elem_rest (a0 : List ByteArray) (a1 : List TProp) := lim fun v => F.elem_rest (v 0) a0 a1
theorem V.elem_rest.of a0 a1 {r} (h : F.elem_rest.B V.name_Row V.elem_CheckProps a0 a1 = some r) : V.elem_rest a0 a1 = some r :=
  App.to (App.step 0 (fun v => F.elem_rest.eq (v 0) a0 a1) (by unfold F.elem_rest.B; repeat' first | exact App.val | exact App.no | exact App.lim | apply App.cond | apply App.guard | apply App.meet | apply App.ite | refine App.bind ?_ fun _ => ?_)) h
noncomputable def F.elem_CheckNode (K : Nat) (a0 : TNode) : Option (Int) := evFn Try.prog sg K 15 [.agg [.val (.string a0.1), .list .str a0.2.1 false, .list sProp a0.2.2 false]] []
noncomputable def F.elem_CheckNode.B (c0 : (ByteArray) → Option (Int)) (c1 : (List ByteArray) → (List TProp) → Option (Int)) (a0 : TNode) : Option (Int) :=
    ((c0 a0.1).bind fun t0 => (bif (t0 != 0) then (some t0) else ((c1 a0.2.1 a0.2.2).bind fun t1 => (some t1))))
theorem F.elem_CheckNode.eq K a0 : F.elem_CheckNode (K + 1) a0 = F.elem_CheckNode.B (F.name_Check K) (F.elem_rest K) a0 := by kernel_rfl
noncomputable def V.elem_CheckNode (a0 : TNode) := lim fun v => F.elem_CheckNode (v 0) a0
theorem V.elem_CheckNode.of a0 {r} (h : F.elem_CheckNode.B V.name_Check V.elem_rest a0 = some r) : V.elem_CheckNode a0 = some r :=
  App.to (App.step 0 (fun v => F.elem_CheckNode.eq (v 0) a0) (by unfold F.elem_CheckNode.B; repeat' first | exact App.val | exact App.no | exact App.lim | apply App.cond | apply App.guard | apply App.meet | apply App.ite | refine App.bind ?_ fun _ => ?_)) h
noncomputable def F.varint_Put (K : Nat) (a0 : Int) : Option (ByteArray) := evFn Try.prog sg K 86 [.sc (.val (.int .u64 a0))] []
noncomputable def F.varint_Put.at (K : Nat) (p ns : List Nat) (s : St) : Option (ByteArray) := atFn Try.prog sg K 86 0 p ns s
noncomputable def F.varint_Put.in (K : Nat) (H : List Nat → List Nat → St → Option (ByteArray)) (p ns : List Nat) (s : St) : Option (ByteArray) := inFn Try.prog sg K 86 0 [] H p ns s
theorem F.varint_Put.in_eq K p ns s : F.varint_Put.at K p ns s = F.varint_Put.in K (F.varint_Put.at K) p ns s := atFn_eq (P := Try.prog) (sg := sg) (K := K) (f := 86) (m := 0) [] p ns s
theorem F.varint_Put.in_main K a0 : F.varint_Put (K + 1) a0 = F.varint_Put.in K (F.varint_Put.at K) [] [] ⟨slots [.sc (.val (.int .u64 a0))] 0, []⟩ := evFn_eq (P := Try.prog) (sg := sg) (K := K) (f := 86) (args := [.sc (.val (.int .u64 a0))]) (σ := []) [] (by kernel_rfl)
def F.varint_Put.l11100.st (a0 : Int) (x0 : Int) (x1 : Int) (x2 : List Int) : St := ⟨[(0, .one (.sc (.val (.int .u64 x0)))), (3, .one (.sc (.eref 0 0 0))), (4, vI x1)], [.elems (.int .u8) x2]⟩
noncomputable def F.varint_Put.l11100 (K n0 : Nat) (a0 : Int) (x0 : Int) (x1 : Int) (x2 : List Int) := F.varint_Put.at K [1, 1, 1, 0, 0] [n0] (F.varint_Put.l11100.st a0 x0 x1 x2)
noncomputable def F.varint_Put.l11100.B (c0 : (Int) → (Int) → (Int) → (List Int) → Option (ByteArray)) (a0 : Int) (x0 : Int) (x1 : Int) (x2 : List Int) : Option (ByteArray) :=
    (bif (decide (x0 ≥ 128)) then (guardK (decide (0 ≤ x1) && decide (x1 < 10) && decide (x1 < (x2.length : Int))) (c0 a0 (Int.fdiv x0 (2 ^ 7)) (w64 (x1 + 1)) (x2.set x1.toNat (IntKind.wrap .u8 ((BitVec.ofInt 8 (IntKind.wrap .u8 x0) ||| BitVec.ofInt 8 128).toNat : Int))))) else (guardK (decide (0 ≤ x1) && decide (x1 < 10) && decide (x1 < (x2.length : Int))) (guardK (decide (0 ≤ (w64 (x1 + 1))) && decide ((w64 (x1 + 1)) ≤ 10) && decide (10 = (x2.set x1.toNat (IntKind.wrap .u8 x0)).length)) (some (bytesOf (((x2.set x1.toNat (IntKind.wrap .u8 x0)).take ((w64 (x1 + 1)).toNat)).drop 0))))))
theorem F.varint_Put.l11100.eq K n0 a0 x0 x1 x2 : F.varint_Put.l11100 K (n0 + 1) a0 x0 x1 x2 = F.varint_Put.l11100.B (F.varint_Put.l11100 K n0) a0 x0 x1 x2 := (F.varint_Put.in_eq K [1, 1, 1, 0, 0] [n0 + 1] (F.varint_Put.l11100.st a0 x0 x1 x2)).trans ((show ∀ H, F.varint_Put.in K H [1, 1, 1, 0, 0] [n0 + 1] (F.varint_Put.l11100.st a0 x0 x1 x2) = F.varint_Put.l11100.B (fun a0 x0 x1 x2 => H [1, 1, 1, 0, 0] [n0] (F.varint_Put.l11100.st a0 x0 x1 x2)) a0 x0 x1 x2 from by intro H; kernel_rfl) (F.varint_Put.at K))
noncomputable def F.varint_Put.B (c0 : (Int) → (Int) → (Int) → (List Int) → Option (ByteArray)) (a0 : Int) : Option (ByteArray) :=
    (c0 a0 a0 0 (repl 10 0))
theorem F.varint_Put.eq K a0 : F.varint_Put (K + 1) a0 = F.varint_Put.B (F.varint_Put.l11100 K K) a0 := (F.varint_Put.in_main K a0).trans ((show ∀ H, F.varint_Put.in K H [] [] ⟨slots [.sc (.val (.int .u64 a0))] 0, []⟩ = F.varint_Put.B (fun a0 x0 x1 x2 => H [1, 1, 1, 0, 0] [K] (F.varint_Put.l11100.st a0 x0 x1 x2)) a0 from by intro H; kernel_rfl) (F.varint_Put.at K))
noncomputable def V.varint_Put.l11100 (a0 : Int) (x0 : Int) (x1 : Int) (x2 : List Int) := lim fun v => F.varint_Put.l11100 (v 0) (v 1) a0 x0 x1 x2
noncomputable def V.varint_Put (a0 : Int) := lim fun v => F.varint_Put (v 0) a0
theorem V.varint_Put.l11100.of a0 x0 x1 x2 {r} (h : F.varint_Put.l11100.B V.varint_Put.l11100 a0 x0 x1 x2 = some r) : V.varint_Put.l11100 a0 x0 x1 x2 = some r :=
  App.to (App.step 1 (fun v => F.varint_Put.l11100.eq (v 0) (v 1) a0 x0 x1 x2) (by unfold F.varint_Put.l11100.B; repeat' first | exact App.val | exact App.no | exact App.lim | apply App.cond | apply App.guard | apply App.meet | apply App.ite | refine App.bind ?_ fun _ => ?_)) h
theorem V.varint_Put.of a0 {r} (h : F.varint_Put.B V.varint_Put.l11100 a0 = some r) : V.varint_Put a0 = some r :=
  App.to (App.step 0 (fun v => F.varint_Put.eq (v 0) a0) (by unfold F.varint_Put.B; repeat' first | exact App.val | exact App.no | exact App.lim | exact (App.enter 1 App.lim) | apply App.cond | apply App.guard | apply App.meet | apply App.ite | refine App.bind ?_ fun _ => ?_)) h
noncomputable def F.scan_PutNum (K : Nat) (a0 : Int) : Option (ByteArray) := evFn Try.prog sg K 79 [.sc (.val (.int .i64 a0))] []
noncomputable def F.scan_PutNum.B (c0 : (Int) → Option (ByteArray)) (a0 : Int) : Option (ByteArray) :=
    ((c0 (IntKind.wrap .u64 (if a0 < 0 then 0 else a0))).bind fun t0 => (some t0))
theorem F.scan_PutNum.eq K a0 : F.scan_PutNum (K + 1) a0 = F.scan_PutNum.B (F.varint_Put K) a0 := by kernel_rfl
noncomputable def V.scan_PutNum (a0 : Int) := lim fun v => F.scan_PutNum (v 0) a0
theorem V.scan_PutNum.of a0 {r} (h : F.scan_PutNum.B V.varint_Put a0 = some r) : V.scan_PutNum a0 = some r :=
  App.to (App.step 0 (fun v => F.scan_PutNum.eq (v 0) a0) (by unfold F.scan_PutNum.B; repeat' first | exact App.val | exact App.no | exact App.lim | apply App.cond | apply App.guard | apply App.meet | apply App.ite | refine App.bind ?_ fun _ => ?_)) h
noncomputable def F.scan_PutText (K : Nat) (a0 : ByteArray) : Option (ByteArray) := evFn Try.prog sg K 60 [.sc (.val (.string a0))] []
noncomputable def F.scan_PutText.B (c0 : (Int) → Option (ByteArray)) (a0 : ByteArray) : Option (ByteArray) :=
    ((c0 (IntKind.wrap .u64 (a0.size : Int))).bind fun t0 => (guardK (decide (t0.size + a0.size ≤ i64max)) (some (t0 ++ a0))))
theorem F.scan_PutText.eq K a0 : F.scan_PutText (K + 1) a0 = F.scan_PutText.B (F.varint_Put K) a0 := by kernel_rfl
noncomputable def V.scan_PutText (a0 : ByteArray) := lim fun v => F.scan_PutText (v 0) a0
theorem V.scan_PutText.of a0 {r} (h : F.scan_PutText.B V.varint_Put a0 = some r) : V.scan_PutText a0 = some r :=
  App.to (App.step 0 (fun v => F.scan_PutText.eq (v 0) a0) (by unfold F.scan_PutText.B; repeat' first | exact App.val | exact App.no | exact App.lim | apply App.cond | apply App.guard | apply App.meet | apply App.ite | refine App.bind ?_ fun _ => ?_)) h
noncomputable def F.varint_Zig (K : Nat) (a0 : Int) : Option (Int) := evFn Try.prog sg K 134 [.sc (.val (.int .i64 a0))] []
noncomputable def F.varint_Zig.B (a0 : Int) : Option (Int) :=
    (some (IntKind.wrap .u64 ((BitVec.ofInt 64 (IntKind.wrap .u64 ((IntKind.wrap .u64 a0) * 2 ^ 1)) ^^^ BitVec.ofInt 64 (IntKind.wrap .u64 (Int.fdiv a0 (2 ^ 63)))).toNat : Int)))
theorem F.varint_Zig.eq K a0 : F.varint_Zig (K + 1) a0 = F.varint_Zig.B a0 := by kernel_rfl
noncomputable def V.varint_Zig (a0 : Int) := lim fun v => F.varint_Zig (v 0) a0
theorem V.varint_Zig.of a0 {r} (h : F.varint_Zig.B a0 = some r) : V.varint_Zig a0 = some r :=
  App.to (App.step 0 (fun v => F.varint_Zig.eq (v 0) a0) (by unfold F.varint_Zig.B; repeat' first | exact App.val | exact App.no | exact App.lim | apply App.cond | apply App.guard | apply App.meet | apply App.ite | refine App.bind ?_ fun _ => ?_)) h
noncomputable def F.varint_Int (K : Nat) (a0 : Int) : Option (ByteArray) := evFn Try.prog sg K 123 [.sc (.val (.int .i64 a0))] []
noncomputable def F.varint_Int.B (c0 : (Int) → Option (Int)) (c1 : (Int) → Option (ByteArray)) (a0 : Int) : Option (ByteArray) :=
    ((c0 a0).bind fun t0 => ((c1 t0).bind fun t1 => (some t1)))
theorem F.varint_Int.eq K a0 : F.varint_Int (K + 1) a0 = F.varint_Int.B (F.varint_Zig K) (F.varint_Put K) a0 := by kernel_rfl
noncomputable def V.varint_Int (a0 : Int) := lim fun v => F.varint_Int (v 0) a0
theorem V.varint_Int.of a0 {r} (h : F.varint_Int.B V.varint_Zig V.varint_Put a0 = some r) : V.varint_Int a0 = some r :=
  App.to (App.step 0 (fun v => F.varint_Int.eq (v 0) a0) (by unfold F.varint_Int.B; repeat' first | exact App.val | exact App.no | exact App.lim | apply App.cond | apply App.guard | apply App.meet | apply App.ite | refine App.bind ?_ fun _ => ?_)) h
noncomputable def F.scan_PutInt (K : Nat) (a0 : Int) : Option (ByteArray) := evFn Try.prog sg K 106 [.sc (.val (.int .i64 a0))] []
noncomputable def F.scan_PutInt.B (c0 : (Int) → Option (ByteArray)) (a0 : Int) : Option (ByteArray) :=
    ((c0 a0).bind fun t0 => (some t0))
theorem F.scan_PutInt.eq K a0 : F.scan_PutInt (K + 1) a0 = F.scan_PutInt.B (F.varint_Int K) a0 := by kernel_rfl
noncomputable def V.scan_PutInt (a0 : Int) := lim fun v => F.scan_PutInt (v 0) a0
theorem V.scan_PutInt.of a0 {r} (h : F.scan_PutInt.B V.varint_Int a0 = some r) : V.scan_PutInt a0 = some r :=
  App.to (App.step 0 (fun v => F.scan_PutInt.eq (v 0) a0) (by unfold F.scan_PutInt.B; repeat' first | exact App.val | exact App.no | exact App.lim | apply App.cond | apply App.guard | apply App.meet | apply App.ite | refine App.bind ?_ fun _ => ?_)) h
noncomputable def F.value_Put (K : Nat) (a0 : TValue) : Option (ByteArray × Int) := evFn Try.prog sg K 80 [.agg [.val (.int .i64 a0.1), .val (.int .i64 a0.2.1), .val (.string a0.2.2)]] []
noncomputable def F.value_Put.B (c0 : (TValue) → Option (Int)) (c1 : (Int) → Option (ByteArray)) (c2 : (ByteArray) → Option (ByteArray)) (a0 : TValue) : Option (ByteArray × Int) :=
    ((c0 (a0.1, a0.2.1, a0.2.2)).bind fun t0 => (bif (t0 != 0) then (some ((⟨#[]⟩ : ByteArray), t0)) else (bif (a0.1 == 1) then (guardK (decide ((bytesOf ([(IntKind.wrap .u8 a0.1)])).size + (bytesOf ([(IntKind.wrap .u8 a0.2.1)])).size ≤ i64max)) (some (((bytesOf ([(IntKind.wrap .u8 a0.1)])) ++ (bytesOf ([(IntKind.wrap .u8 a0.2.1)]))), 0))) else (bif (a0.1 == 2) then ((c1 a0.2.1).bind fun t1 => (guardK (decide ((bytesOf ([(IntKind.wrap .u8 a0.1)])).size + t1.size ≤ i64max)) (some (((bytesOf ([(IntKind.wrap .u8 a0.1)])) ++ t1), 0)))) else ((c2 a0.2.2).bind fun t2 => (guardK (decide ((bytesOf ([(IntKind.wrap .u8 a0.1)])).size + t2.size ≤ i64max)) (some (((bytesOf ([(IntKind.wrap .u8 a0.1)])) ++ t2), 0))))))))
theorem F.value_Put.eq K a0 : F.value_Put (K + 1) a0 = F.value_Put.B (F.value_Check K) (F.scan_PutInt K) (F.scan_PutText K) a0 := by kernel_rfl
noncomputable def V.value_Put (a0 : TValue) := lim fun v => F.value_Put (v 0) a0
theorem V.value_Put.of a0 {r} (h : F.value_Put.B V.value_Check V.scan_PutInt V.scan_PutText a0 = some r) : V.value_Put a0 = some r :=
  App.to (App.step 0 (fun v => F.value_Put.eq (v 0) a0) (by unfold F.value_Put.B; repeat' first | exact App.val | exact App.no | exact App.lim | apply App.cond | apply App.guard | apply App.meet | apply App.ite | refine App.bind ?_ fun _ => ?_)) h
noncomputable def F.elem_put (K : Nat) (a0 : List ByteArray) (a1 : List TProp) : Option (ByteArray) := evFn Try.prog sg K 52 [.sc (.list .str a0 false), .sc (.list sProp a1 false)] []
noncomputable def F.elem_put.at (K : Nat) (p ns : List Nat) (s : St) : Option (ByteArray) := atFn Try.prog sg K 52 0 p ns s
noncomputable def F.elem_put.in (K : Nat) (H : List Nat → List Nat → St → Option (ByteArray)) (p ns : List Nat) (s : St) : Option (ByteArray) := inFn Try.prog sg K 52 0 [] H p ns s
theorem F.elem_put.in_eq K p ns s : F.elem_put.at K p ns s = F.elem_put.in K (F.elem_put.at K) p ns s := atFn_eq (P := Try.prog) (sg := sg) (K := K) (f := 52) (m := 0) [] p ns s
theorem F.elem_put.in_main K a0 a1 : F.elem_put (K + 1) a0 a1 = F.elem_put.in K (F.elem_put.at K) [] [] ⟨slots [.sc (.list .str a0 false), .sc (.list sProp a1 false)] 0, []⟩ := evFn_eq (P := Try.prog) (sg := sg) (K := K) (f := 52) (args := [.sc (.list .str a0 false), .sc (.list sProp a1 false)]) (σ := []) [] (by kernel_rfl)
def F.elem_put.l11010.st (a0 : List ByteArray) (a1 : List TProp) (x0 : ByteArray) (x1 : Int) : St := ⟨[(1, vL sProp a1), (5, vS x0), (15, vL .str a0), (16, vI (a0.length : Int)), (17, vI x1)], []⟩
noncomputable def F.elem_put.l11010 (K n0 : Nat) (a0 : List ByteArray) (a1 : List TProp) (x0 : ByteArray) (x1 : Int) := F.elem_put.at K [1, 1, 0, 1, 0] [n0] (F.elem_put.l11010.st a0 a1 x0 x1)
def F.elem_put.l1111010.st (a0 : List ByteArray) (a1 : List TProp) (x0 : ByteArray) (x1 : Int) : St := ⟨[(5, vS x0), (31, vL sProp a1), (32, vI (a1.length : Int)), (33, vI x1)], []⟩
noncomputable def F.elem_put.l1111010 (K n0 : Nat) (a0 : List ByteArray) (a1 : List TProp) (x0 : ByteArray) (x1 : Int) := F.elem_put.at K [1, 1, 1, 1, 0, 1, 0] [n0] (F.elem_put.l1111010.st a0 a1 x0 x1)
noncomputable def F.elem_put.l11010.B (c0 : (ByteArray) → Option (ByteArray)) (c1 : (List ByteArray) → (List TProp) → (ByteArray) → (Int) → Option (ByteArray)) (c2 : (Int) → Option (ByteArray)) (c3 : (List ByteArray) → (List TProp) → (ByteArray) → (Int) → Option (ByteArray)) (a0 : List ByteArray) (a1 : List TProp) (x0 : ByteArray) (x1 : Int) : Option (ByteArray) :=
    (bif (decide (x1 < (a0.length : Int))) then (guardK (decide (0 ≤ x1) && decide (x1 < (a0.length : Int))) ((c0 (rd .str a0 x1.toNat)).bind fun t1 => (guardK (decide (x0.size + t1.size ≤ i64max)) (c1 a0 a1 (x0 ++ t1) (w64 (x1 + 1)))))) else ((c2 (a1.length : Int)).bind fun t2 => (guardK (decide (x0.size + t2.size ≤ i64max)) (c3 a0 a1 (x0 ++ t2) 0))))
theorem F.elem_put.l11010.eq K n0 a0 a1 x0 x1 : F.elem_put.l11010 K (n0 + 1) a0 a1 x0 x1 = F.elem_put.l11010.B (F.scan_PutText K) (F.elem_put.l11010 K n0) (F.scan_PutNum K) (F.elem_put.l1111010 K K) a0 a1 x0 x1 := (F.elem_put.in_eq K [1, 1, 0, 1, 0] [n0 + 1] (F.elem_put.l11010.st a0 a1 x0 x1)).trans ((show ∀ H, F.elem_put.in K H [1, 1, 0, 1, 0] [n0 + 1] (F.elem_put.l11010.st a0 a1 x0 x1) = F.elem_put.l11010.B (F.scan_PutText K) (fun a0 a1 x0 x1 => H [1, 1, 0, 1, 0] [n0] (F.elem_put.l11010.st a0 a1 x0 x1)) (F.scan_PutNum K) (fun a0 a1 x0 x1 => H [1, 1, 1, 1, 0, 1, 0] [K] (F.elem_put.l1111010.st a0 a1 x0 x1)) a0 a1 x0 x1 from by intro H; kernel_rfl) (F.elem_put.at K))
noncomputable def F.elem_put.l1111010.B (c0 : (TValue) → Option (ByteArray × Int)) (c1 : (ByteArray) → Option (ByteArray)) (c2 : (List ByteArray) → (List TProp) → (ByteArray) → (Int) → Option (ByteArray)) (a0 : List ByteArray) (a1 : List TProp) (x0 : ByteArray) (x1 : Int) : Option (ByteArray) :=
    (bif (decide (x1 < (a1.length : Int))) then (guardK (decide (0 ≤ x1) && decide (x1 < (a1.length : Int))) ((c0 (((rd sProp a1 x1.toNat).2).1, (((rd sProp a1 x1.toNat).2).2).1, (((rd sProp a1 x1.toNat).2).2).2)).bind fun t3 => ((c1 ((rd sProp a1 x1.toNat).1)).bind fun t4 => (guardK (decide (t4.size + t3.1.size ≤ i64max)) (guardK (decide (x0.size + (t4 ++ t3.1).size ≤ i64max)) (c2 a0 a1 (x0 ++ (t4 ++ t3.1)) (w64 (x1 + 1)))))))) else (some x0))
theorem F.elem_put.l1111010.eq K n0 a0 a1 x0 x1 : F.elem_put.l1111010 K (n0 + 1) a0 a1 x0 x1 = F.elem_put.l1111010.B (F.value_Put K) (F.scan_PutText K) (F.elem_put.l1111010 K n0) a0 a1 x0 x1 := (F.elem_put.in_eq K [1, 1, 1, 1, 0, 1, 0] [n0 + 1] (F.elem_put.l1111010.st a0 a1 x0 x1)).trans ((show ∀ H, F.elem_put.in K H [1, 1, 1, 1, 0, 1, 0] [n0 + 1] (F.elem_put.l1111010.st a0 a1 x0 x1) = F.elem_put.l1111010.B (F.value_Put K) (F.scan_PutText K) (fun a0 a1 x0 x1 => H [1, 1, 1, 1, 0, 1, 0] [n0] (F.elem_put.l1111010.st a0 a1 x0 x1)) a0 a1 x0 x1 from by intro H; kernel_rfl) (F.elem_put.at K))
noncomputable def F.elem_put.B (c0 : (Int) → Option (ByteArray)) (c1 : (List ByteArray) → (List TProp) → (ByteArray) → (Int) → Option (ByteArray)) (a0 : List ByteArray) (a1 : List TProp) : Option (ByteArray) :=
    ((c0 (a0.length : Int)).bind fun t0 => (c1 a0 a1 t0 0))
theorem F.elem_put.eq K a0 a1 : F.elem_put (K + 1) a0 a1 = F.elem_put.B (F.scan_PutNum K) (F.elem_put.l11010 K K) a0 a1 := (F.elem_put.in_main K a0 a1).trans ((show ∀ H, F.elem_put.in K H [] [] ⟨slots [.sc (.list .str a0 false), .sc (.list sProp a1 false)] 0, []⟩ = F.elem_put.B (F.scan_PutNum K) (fun a0 a1 x0 x1 => H [1, 1, 0, 1, 0] [K] (F.elem_put.l11010.st a0 a1 x0 x1)) a0 a1 from by intro H; kernel_rfl) (F.elem_put.at K))
noncomputable def V.elem_put.l11010 (a0 : List ByteArray) (a1 : List TProp) (x0 : ByteArray) (x1 : Int) := lim fun v => F.elem_put.l11010 (v 0) (v 1) a0 a1 x0 x1
noncomputable def V.elem_put.l1111010 (a0 : List ByteArray) (a1 : List TProp) (x0 : ByteArray) (x1 : Int) := lim fun v => F.elem_put.l1111010 (v 0) (v 1) a0 a1 x0 x1
noncomputable def V.elem_put (a0 : List ByteArray) (a1 : List TProp) := lim fun v => F.elem_put (v 0) a0 a1
theorem V.elem_put.l11010.of a0 a1 x0 x1 {r} (h : F.elem_put.l11010.B V.scan_PutText V.elem_put.l11010 V.scan_PutNum V.elem_put.l1111010 a0 a1 x0 x1 = some r) : V.elem_put.l11010 a0 a1 x0 x1 = some r :=
  App.to (App.step 1 (fun v => F.elem_put.l11010.eq (v 0) (v 1) a0 a1 x0 x1) (by unfold F.elem_put.l11010.B; repeat' first | exact App.val | exact App.no | exact App.lim | exact (App.enter 1 App.lim) | apply App.cond | apply App.guard | apply App.meet | apply App.ite | refine App.bind ?_ fun _ => ?_)) h
theorem V.elem_put.l1111010.of a0 a1 x0 x1 {r} (h : F.elem_put.l1111010.B V.value_Put V.scan_PutText V.elem_put.l1111010 a0 a1 x0 x1 = some r) : V.elem_put.l1111010 a0 a1 x0 x1 = some r :=
  App.to (App.step 1 (fun v => F.elem_put.l1111010.eq (v 0) (v 1) a0 a1 x0 x1) (by unfold F.elem_put.l1111010.B; repeat' first | exact App.val | exact App.no | exact App.lim | apply App.cond | apply App.guard | apply App.meet | apply App.ite | refine App.bind ?_ fun _ => ?_)) h
theorem V.elem_put.of a0 a1 {r} (h : F.elem_put.B V.scan_PutNum V.elem_put.l11010 a0 a1 = some r) : V.elem_put a0 a1 = some r :=
  App.to (App.step 0 (fun v => F.elem_put.eq (v 0) a0 a1) (by unfold F.elem_put.B; repeat' first | exact App.val | exact App.no | exact App.lim | exact (App.enter 1 App.lim) | apply App.cond | apply App.guard | apply App.meet | apply App.ite | refine App.bind ?_ fun _ => ?_)) h
noncomputable def F.elem_PutNode (K : Nat) (a0 : TNode) : Option (ByteArray × Int) := evFn Try.prog sg K 12 [.agg [.val (.string a0.1), .list .str a0.2.1 false, .list sProp a0.2.2 false]] []
noncomputable def F.elem_PutNode.B (c0 : (TNode) → Option (Int)) (c1 : (List ByteArray) → (List TProp) → Option (ByteArray)) (a0 : TNode) : Option (ByteArray × Int) :=
    ((c0 (a0.1, a0.2.1, a0.2.2)).bind fun t0 => (bif (t0 != 0) then (some ((⟨#[]⟩ : ByteArray), t0)) else ((c1 a0.2.1 a0.2.2).bind fun t1 => (some (t1, 0)))))
theorem F.elem_PutNode.eq K a0 : F.elem_PutNode (K + 1) a0 = F.elem_PutNode.B (F.elem_CheckNode K) (F.elem_put K) a0 := by kernel_rfl
noncomputable def V.elem_PutNode (a0 : TNode) := lim fun v => F.elem_PutNode (v 0) a0
theorem V.elem_PutNode.of a0 {r} (h : F.elem_PutNode.B V.elem_CheckNode V.elem_put a0 = some r) : V.elem_PutNode a0 = some r :=
  App.to (App.step 0 (fun v => F.elem_PutNode.eq (v 0) a0) (by unfold F.elem_PutNode.B; repeat' first | exact App.val | exact App.no | exact App.lim | apply App.cond | apply App.guard | apply App.meet | apply App.ite | refine App.bind ?_ fun _ => ?_)) h
noncomputable def F.pleachlaw25_awake (K : Nat) : Option (Bool) := evFn Try.prog sg K 11 [] []
noncomputable def F.pleachlaw25_awake.B (c0 : (TNode) → Option (ByteArray × Int)) : Option (Bool) :=
    ((c0 ((⟨#[97]⟩ : ByteArray), [], [])).bind fun t0 => (bif (strEq t0.1 (⟨#[0, 0]⟩ : ByteArray)) then (some (t0.2 == 0)) else (some false)))
theorem F.pleachlaw25_awake.eq K : F.pleachlaw25_awake (K + 1) = F.pleachlaw25_awake.B (F.elem_PutNode K) := by kernel_rfl
noncomputable def V.pleachlaw25_awake := lim fun v => F.pleachlaw25_awake (v 0)
theorem V.pleachlaw25_awake.of {r} (h : F.pleachlaw25_awake.B V.elem_PutNode = some r) : V.pleachlaw25_awake = some r :=
  App.to (App.step 0 (fun v => F.pleachlaw25_awake.eq (v 0)) (by unfold F.pleachlaw25_awake.B; repeat' first | exact App.val | exact App.no | exact App.lim | apply App.cond | apply App.guard | apply App.meet | apply App.ite | refine App.bind ?_ fun _ => ?_)) h
noncomputable def F.pleachplain_Bytes (K : Nat) (a0 : List ByteArray) : Option (Int) := evFn Try.prog sg K 51 [.sc (.list .str a0 false)] []
noncomputable def F.pleachplain_Bytes.at (K : Nat) (p ns : List Nat) (s : St) : Option (Int) := atFn Try.prog sg K 51 0 p ns s
noncomputable def F.pleachplain_Bytes.in (K : Nat) (H : List Nat → List Nat → St → Option (Int)) (p ns : List Nat) (s : St) : Option (Int) := inFn Try.prog sg K 51 0 [] H p ns s
theorem F.pleachplain_Bytes.in_eq K p ns s : F.pleachplain_Bytes.at K p ns s = F.pleachplain_Bytes.in K (F.pleachplain_Bytes.at K) p ns s := atFn_eq (P := Try.prog) (sg := sg) (K := K) (f := 51) (m := 0) [] p ns s
theorem F.pleachplain_Bytes.in_main K a0 : F.pleachplain_Bytes (K + 1) a0 = F.pleachplain_Bytes.in K (F.pleachplain_Bytes.at K) [] [] ⟨slots [.sc (.list .str a0 false)] 0, []⟩ := evFn_eq (P := Try.prog) (sg := sg) (K := K) (f := 51) (args := [.sc (.list .str a0 false)]) (σ := []) [] (by kernel_rfl)
def F.pleachplain_Bytes.l11010.st (a0 : List ByteArray) (x0 : Int) (x1 : Int) : St := ⟨[(3, vI x0), (6, vL .str a0), (7, vI (a0.length : Int)), (8, vI x1)], []⟩
noncomputable def F.pleachplain_Bytes.l11010 (K n0 : Nat) (a0 : List ByteArray) (x0 : Int) (x1 : Int) := F.pleachplain_Bytes.at K [1, 1, 0, 1, 0] [n0] (F.pleachplain_Bytes.l11010.st a0 x0 x1)
noncomputable def F.pleachplain_Bytes.l11010.B (c0 : (List ByteArray) → (Int) → (Int) → Option (Int)) (a0 : List ByteArray) (x0 : Int) (x1 : Int) : Option (Int) :=
    (bif (decide (x1 < (a0.length : Int))) then (guardK (decide (0 ≤ x1) && decide (x1 < (a0.length : Int))) (bif (decide ((w64 (x0 + (if 1000000 < ((rd .str a0 x1.toNat).size : Int) then 1000000 else ((rd .str a0 x1.toNat).size : Int)))) ≥ 1000000)) then (some (w64 (x0 + (if 1000000 < ((rd .str a0 x1.toNat).size : Int) then 1000000 else ((rd .str a0 x1.toNat).size : Int))))) else (c0 a0 (w64 (x0 + (if 1000000 < ((rd .str a0 x1.toNat).size : Int) then 1000000 else ((rd .str a0 x1.toNat).size : Int)))) (w64 (x1 + 1))))) else (some x0))
theorem F.pleachplain_Bytes.l11010.eq K n0 a0 x0 x1 : F.pleachplain_Bytes.l11010 K (n0 + 1) a0 x0 x1 = F.pleachplain_Bytes.l11010.B (F.pleachplain_Bytes.l11010 K n0) a0 x0 x1 := (F.pleachplain_Bytes.in_eq K [1, 1, 0, 1, 0] [n0 + 1] (F.pleachplain_Bytes.l11010.st a0 x0 x1)).trans ((show ∀ H, F.pleachplain_Bytes.in K H [1, 1, 0, 1, 0] [n0 + 1] (F.pleachplain_Bytes.l11010.st a0 x0 x1) = F.pleachplain_Bytes.l11010.B (fun a0 x0 x1 => H [1, 1, 0, 1, 0] [n0] (F.pleachplain_Bytes.l11010.st a0 x0 x1)) a0 x0 x1 from by intro H; kernel_rfl) (F.pleachplain_Bytes.at K))
noncomputable def F.pleachplain_Bytes.B (c0 : (List ByteArray) → (Int) → (Int) → Option (Int)) (a0 : List ByteArray) : Option (Int) :=
    (c0 a0 0 0)
theorem F.pleachplain_Bytes.eq K a0 : F.pleachplain_Bytes (K + 1) a0 = F.pleachplain_Bytes.B (F.pleachplain_Bytes.l11010 K K) a0 := (F.pleachplain_Bytes.in_main K a0).trans ((show ∀ H, F.pleachplain_Bytes.in K H [] [] ⟨slots [.sc (.list .str a0 false)] 0, []⟩ = F.pleachplain_Bytes.B (fun a0 x0 x1 => H [1, 1, 0, 1, 0] [K] (F.pleachplain_Bytes.l11010.st a0 x0 x1)) a0 from by intro H; kernel_rfl) (F.pleachplain_Bytes.at K))
noncomputable def V.pleachplain_Bytes.l11010 (a0 : List ByteArray) (x0 : Int) (x1 : Int) := lim fun v => F.pleachplain_Bytes.l11010 (v 0) (v 1) a0 x0 x1
noncomputable def V.pleachplain_Bytes (a0 : List ByteArray) := lim fun v => F.pleachplain_Bytes (v 0) a0
theorem V.pleachplain_Bytes.l11010.of a0 x0 x1 {r} (h : F.pleachplain_Bytes.l11010.B V.pleachplain_Bytes.l11010 a0 x0 x1 = some r) : V.pleachplain_Bytes.l11010 a0 x0 x1 = some r :=
  App.to (App.step 1 (fun v => F.pleachplain_Bytes.l11010.eq (v 0) (v 1) a0 x0 x1) (by unfold F.pleachplain_Bytes.l11010.B; repeat' first | exact App.val | exact App.no | exact App.lim | apply App.cond | apply App.guard | apply App.meet | apply App.ite | refine App.bind ?_ fun _ => ?_)) h
theorem V.pleachplain_Bytes.of a0 {r} (h : F.pleachplain_Bytes.B V.pleachplain_Bytes.l11010 a0 = some r) : V.pleachplain_Bytes a0 = some r :=
  App.to (App.step 0 (fun v => F.pleachplain_Bytes.eq (v 0) a0) (by unfold F.pleachplain_Bytes.B; repeat' first | exact App.val | exact App.no | exact App.lim | exact (App.enter 1 App.lim) | apply App.cond | apply App.guard | apply App.meet | apply App.ite | refine App.bind ?_ fun _ => ?_)) h
noncomputable def F.pleachlaw25_few (K : Nat) (a0 : List ByteArray) (a1 : List TProp) : Option (Bool) := evFn Try.prog sg K 10 [.sc (.list .str a0 false), .sc (.list sProp a1 false)] []
noncomputable def F.pleachlaw25_few.at (K : Nat) (p ns : List Nat) (s : St) : Option (Bool) := atFn Try.prog sg K 10 0 p ns s
noncomputable def F.pleachlaw25_few.in (K : Nat) (H : List Nat → List Nat → St → Option (Bool)) (p ns : List Nat) (s : St) : Option (Bool) := inFn Try.prog sg K 10 0 [] H p ns s
theorem F.pleachlaw25_few.in_eq K p ns s : F.pleachlaw25_few.at K p ns s = F.pleachlaw25_few.in K (F.pleachlaw25_few.at K) p ns s := atFn_eq (P := Try.prog) (sg := sg) (K := K) (f := 10) (m := 0) [] p ns s
theorem F.pleachlaw25_few.in_main K a0 a1 : F.pleachlaw25_few (K + 1) a0 a1 = F.pleachlaw25_few.in K (F.pleachlaw25_few.at K) [] [] ⟨slots [.sc (.list .str a0 false), .sc (.list sProp a1 false)] 0, []⟩ := evFn_eq (P := Try.prog) (sg := sg) (K := K) (f := 10) (args := [.sc (.list .str a0 false), .sc (.list sProp a1 false)]) (σ := []) [] (by kernel_rfl)
def F.pleachlaw25_few.l11010.st (a0 : List ByteArray) (a1 : List TProp) (x0 : Int) (x1 : Int) : St := ⟨[(0, vL .str a0), (1, vL sProp a1), (5, vI x0), (6, vI x1)], []⟩
noncomputable def F.pleachlaw25_few.l11010 (K n0 : Nat) (a0 : List ByteArray) (a1 : List TProp) (x0 : Int) (x1 : Int) := F.pleachlaw25_few.at K [1, 1, 0, 1, 0] [n0] (F.pleachlaw25_few.l11010.st a0 a1 x0 x1)
noncomputable def F.pleachlaw25_few.l11010.B (c0 : (List ByteArray) → (List TProp) → (Int) → (Int) → Option (Bool)) (c1 : (List ByteArray) → Option (Int)) (a0 : List ByteArray) (a1 : List TProp) (x0 : Int) (x1 : Int) : Option (Bool) :=
    (bif (decide (x1 < (a1.length : Int))) then (bif (decide (x1 ≤ 20)) then (guardK (decide (0 ≤ x1) && decide (x1 < (a1.length : Int))) (guardK (decide (0 ≤ x1) && decide (x1 < (a1.length : Int))) (c0 a0 a1 (w64 (x0 + (w64 ((if 10000 < (((rd sProp a1 x1.toNat).1).size : Int) then 10000 else (((rd sProp a1 x1.toNat).1).size : Int)) + (if 10000 < (((((rd sProp a1 x1.toNat).2).2).2).size : Int) then 10000 else (((((rd sProp a1 x1.toNat).2).2).2).size : Int)))))) (w64 (x1 + 1))))) else (bif (decide ((a1.length : Int) ≤ 20)) then (bif (decide (x0 ≤ 3000)) then (bif (decide ((a0.length : Int) ≤ 20)) then ((c1 a0).bind fun t0 => (some (decide (t0 ≤ 2000)))) else (some false)) else (some false)) else (some false))) else (bif (decide ((a1.length : Int) ≤ 20)) then (bif (decide (x0 ≤ 3000)) then (bif (decide ((a0.length : Int) ≤ 20)) then ((c1 a0).bind fun t1 => (some (decide (t1 ≤ 2000)))) else (some false)) else (some false)) else (some false)))
theorem F.pleachlaw25_few.l11010.eq K n0 a0 a1 x0 x1 : F.pleachlaw25_few.l11010 K (n0 + 1) a0 a1 x0 x1 = F.pleachlaw25_few.l11010.B (F.pleachlaw25_few.l11010 K n0) (F.pleachplain_Bytes K) a0 a1 x0 x1 := (F.pleachlaw25_few.in_eq K [1, 1, 0, 1, 0] [n0 + 1] (F.pleachlaw25_few.l11010.st a0 a1 x0 x1)).trans ((show ∀ H, F.pleachlaw25_few.in K H [1, 1, 0, 1, 0] [n0 + 1] (F.pleachlaw25_few.l11010.st a0 a1 x0 x1) = F.pleachlaw25_few.l11010.B (fun a0 a1 x0 x1 => H [1, 1, 0, 1, 0] [n0] (F.pleachlaw25_few.l11010.st a0 a1 x0 x1)) (F.pleachplain_Bytes K) a0 a1 x0 x1 from by intro H; kernel_rfl) (F.pleachlaw25_few.at K))
noncomputable def F.pleachlaw25_few.B (c0 : (List ByteArray) → (List TProp) → (Int) → (Int) → Option (Bool)) (a0 : List ByteArray) (a1 : List TProp) : Option (Bool) :=
    (c0 a0 a1 0 0)
theorem F.pleachlaw25_few.eq K a0 a1 : F.pleachlaw25_few (K + 1) a0 a1 = F.pleachlaw25_few.B (F.pleachlaw25_few.l11010 K K) a0 a1 := (F.pleachlaw25_few.in_main K a0 a1).trans ((show ∀ H, F.pleachlaw25_few.in K H [] [] ⟨slots [.sc (.list .str a0 false), .sc (.list sProp a1 false)] 0, []⟩ = F.pleachlaw25_few.B (fun a0 a1 x0 x1 => H [1, 1, 0, 1, 0] [K] (F.pleachlaw25_few.l11010.st a0 a1 x0 x1)) a0 a1 from by intro H; kernel_rfl) (F.pleachlaw25_few.at K))
noncomputable def V.pleachlaw25_few.l11010 (a0 : List ByteArray) (a1 : List TProp) (x0 : Int) (x1 : Int) := lim fun v => F.pleachlaw25_few.l11010 (v 0) (v 1) a0 a1 x0 x1
noncomputable def V.pleachlaw25_few (a0 : List ByteArray) (a1 : List TProp) := lim fun v => F.pleachlaw25_few (v 0) a0 a1
theorem V.pleachlaw25_few.l11010.of a0 a1 x0 x1 {r} (h : F.pleachlaw25_few.l11010.B V.pleachlaw25_few.l11010 V.pleachplain_Bytes a0 a1 x0 x1 = some r) : V.pleachlaw25_few.l11010 a0 a1 x0 x1 = some r :=
  App.to (App.step 1 (fun v => F.pleachlaw25_few.l11010.eq (v 0) (v 1) a0 a1 x0 x1) (by unfold F.pleachlaw25_few.l11010.B; repeat' first | exact App.val | exact App.no | exact App.lim | apply App.cond | apply App.guard | apply App.meet | apply App.ite | refine App.bind ?_ fun _ => ?_)) h
theorem V.pleachlaw25_few.of a0 a1 {r} (h : F.pleachlaw25_few.B V.pleachlaw25_few.l11010 a0 a1 = some r) : V.pleachlaw25_few a0 a1 = some r :=
  App.to (App.step 0 (fun v => F.pleachlaw25_few.eq (v 0) a0 a1) (by unfold F.pleachlaw25_few.B; repeat' first | exact App.val | exact App.no | exact App.lim | exact (App.enter 1 App.lim) | apply App.cond | apply App.guard | apply App.meet | apply App.ite | refine App.bind ?_ fun _ => ?_)) h
noncomputable def F.pleachref05_Is (K : Nat) (a0 : ByteArray) : Option (Bool) := evFn Try.prog sg K 54 [.sc (.val (.string a0))] []
noncomputable def F.pleachref05_Is.at (K : Nat) (p ns : List Nat) (s : St) : Option (Bool) := atFn Try.prog sg K 54 0 p ns s
noncomputable def F.pleachref05_Is.in (K : Nat) (H : List Nat → List Nat → St → Option (Bool)) (p ns : List Nat) (s : St) : Option (Bool) := inFn Try.prog sg K 54 0 [] H p ns s
theorem F.pleachref05_Is.in_eq K p ns s : F.pleachref05_Is.at K p ns s = F.pleachref05_Is.in K (F.pleachref05_Is.at K) p ns s := atFn_eq (P := Try.prog) (sg := sg) (K := K) (f := 54) (m := 0) [] p ns s
theorem F.pleachref05_Is.in_main K a0 : F.pleachref05_Is (K + 1) a0 = F.pleachref05_Is.in K (F.pleachref05_Is.at K) [] [] ⟨slots [.sc (.val (.string a0))] 0, []⟩ := evFn_eq (P := Try.prog) (sg := sg) (K := K) (f := 54) (args := [.sc (.val (.string a0))]) (σ := []) [] (by kernel_rfl)
def F.pleachref05_Is.l1010.st (a0 : ByteArray) (x0 : Int) : St := ⟨[(0, vS a0), (3, vI x0)], []⟩
noncomputable def F.pleachref05_Is.l1010 (K n0 : Nat) (a0 : ByteArray) (x0 : Int) := F.pleachref05_Is.at K [1, 0, 1, 0] [n0] (F.pleachref05_Is.l1010.st a0 x0)
noncomputable def F.pleachref05_Is.l1010.B (c0 : (ByteArray) → (Int) → Option (Bool)) (a0 : ByteArray) (x0 : Int) : Option (Bool) :=
    (bif (decide (x0 < (a0.size : Int))) then (guardK (decide (0 ≤ x0) && decide (x0 < (a0.size : Int))) (bif (decide ((byteAt a0 x0) ≥ 97)) then (guardK (decide (0 ≤ x0) && decide (x0 < (a0.size : Int))) (guardK (decide (0 ≤ x0) && decide (x0 < (a0.size : Int))) (bif (decide ((byteAt a0 x0) ≥ 48)) then (guardK (decide (0 ≤ x0) && decide (x0 < (a0.size : Int))) (bif (!(decide ((byteAt a0 x0) ≤ 122))) then (bif (!(decide ((byteAt a0 x0) ≤ 57))) then (guardK (decide (0 ≤ x0) && decide (x0 < (a0.size : Int))) (bif ((byteAt a0 x0) != 45) then (some false) else (c0 a0 (w64 (x0 + 1))))) else (c0 a0 (w64 (x0 + 1)))) else (c0 a0 (w64 (x0 + 1))))) else (bif (!(decide ((byteAt a0 x0) ≤ 122))) then (guardK (decide (0 ≤ x0) && decide (x0 < (a0.size : Int))) (bif ((byteAt a0 x0) != 45) then (some false) else (c0 a0 (w64 (x0 + 1))))) else (c0 a0 (w64 (x0 + 1))))))) else (guardK (decide (0 ≤ x0) && decide (x0 < (a0.size : Int))) (bif (decide ((byteAt a0 x0) ≥ 48)) then (guardK (decide (0 ≤ x0) && decide (x0 < (a0.size : Int))) (bif (!(decide ((byteAt a0 x0) ≤ 57))) then (guardK (decide (0 ≤ x0) && decide (x0 < (a0.size : Int))) (bif ((byteAt a0 x0) != 45) then (some false) else (c0 a0 (w64 (x0 + 1))))) else (c0 a0 (w64 (x0 + 1))))) else (guardK (decide (0 ≤ x0) && decide (x0 < (a0.size : Int))) (bif ((byteAt a0 x0) != 45) then (some false) else (c0 a0 (w64 (x0 + 1))))))))) else (bif (decide ((a0.size : Int) ≥ 1)) then (some (decide ((a0.size : Int) ≤ 12))) else (some false)))
theorem F.pleachref05_Is.l1010.eq K n0 a0 x0 : F.pleachref05_Is.l1010 K (n0 + 1) a0 x0 = F.pleachref05_Is.l1010.B (F.pleachref05_Is.l1010 K n0) a0 x0 := (F.pleachref05_Is.in_eq K [1, 0, 1, 0] [n0 + 1] (F.pleachref05_Is.l1010.st a0 x0)).trans ((show ∀ H, F.pleachref05_Is.in K H [1, 0, 1, 0] [n0 + 1] (F.pleachref05_Is.l1010.st a0 x0) = F.pleachref05_Is.l1010.B (fun a0 x0 => H [1, 0, 1, 0] [n0] (F.pleachref05_Is.l1010.st a0 x0)) a0 x0 from by intro H; kernel_rfl) (F.pleachref05_Is.at K))
noncomputable def F.pleachref05_Is.B (c0 : (ByteArray) → (Int) → Option (Bool)) (a0 : ByteArray) : Option (Bool) :=
    (c0 a0 0)
theorem F.pleachref05_Is.eq K a0 : F.pleachref05_Is (K + 1) a0 = F.pleachref05_Is.B (F.pleachref05_Is.l1010 K K) a0 := (F.pleachref05_Is.in_main K a0).trans ((show ∀ H, F.pleachref05_Is.in K H [] [] ⟨slots [.sc (.val (.string a0))] 0, []⟩ = F.pleachref05_Is.B (fun a0 x0 => H [1, 0, 1, 0] [K] (F.pleachref05_Is.l1010.st a0 x0)) a0 from by intro H; kernel_rfl) (F.pleachref05_Is.at K))
noncomputable def V.pleachref05_Is.l1010 (a0 : ByteArray) (x0 : Int) := lim fun v => F.pleachref05_Is.l1010 (v 0) (v 1) a0 x0
noncomputable def V.pleachref05_Is (a0 : ByteArray) := lim fun v => F.pleachref05_Is (v 0) a0
theorem V.pleachref05_Is.l1010.of a0 x0 {r} (h : F.pleachref05_Is.l1010.B V.pleachref05_Is.l1010 a0 x0 = some r) : V.pleachref05_Is.l1010 a0 x0 = some r :=
  App.to (App.step 1 (fun v => F.pleachref05_Is.l1010.eq (v 0) (v 1) a0 x0) (by unfold F.pleachref05_Is.l1010.B; repeat' first | exact App.val | exact App.no | exact App.lim | apply App.cond | apply App.guard | apply App.meet | apply App.ite | refine App.bind ?_ fun _ => ?_)) h
theorem V.pleachref05_Is.of a0 {r} (h : F.pleachref05_Is.B V.pleachref05_Is.l1010 a0 = some r) : V.pleachref05_Is a0 = some r :=
  App.to (App.step 0 (fun v => F.pleachref05_Is.eq (v 0) a0) (by unfold F.pleachref05_Is.B; repeat' first | exact App.val | exact App.no | exact App.lim | exact (App.enter 1 App.lim) | apply App.cond | apply App.guard | apply App.meet | apply App.ite | refine App.bind ?_ fun _ => ?_)) h
noncomputable def F.pleachref05_Row (K : Nat) (a0 : List ByteArray) : Option (Int) := evFn Try.prog sg K 83 [.sc (.list .str a0 false)] []
noncomputable def F.pleachref05_Row.at (K : Nat) (p ns : List Nat) (s : St) : Option (Int) := atFn Try.prog sg K 83 0 p ns s
noncomputable def F.pleachref05_Row.in (K : Nat) (H : List Nat → List Nat → St → Option (Int)) (p ns : List Nat) (s : St) : Option (Int) := inFn Try.prog sg K 83 0 [] H p ns s
theorem F.pleachref05_Row.in_eq K p ns s : F.pleachref05_Row.at K p ns s = F.pleachref05_Row.in K (F.pleachref05_Row.at K) p ns s := atFn_eq (P := Try.prog) (sg := sg) (K := K) (f := 83) (m := 0) [] p ns s
theorem F.pleachref05_Row.in_main K a0 : F.pleachref05_Row (K + 1) a0 = F.pleachref05_Row.in K (F.pleachref05_Row.at K) [] [] ⟨slots [.sc (.list .str a0 false)] 0, []⟩ := evFn_eq (P := Try.prog) (sg := sg) (K := K) (f := 83) (args := [.sc (.list .str a0 false)]) (σ := []) [] (by kernel_rfl)
def F.pleachref05_Row.l1010.st (a0 : List ByteArray) (x0 : Int) : St := ⟨[(0, vL .str a0), (3, vI x0)], []⟩
noncomputable def F.pleachref05_Row.l1010 (K n0 : Nat) (a0 : List ByteArray) (x0 : Int) := F.pleachref05_Row.at K [1, 0, 1, 0] [n0] (F.pleachref05_Row.l1010.st a0 x0)
noncomputable def F.pleachref05_Row.l1010.B (c0 : (ByteArray) → Option (Bool)) (c1 : (List ByteArray) → (Int) → Option (Int)) (a0 : List ByteArray) (x0 : Int) : Option (Int) :=
    (bif (decide (x0 < (a0.length : Int))) then (guardK (decide (0 ≤ x0) && decide (x0 < (a0.length : Int))) ((c0 (rd .str a0 x0.toNat)).bind fun t0 => (bif (!t0) then (some 2) else (bif (decide (x0 > 0)) then (guardK (decide (0 ≤ x0) && decide (x0 < (a0.length : Int))) (guardK (decide (0 ≤ (w64 (x0 - 1))) && decide ((w64 (x0 - 1)) < (a0.length : Int))) (bif (strLt (rd .str a0 x0.toNat) (rd .str a0 ((w64 (x0 - 1)).toNat)) || strEq (rd .str a0 x0.toNat) (rd .str a0 ((w64 (x0 - 1)).toNat))) then (some 4) else (c1 a0 (w64 (x0 + 1)))))) else (c1 a0 (w64 (x0 + 1))))))) else (some 0))
theorem F.pleachref05_Row.l1010.eq K n0 a0 x0 : F.pleachref05_Row.l1010 K (n0 + 1) a0 x0 = F.pleachref05_Row.l1010.B (F.pleachref05_Is K) (F.pleachref05_Row.l1010 K n0) a0 x0 := (F.pleachref05_Row.in_eq K [1, 0, 1, 0] [n0 + 1] (F.pleachref05_Row.l1010.st a0 x0)).trans ((show ∀ H, F.pleachref05_Row.in K H [1, 0, 1, 0] [n0 + 1] (F.pleachref05_Row.l1010.st a0 x0) = F.pleachref05_Row.l1010.B (F.pleachref05_Is K) (fun a0 x0 => H [1, 0, 1, 0] [n0] (F.pleachref05_Row.l1010.st a0 x0)) a0 x0 from by intro H; kernel_rfl) (F.pleachref05_Row.at K))
noncomputable def F.pleachref05_Row.B (c0 : (List ByteArray) → (Int) → Option (Int)) (a0 : List ByteArray) : Option (Int) :=
    (c0 a0 0)
theorem F.pleachref05_Row.eq K a0 : F.pleachref05_Row (K + 1) a0 = F.pleachref05_Row.B (F.pleachref05_Row.l1010 K K) a0 := (F.pleachref05_Row.in_main K a0).trans ((show ∀ H, F.pleachref05_Row.in K H [] [] ⟨slots [.sc (.list .str a0 false)] 0, []⟩ = F.pleachref05_Row.B (fun a0 x0 => H [1, 0, 1, 0] [K] (F.pleachref05_Row.l1010.st a0 x0)) a0 from by intro H; kernel_rfl) (F.pleachref05_Row.at K))
noncomputable def V.pleachref05_Row.l1010 (a0 : List ByteArray) (x0 : Int) := lim fun v => F.pleachref05_Row.l1010 (v 0) (v 1) a0 x0
noncomputable def V.pleachref05_Row (a0 : List ByteArray) := lim fun v => F.pleachref05_Row (v 0) a0
theorem V.pleachref05_Row.l1010.of a0 x0 {r} (h : F.pleachref05_Row.l1010.B V.pleachref05_Is V.pleachref05_Row.l1010 a0 x0 = some r) : V.pleachref05_Row.l1010 a0 x0 = some r :=
  App.to (App.step 1 (fun v => F.pleachref05_Row.l1010.eq (v 0) (v 1) a0 x0) (by unfold F.pleachref05_Row.l1010.B; repeat' first | exact App.val | exact App.no | exact App.lim | apply App.cond | apply App.guard | apply App.meet | apply App.ite | refine App.bind ?_ fun _ => ?_)) h
theorem V.pleachref05_Row.of a0 {r} (h : F.pleachref05_Row.B V.pleachref05_Row.l1010 a0 = some r) : V.pleachref05_Row a0 = some r :=
  App.to (App.step 0 (fun v => F.pleachref05_Row.eq (v 0) a0) (by unfold F.pleachref05_Row.B; repeat' first | exact App.val | exact App.no | exact App.lim | exact (App.enter 1 App.lim) | apply App.cond | apply App.guard | apply App.meet | apply App.ite | refine App.bind ?_ fun _ => ?_)) h
noncomputable def F.pleachref06_Is (K : Nat) (a0 : TValue) : Option (Bool) := evFn Try.prog sg K 59 [.agg [.val (.int .i64 a0.1), .val (.int .i64 a0.2.1), .val (.string a0.2.2)]] []
noncomputable def F.pleachref06_Is.B (a0 : TValue) : Option (Bool) :=
    (bif (a0.1 == 1) then (bif (decide (a0.2.1 ≥ 0)) then (bif (decide (a0.2.1 ≤ 1)) then (some (strEq a0.2.2 (⟨#[]⟩ : ByteArray))) else (some false)) else (some false)) else (bif (a0.1 == 2) then (some (strEq a0.2.2 (⟨#[]⟩ : ByteArray))) else (bif (a0.1 == 3) then (bif (a0.2.1 == 0) then (some (decide ((a0.2.2.size : Int) ≤ 64))) else (some false)) else (some false))))
theorem F.pleachref06_Is.eq K a0 : F.pleachref06_Is (K + 1) a0 = F.pleachref06_Is.B a0 := by kernel_rfl
noncomputable def V.pleachref06_Is (a0 : TValue) := lim fun v => F.pleachref06_Is (v 0) a0
theorem V.pleachref06_Is.of a0 {r} (h : F.pleachref06_Is.B a0 = some r) : V.pleachref06_Is a0 = some r :=
  App.to (App.step 0 (fun v => F.pleachref06_Is.eq (v 0) a0) (by unfold F.pleachref06_Is.B; repeat' first | exact App.val | exact App.no | exact App.lim | apply App.cond | apply App.guard | apply App.meet | apply App.ite | refine App.bind ?_ fun _ => ?_)) h
noncomputable def F.pleachref25_Props (K : Nat) (a0 : List TProp) : Option (Int) := evFn Try.prog sg K 17 [.sc (.list sProp a0 false)] []
noncomputable def F.pleachref25_Props.at (K : Nat) (p ns : List Nat) (s : St) : Option (Int) := atFn Try.prog sg K 17 0 p ns s
noncomputable def F.pleachref25_Props.in (K : Nat) (H : List Nat → List Nat → St → Option (Int)) (p ns : List Nat) (s : St) : Option (Int) := inFn Try.prog sg K 17 0 [] H p ns s
theorem F.pleachref25_Props.in_eq K p ns s : F.pleachref25_Props.at K p ns s = F.pleachref25_Props.in K (F.pleachref25_Props.at K) p ns s := atFn_eq (P := Try.prog) (sg := sg) (K := K) (f := 17) (m := 0) [] p ns s
theorem F.pleachref25_Props.in_main K a0 : F.pleachref25_Props (K + 1) a0 = F.pleachref25_Props.in K (F.pleachref25_Props.at K) [] [] ⟨slots [.sc (.list sProp a0 false)] 0, []⟩ := evFn_eq (P := Try.prog) (sg := sg) (K := K) (f := 17) (args := [.sc (.list sProp a0 false)]) (σ := []) [] (by kernel_rfl)
def F.pleachref25_Props.l11010.st (a0 : List TProp) (x0 : Int) : St := ⟨[(0, vL sProp a0), (3, vI x0)], []⟩
noncomputable def F.pleachref25_Props.l11010 (K n0 : Nat) (a0 : List TProp) (x0 : Int) := F.pleachref25_Props.at K [1, 1, 0, 1, 0] [n0] (F.pleachref25_Props.l11010.st a0 x0)
noncomputable def F.pleachref25_Props.l11010.B (c0 : (ByteArray) → Option (Bool)) (c1 : (TValue) → Option (Bool)) (c2 : (List TProp) → (Int) → Option (Int)) (a0 : List TProp) (x0 : Int) : Option (Int) :=
    (bif (decide (x0 < (a0.length : Int))) then (guardK (decide (0 ≤ x0) && decide (x0 < (a0.length : Int))) ((c0 ((rd sProp a0 x0.toNat).1)).bind fun t0 => (bif (!t0) then (some 2) else (guardK (decide (0 ≤ x0) && decide (x0 < (a0.length : Int))) ((c1 (((rd sProp a0 x0.toNat).2).1, (((rd sProp a0 x0.toNat).2).2).1, (((rd sProp a0 x0.toNat).2).2).2)).bind fun t1 => (bif (!t1) then (some 2) else (bif (decide (x0 > 0)) then (guardK (decide (0 ≤ x0) && decide (x0 < (a0.length : Int))) (guardK (decide (0 ≤ (w64 (x0 - 1))) && decide ((w64 (x0 - 1)) < (a0.length : Int))) (bif (strLt ((rd sProp a0 x0.toNat).1) ((rd sProp a0 ((w64 (x0 - 1)).toNat)).1) || strEq ((rd sProp a0 x0.toNat).1) ((rd sProp a0 ((w64 (x0 - 1)).toNat)).1)) then (some 4) else (c2 a0 (w64 (x0 + 1)))))) else (c2 a0 (w64 (x0 + 1)))))))))) else (some 0))
theorem F.pleachref25_Props.l11010.eq K n0 a0 x0 : F.pleachref25_Props.l11010 K (n0 + 1) a0 x0 = F.pleachref25_Props.l11010.B (F.pleachref05_Is K) (F.pleachref06_Is K) (F.pleachref25_Props.l11010 K n0) a0 x0 := (F.pleachref25_Props.in_eq K [1, 1, 0, 1, 0] [n0 + 1] (F.pleachref25_Props.l11010.st a0 x0)).trans ((show ∀ H, F.pleachref25_Props.in K H [1, 1, 0, 1, 0] [n0 + 1] (F.pleachref25_Props.l11010.st a0 x0) = F.pleachref25_Props.l11010.B (F.pleachref05_Is K) (F.pleachref06_Is K) (fun a0 x0 => H [1, 1, 0, 1, 0] [n0] (F.pleachref25_Props.l11010.st a0 x0)) a0 x0 from by intro H; kernel_rfl) (F.pleachref25_Props.at K))
noncomputable def F.pleachref25_Props.B (c0 : (List TProp) → (Int) → Option (Int)) (a0 : List TProp) : Option (Int) :=
    (bif (decide ((a0.length : Int) > 8)) then (some 5) else (c0 a0 0))
theorem F.pleachref25_Props.eq K a0 : F.pleachref25_Props (K + 1) a0 = F.pleachref25_Props.B (F.pleachref25_Props.l11010 K K) a0 := (F.pleachref25_Props.in_main K a0).trans ((show ∀ H, F.pleachref25_Props.in K H [] [] ⟨slots [.sc (.list sProp a0 false)] 0, []⟩ = F.pleachref25_Props.B (fun a0 x0 => H [1, 1, 0, 1, 0] [K] (F.pleachref25_Props.l11010.st a0 x0)) a0 from by intro H; kernel_rfl) (F.pleachref25_Props.at K))
noncomputable def V.pleachref25_Props.l11010 (a0 : List TProp) (x0 : Int) := lim fun v => F.pleachref25_Props.l11010 (v 0) (v 1) a0 x0
noncomputable def V.pleachref25_Props (a0 : List TProp) := lim fun v => F.pleachref25_Props (v 0) a0
theorem V.pleachref25_Props.l11010.of a0 x0 {r} (h : F.pleachref25_Props.l11010.B V.pleachref05_Is V.pleachref06_Is V.pleachref25_Props.l11010 a0 x0 = some r) : V.pleachref25_Props.l11010 a0 x0 = some r :=
  App.to (App.step 1 (fun v => F.pleachref25_Props.l11010.eq (v 0) (v 1) a0 x0) (by unfold F.pleachref25_Props.l11010.B; repeat' first | exact App.val | exact App.no | exact App.lim | apply App.cond | apply App.guard | apply App.meet | apply App.ite | refine App.bind ?_ fun _ => ?_)) h
theorem V.pleachref25_Props.of a0 {r} (h : F.pleachref25_Props.B V.pleachref25_Props.l11010 a0 = some r) : V.pleachref25_Props a0 = some r :=
  App.to (App.step 0 (fun v => F.pleachref25_Props.eq (v 0) a0) (by unfold F.pleachref25_Props.B; repeat' first | exact App.val | exact App.no | exact App.lim | exact (App.enter 1 App.lim) | apply App.cond | apply App.guard | apply App.meet | apply App.ite | refine App.bind ?_ fun _ => ?_)) h
noncomputable def F.pleachref25_rest (K : Nat) (a0 : List ByteArray) (a1 : List TProp) : Option (Int) := evFn Try.prog sg K 55 [.sc (.list .str a0 false), .sc (.list sProp a1 false)] []
noncomputable def F.pleachref25_rest.B (c0 : (List ByteArray) → Option (Int)) (c1 : (List TProp) → Option (Int)) (a0 : List ByteArray) (a1 : List TProp) : Option (Int) :=
    (bif (decide ((a0.length : Int) > 8)) then (some 5) else ((c0 a0).bind fun t0 => (bif (t0 != 0) then (some t0) else ((c1 a1).bind fun t1 => (some t1)))))
theorem F.pleachref25_rest.eq K a0 a1 : F.pleachref25_rest (K + 1) a0 a1 = F.pleachref25_rest.B (F.pleachref05_Row K) (F.pleachref25_Props K) a0 a1 := by kernel_rfl
noncomputable def V.pleachref25_rest (a0 : List ByteArray) (a1 : List TProp) := lim fun v => F.pleachref25_rest (v 0) a0 a1
theorem V.pleachref25_rest.of a0 a1 {r} (h : F.pleachref25_rest.B V.pleachref05_Row V.pleachref25_Props a0 a1 = some r) : V.pleachref25_rest a0 a1 = some r :=
  App.to (App.step 0 (fun v => F.pleachref25_rest.eq (v 0) a0 a1) (by unfold F.pleachref25_rest.B; repeat' first | exact App.val | exact App.no | exact App.lim | apply App.cond | apply App.guard | apply App.meet | apply App.ite | refine App.bind ?_ fun _ => ?_)) h
noncomputable def F.pleachref25_Node (K : Nat) (a0 : TNode) : Option (Int) := evFn Try.prog sg K 14 [.agg [.val (.string a0.1), .list .str a0.2.1 false, .list sProp a0.2.2 false]] []
noncomputable def F.pleachref25_Node.B (c0 : (ByteArray) → Option (Bool)) (c1 : (List ByteArray) → (List TProp) → Option (Int)) (a0 : TNode) : Option (Int) :=
    ((c0 a0.1).bind fun t0 => (bif (!t0) then (some 2) else ((c1 a0.2.1 a0.2.2).bind fun t1 => (some t1))))
theorem F.pleachref25_Node.eq K a0 : F.pleachref25_Node (K + 1) a0 = F.pleachref25_Node.B (F.pleachref05_Is K) (F.pleachref25_rest K) a0 := by kernel_rfl
noncomputable def V.pleachref25_Node (a0 : TNode) := lim fun v => F.pleachref25_Node (v 0) a0
theorem V.pleachref25_Node.of a0 {r} (h : F.pleachref25_Node.B V.pleachref05_Is V.pleachref25_rest a0 = some r) : V.pleachref25_Node a0 = some r :=
  App.to (App.step 0 (fun v => F.pleachref25_Node.eq (v 0) a0) (by unfold F.pleachref25_Node.B; repeat' first | exact App.val | exact App.no | exact App.lim | apply App.cond | apply App.guard | apply App.meet | apply App.ite | refine App.bind ?_ fun _ => ?_)) h
noncomputable def F.pleachref01_Digits (K : Nat) (a0 : Int) : Option ((List Int)) := evFn Try.prog sg K 108 [.sc (.val (.int .u64 a0))] []
noncomputable def F.pleachref01_Digits.at (K : Nat) (p ns : List Nat) (s : St) : Option ((List Int)) := atFn Try.prog sg K 108 0 p ns s
noncomputable def F.pleachref01_Digits.in (K : Nat) (H : List Nat → List Nat → St → Option ((List Int))) (p ns : List Nat) (s : St) : Option ((List Int)) := inFn Try.prog sg K 108 0 [] H p ns s
theorem F.pleachref01_Digits.in_eq K p ns s : F.pleachref01_Digits.at K p ns s = F.pleachref01_Digits.in K (F.pleachref01_Digits.at K) p ns s := atFn_eq (P := Try.prog) (sg := sg) (K := K) (f := 108) (m := 0) [] p ns s
theorem F.pleachref01_Digits.in_main K a0 : F.pleachref01_Digits (K + 1) a0 = F.pleachref01_Digits.in K (F.pleachref01_Digits.at K) [] [] ⟨slots [.sc (.val (.int .u64 a0))] 0, []⟩ := evFn_eq (P := Try.prog) (sg := sg) (K := K) (f := 108) (args := [.sc (.val (.int .u64 a0))]) (σ := []) [] (by kernel_rfl)
def F.pleachref01_Digits.l11100.st (a0 : Int) (x0 : Int) (x1 : List Int) : St := ⟨[(0, .one (.sc (.val (.int .u64 x0)))), (3, .one (.sc (.own 0 none)))], [.elems (.int .i64) x1]⟩
noncomputable def F.pleachref01_Digits.l11100 (K n0 : Nat) (a0 : Int) (x0 : Int) (x1 : List Int) := F.pleachref01_Digits.at K [1, 1, 1, 0, 0] [n0] (F.pleachref01_Digits.l11100.st a0 x0 x1)
noncomputable def F.pleachref01_Digits.l11100.B (c0 : (Int) → (Int) → (List Int) → Option ((List Int))) (a0 : Int) (x0 : Int) (x1 : List Int) : Option ((List Int)) :=
    (bif (decide (x0 > 0)) then (guardK (decide (x1.length + ([(w64 (Int.tmod x0 128))]).length ≤ nmax)) (c0 a0 (IntKind.wrap .u64 (Int.tdiv x0 128)) (x1 ++ [(w64 (Int.tmod x0 128))]))) else (some x1))
theorem F.pleachref01_Digits.l11100.eq K n0 a0 x0 x1 : F.pleachref01_Digits.l11100 K (n0 + 1) a0 x0 x1 = F.pleachref01_Digits.l11100.B (F.pleachref01_Digits.l11100 K n0) a0 x0 x1 := (F.pleachref01_Digits.in_eq K [1, 1, 1, 0, 0] [n0 + 1] (F.pleachref01_Digits.l11100.st a0 x0 x1)).trans ((show ∀ H, F.pleachref01_Digits.in K H [1, 1, 1, 0, 0] [n0 + 1] (F.pleachref01_Digits.l11100.st a0 x0 x1) = F.pleachref01_Digits.l11100.B (fun a0 x0 x1 => H [1, 1, 1, 0, 0] [n0] (F.pleachref01_Digits.l11100.st a0 x0 x1)) a0 x0 x1 from by intro H; kernel_rfl) (F.pleachref01_Digits.at K))
noncomputable def F.pleachref01_Digits.B (c0 : (Int) → (Int) → (List Int) → Option ((List Int))) (a0 : Int) : Option ((List Int)) :=
    (c0 a0 (IntKind.wrap .u64 (Int.tdiv a0 128)) ([(w64 (Int.tmod a0 128))]))
theorem F.pleachref01_Digits.eq K a0 : F.pleachref01_Digits (K + 1) a0 = F.pleachref01_Digits.B (F.pleachref01_Digits.l11100 K K) a0 := (F.pleachref01_Digits.in_main K a0).trans ((show ∀ H, F.pleachref01_Digits.in K H [] [] ⟨slots [.sc (.val (.int .u64 a0))] 0, []⟩ = F.pleachref01_Digits.B (fun a0 x0 x1 => H [1, 1, 1, 0, 0] [K] (F.pleachref01_Digits.l11100.st a0 x0 x1)) a0 from by intro H; kernel_rfl) (F.pleachref01_Digits.at K))
noncomputable def V.pleachref01_Digits.l11100 (a0 : Int) (x0 : Int) (x1 : List Int) := lim fun v => F.pleachref01_Digits.l11100 (v 0) (v 1) a0 x0 x1
noncomputable def V.pleachref01_Digits (a0 : Int) := lim fun v => F.pleachref01_Digits (v 0) a0
theorem V.pleachref01_Digits.l11100.of a0 x0 x1 {r} (h : F.pleachref01_Digits.l11100.B V.pleachref01_Digits.l11100 a0 x0 x1 = some r) : V.pleachref01_Digits.l11100 a0 x0 x1 = some r :=
  App.to (App.step 1 (fun v => F.pleachref01_Digits.l11100.eq (v 0) (v 1) a0 x0 x1) (by unfold F.pleachref01_Digits.l11100.B; repeat' first | exact App.val | exact App.no | exact App.lim | apply App.cond | apply App.guard | apply App.meet | apply App.ite | refine App.bind ?_ fun _ => ?_)) h
theorem V.pleachref01_Digits.of a0 {r} (h : F.pleachref01_Digits.B V.pleachref01_Digits.l11100 a0 = some r) : V.pleachref01_Digits a0 = some r :=
  App.to (App.step 0 (fun v => F.pleachref01_Digits.eq (v 0) a0) (by unfold F.pleachref01_Digits.B; repeat' first | exact App.val | exact App.no | exact App.lim | exact (App.enter 1 App.lim) | apply App.cond | apply App.guard | apply App.meet | apply App.ite | refine App.bind ?_ fun _ => ?_)) h
noncomputable def F.pleachref01_Put (K : Nat) (a0 : Int) : Option (ByteArray) := evFn Try.prog sg K 87 [.sc (.val (.int .u64 a0))] []
noncomputable def F.pleachref01_Put.at (K : Nat) (p ns : List Nat) (s : St) : Option (ByteArray) := atFn Try.prog sg K 87 0 p ns s
noncomputable def F.pleachref01_Put.in (K : Nat) (H : List Nat → List Nat → St → Option (ByteArray)) (p ns : List Nat) (s : St) : Option (ByteArray) := inFn Try.prog sg K 87 0 [] H p ns s
theorem F.pleachref01_Put.in_eq K p ns s : F.pleachref01_Put.at K p ns s = F.pleachref01_Put.in K (F.pleachref01_Put.at K) p ns s := atFn_eq (P := Try.prog) (sg := sg) (K := K) (f := 87) (m := 0) [] p ns s
theorem F.pleachref01_Put.in_main K a0 : F.pleachref01_Put (K + 1) a0 = F.pleachref01_Put.in K (F.pleachref01_Put.at K) [] [] ⟨slots [.sc (.val (.int .u64 a0))] 0, []⟩ := evFn_eq (P := Try.prog) (sg := sg) (K := K) (f := 87) (args := [.sc (.val (.int .u64 a0))]) (σ := []) [] (by kernel_rfl)
def F.pleachref01_Put.l111010.st (a0 : Int) (x0 : ByteArray) (x1 : Int) (x2 : List Int) : St := ⟨[(3, .one (.sc (.own 0 none))), (4, vS x0), (5, vI x1)], [.elems (.int .i64) x2]⟩
noncomputable def F.pleachref01_Put.l111010 (K n0 : Nat) (a0 : Int) (x0 : ByteArray) (x1 : Int) (x2 : List Int) := F.pleachref01_Put.at K [1, 1, 1, 0, 1, 0] [n0] (F.pleachref01_Put.l111010.st a0 x0 x1 x2)
noncomputable def F.pleachref01_Put.l111010.B (c0 : (Int) → (ByteArray) → (Int) → (List Int) → Option (ByteArray)) (a0 : Int) (x0 : ByteArray) (x1 : Int) (x2 : List Int) : Option (ByteArray) :=
    (bif (decide (x1 < (x2.length : Int))) then (guardK (decide (0 ≤ x1) && decide (x1 < (x2.length : Int))) (bif (decide ((w64 (x1 + 1)) < (x2.length : Int))) then (guardK (decide (x0.size + (bytesOf ([(IntKind.wrap .u8 (w64 ((rd (.int .i64) x2 x1.toNat) + 128)))])).size ≤ i64max)) (c0 a0 (x0 ++ (bytesOf ([(IntKind.wrap .u8 (w64 ((rd (.int .i64) x2 x1.toNat) + 128)))]))) (w64 (x1 + 1)) x2)) else (guardK (decide (x0.size + (bytesOf ([(IntKind.wrap .u8 (rd (.int .i64) x2 x1.toNat))])).size ≤ i64max)) (c0 a0 (x0 ++ (bytesOf ([(IntKind.wrap .u8 (rd (.int .i64) x2 x1.toNat))]))) (w64 (x1 + 1)) x2)))) else (some x0))
theorem F.pleachref01_Put.l111010.eq K n0 a0 x0 x1 x2 : F.pleachref01_Put.l111010 K (n0 + 1) a0 x0 x1 x2 = F.pleachref01_Put.l111010.B (F.pleachref01_Put.l111010 K n0) a0 x0 x1 x2 := (F.pleachref01_Put.in_eq K [1, 1, 1, 0, 1, 0] [n0 + 1] (F.pleachref01_Put.l111010.st a0 x0 x1 x2)).trans ((show ∀ H, F.pleachref01_Put.in K H [1, 1, 1, 0, 1, 0] [n0 + 1] (F.pleachref01_Put.l111010.st a0 x0 x1 x2) = F.pleachref01_Put.l111010.B (fun a0 x0 x1 x2 => H [1, 1, 1, 0, 1, 0] [n0] (F.pleachref01_Put.l111010.st a0 x0 x1 x2)) a0 x0 x1 x2 from by intro H; kernel_rfl) (F.pleachref01_Put.at K))
noncomputable def F.pleachref01_Put.B (c0 : (Int) → Option ((List Int))) (c1 : (Int) → (ByteArray) → (Int) → (List Int) → Option (ByteArray)) (a0 : Int) : Option (ByteArray) :=
    ((c0 a0).bind fun t0 => (c1 a0 (⟨#[]⟩ : ByteArray) 0 t0))
theorem F.pleachref01_Put.eq K a0 : F.pleachref01_Put (K + 1) a0 = F.pleachref01_Put.B (F.pleachref01_Digits K) (F.pleachref01_Put.l111010 K K) a0 := (F.pleachref01_Put.in_main K a0).trans ((show ∀ H, F.pleachref01_Put.in K H [] [] ⟨slots [.sc (.val (.int .u64 a0))] 0, []⟩ = F.pleachref01_Put.B (F.pleachref01_Digits K) (fun a0 x0 x1 x2 => H [1, 1, 1, 0, 1, 0] [K] (F.pleachref01_Put.l111010.st a0 x0 x1 x2)) a0 from by intro H; kernel_rfl) (F.pleachref01_Put.at K))
noncomputable def V.pleachref01_Put.l111010 (a0 : Int) (x0 : ByteArray) (x1 : Int) (x2 : List Int) := lim fun v => F.pleachref01_Put.l111010 (v 0) (v 1) a0 x0 x1 x2
noncomputable def V.pleachref01_Put (a0 : Int) := lim fun v => F.pleachref01_Put (v 0) a0
theorem V.pleachref01_Put.l111010.of a0 x0 x1 x2 {r} (h : F.pleachref01_Put.l111010.B V.pleachref01_Put.l111010 a0 x0 x1 x2 = some r) : V.pleachref01_Put.l111010 a0 x0 x1 x2 = some r :=
  App.to (App.step 1 (fun v => F.pleachref01_Put.l111010.eq (v 0) (v 1) a0 x0 x1 x2) (by unfold F.pleachref01_Put.l111010.B; repeat' first | exact App.val | exact App.no | exact App.lim | apply App.cond | apply App.guard | apply App.meet | apply App.ite | refine App.bind ?_ fun _ => ?_)) h
theorem V.pleachref01_Put.of a0 {r} (h : F.pleachref01_Put.B V.pleachref01_Digits V.pleachref01_Put.l111010 a0 = some r) : V.pleachref01_Put a0 = some r :=
  App.to (App.step 0 (fun v => F.pleachref01_Put.eq (v 0) a0) (by unfold F.pleachref01_Put.B; repeat' first | exact App.val | exact App.no | exact App.lim | exact (App.enter 1 App.lim) | apply App.cond | apply App.guard | apply App.meet | apply App.ite | refine App.bind ?_ fun _ => ?_)) h
noncomputable def F.pleachref04_PutNum (K : Nat) (a0 : Int) : Option (ByteArray) := evFn Try.prog sg K 81 [.sc (.val (.int .i64 a0))] []
noncomputable def F.pleachref04_PutNum.B (c0 : (Int) → Option (ByteArray)) (a0 : Int) : Option (ByteArray) :=
    (bif (decide (a0 < 0)) then ((c0 0).bind fun t0 => (some t0)) else ((c0 (IntKind.wrap .u64 a0)).bind fun t1 => (some t1)))
theorem F.pleachref04_PutNum.eq K a0 : F.pleachref04_PutNum (K + 1) a0 = F.pleachref04_PutNum.B (F.pleachref01_Put K) a0 := by kernel_rfl
noncomputable def V.pleachref04_PutNum (a0 : Int) := lim fun v => F.pleachref04_PutNum (v 0) a0
theorem V.pleachref04_PutNum.of a0 {r} (h : F.pleachref04_PutNum.B V.pleachref01_Put a0 = some r) : V.pleachref04_PutNum a0 = some r :=
  App.to (App.step 0 (fun v => F.pleachref04_PutNum.eq (v 0) a0) (by unfold F.pleachref04_PutNum.B; repeat' first | exact App.val | exact App.no | exact App.lim | apply App.cond | apply App.guard | apply App.meet | apply App.ite | refine App.bind ?_ fun _ => ?_)) h
noncomputable def F.pleachref04_PutText (K : Nat) (a0 : ByteArray) : Option (ByteArray) := evFn Try.prog sg K 61 [.sc (.val (.string a0))] []
noncomputable def F.pleachref04_PutText.B (c0 : (Int) → Option (ByteArray)) (a0 : ByteArray) : Option (ByteArray) :=
    ((c0 (IntKind.wrap .u64 (a0.size : Int))).bind fun t0 => (guardK (decide (t0.size + a0.size ≤ i64max)) (some (t0 ++ a0))))
theorem F.pleachref04_PutText.eq K a0 : F.pleachref04_PutText (K + 1) a0 = F.pleachref04_PutText.B (F.pleachref01_Put K) a0 := by kernel_rfl
noncomputable def V.pleachref04_PutText (a0 : ByteArray) := lim fun v => F.pleachref04_PutText (v 0) a0
theorem V.pleachref04_PutText.of a0 {r} (h : F.pleachref04_PutText.B V.pleachref01_Put a0 = some r) : V.pleachref04_PutText a0 = some r :=
  App.to (App.step 0 (fun v => F.pleachref04_PutText.eq (v 0) a0) (by unfold F.pleachref04_PutText.B; repeat' first | exact App.val | exact App.no | exact App.lim | apply App.cond | apply App.guard | apply App.meet | apply App.ite | refine App.bind ?_ fun _ => ?_)) h
noncomputable def F.pleachref01_Zig (K : Nat) (a0 : Int) : Option (Int) := evFn Try.prog sg K 107 [.sc (.val (.int .i64 a0))] []
noncomputable def F.pleachref01_Zig.B (a0 : Int) : Option (Int) :=
    (bif (decide (a0 ≥ 0)) then (some (IntKind.wrap .u64 ((IntKind.wrap .u64 a0) * 2))) else (some (IntKind.wrap .u64 ((IntKind.wrap .u64 ((IntKind.wrap .u64 (w64 (0 - (w64 (a0 + 1))))) * 2)) + 1))))
theorem F.pleachref01_Zig.eq K a0 : F.pleachref01_Zig (K + 1) a0 = F.pleachref01_Zig.B a0 := by kernel_rfl
noncomputable def V.pleachref01_Zig (a0 : Int) := lim fun v => F.pleachref01_Zig (v 0) a0
theorem V.pleachref01_Zig.of a0 {r} (h : F.pleachref01_Zig.B a0 = some r) : V.pleachref01_Zig a0 = some r :=
  App.to (App.step 0 (fun v => F.pleachref01_Zig.eq (v 0) a0) (by unfold F.pleachref01_Zig.B; repeat' first | exact App.val | exact App.no | exact App.lim | apply App.cond | apply App.guard | apply App.meet | apply App.ite | refine App.bind ?_ fun _ => ?_)) h
noncomputable def F.pleachref06_Put (K : Nat) (a0 : TValue) : Option (ByteArray) := evFn Try.prog sg K 82 [.agg [.val (.int .i64 a0.1), .val (.int .i64 a0.2.1), .val (.string a0.2.2)]] []
noncomputable def F.pleachref06_Put.B (c0 : (TValue) → Option (Bool)) (c1 : (Int) → Option (Int)) (c2 : (Int) → Option (ByteArray)) (c3 : (ByteArray) → Option (ByteArray)) (a0 : TValue) : Option (ByteArray) :=
    ((c0 (a0.1, a0.2.1, a0.2.2)).bind fun t0 => (bif (!t0) then (some (⟨#[]⟩ : ByteArray)) else (bif (a0.1 == 1) then (some (bytesOf ([1, (IntKind.wrap .u8 a0.2.1)]))) else (bif (a0.1 == 2) then ((c1 a0.2.1).bind fun t1 => ((c2 t1).bind fun t2 => (guardK (decide ((⟨#[2]⟩ : ByteArray).size + t2.size ≤ i64max)) (some ((⟨#[2]⟩ : ByteArray) ++ t2))))) else ((c3 a0.2.2).bind fun t3 => (guardK (decide ((⟨#[3]⟩ : ByteArray).size + t3.size ≤ i64max)) (some ((⟨#[3]⟩ : ByteArray) ++ t3))))))))
theorem F.pleachref06_Put.eq K a0 : F.pleachref06_Put (K + 1) a0 = F.pleachref06_Put.B (F.pleachref06_Is K) (F.pleachref01_Zig K) (F.pleachref01_Put K) (F.pleachref04_PutText K) a0 := by kernel_rfl
noncomputable def V.pleachref06_Put (a0 : TValue) := lim fun v => F.pleachref06_Put (v 0) a0
theorem V.pleachref06_Put.of a0 {r} (h : F.pleachref06_Put.B V.pleachref06_Is V.pleachref01_Zig V.pleachref01_Put V.pleachref04_PutText a0 = some r) : V.pleachref06_Put a0 = some r :=
  App.to (App.step 0 (fun v => F.pleachref06_Put.eq (v 0) a0) (by unfold F.pleachref06_Put.B; repeat' first | exact App.val | exact App.no | exact App.lim | apply App.cond | apply App.guard | apply App.meet | apply App.ite | refine App.bind ?_ fun _ => ?_)) h
noncomputable def F.pleachref25_put (K : Nat) (a0 : List ByteArray) (a1 : List TProp) : Option (ByteArray) := evFn Try.prog sg K 53 [.sc (.list .str a0 false), .sc (.list sProp a1 false)] []
noncomputable def F.pleachref25_put.at (K : Nat) (p ns : List Nat) (s : St) : Option (ByteArray) := atFn Try.prog sg K 53 0 p ns s
noncomputable def F.pleachref25_put.in (K : Nat) (H : List Nat → List Nat → St → Option (ByteArray)) (p ns : List Nat) (s : St) : Option (ByteArray) := inFn Try.prog sg K 53 0 [] H p ns s
theorem F.pleachref25_put.in_eq K p ns s : F.pleachref25_put.at K p ns s = F.pleachref25_put.in K (F.pleachref25_put.at K) p ns s := atFn_eq (P := Try.prog) (sg := sg) (K := K) (f := 53) (m := 0) [] p ns s
theorem F.pleachref25_put.in_main K a0 a1 : F.pleachref25_put (K + 1) a0 a1 = F.pleachref25_put.in K (F.pleachref25_put.at K) [] [] ⟨slots [.sc (.list .str a0 false), .sc (.list sProp a1 false)] 0, []⟩ := evFn_eq (P := Try.prog) (sg := sg) (K := K) (f := 53) (args := [.sc (.list .str a0 false), .sc (.list sProp a1 false)]) (σ := []) [] (by kernel_rfl)
def F.pleachref25_put.l11010.st (a0 : List ByteArray) (a1 : List TProp) (x0 : ByteArray) (x1 : Int) : St := ⟨[(0, vL .str a0), (1, vL sProp a1), (5, vS x0), (6, vI x1)], []⟩
noncomputable def F.pleachref25_put.l11010 (K n0 : Nat) (a0 : List ByteArray) (a1 : List TProp) (x0 : ByteArray) (x1 : Int) := F.pleachref25_put.at K [1, 1, 0, 1, 0] [n0] (F.pleachref25_put.l11010.st a0 a1 x0 x1)
def F.pleachref25_put.l1111010.st (a0 : List ByteArray) (a1 : List TProp) (x0 : ByteArray) (x1 : Int) : St := ⟨[(1, vL sProp a1), (5, vS x0), (7, vI x1)], []⟩
noncomputable def F.pleachref25_put.l1111010 (K n0 : Nat) (a0 : List ByteArray) (a1 : List TProp) (x0 : ByteArray) (x1 : Int) := F.pleachref25_put.at K [1, 1, 1, 1, 0, 1, 0] [n0] (F.pleachref25_put.l1111010.st a0 a1 x0 x1)
noncomputable def F.pleachref25_put.l11010.B (c0 : (ByteArray) → Option (ByteArray)) (c1 : (List ByteArray) → (List TProp) → (ByteArray) → (Int) → Option (ByteArray)) (c2 : (Int) → Option (ByteArray)) (c3 : (List ByteArray) → (List TProp) → (ByteArray) → (Int) → Option (ByteArray)) (a0 : List ByteArray) (a1 : List TProp) (x0 : ByteArray) (x1 : Int) : Option (ByteArray) :=
    (bif (decide (x1 < (a0.length : Int))) then (guardK (decide (0 ≤ x1) && decide (x1 < (a0.length : Int))) ((c0 (rd .str a0 x1.toNat)).bind fun t1 => (guardK (decide (x0.size + t1.size ≤ i64max)) (c1 a0 a1 (x0 ++ t1) (w64 (x1 + 1)))))) else ((c2 (a1.length : Int)).bind fun t2 => (guardK (decide (x0.size + t2.size ≤ i64max)) (c3 a0 a1 (x0 ++ t2) 0))))
theorem F.pleachref25_put.l11010.eq K n0 a0 a1 x0 x1 : F.pleachref25_put.l11010 K (n0 + 1) a0 a1 x0 x1 = F.pleachref25_put.l11010.B (F.pleachref04_PutText K) (F.pleachref25_put.l11010 K n0) (F.pleachref04_PutNum K) (F.pleachref25_put.l1111010 K K) a0 a1 x0 x1 := (F.pleachref25_put.in_eq K [1, 1, 0, 1, 0] [n0 + 1] (F.pleachref25_put.l11010.st a0 a1 x0 x1)).trans ((show ∀ H, F.pleachref25_put.in K H [1, 1, 0, 1, 0] [n0 + 1] (F.pleachref25_put.l11010.st a0 a1 x0 x1) = F.pleachref25_put.l11010.B (F.pleachref04_PutText K) (fun a0 a1 x0 x1 => H [1, 1, 0, 1, 0] [n0] (F.pleachref25_put.l11010.st a0 a1 x0 x1)) (F.pleachref04_PutNum K) (fun a0 a1 x0 x1 => H [1, 1, 1, 1, 0, 1, 0] [K] (F.pleachref25_put.l1111010.st a0 a1 x0 x1)) a0 a1 x0 x1 from by intro H; kernel_rfl) (F.pleachref25_put.at K))
noncomputable def F.pleachref25_put.l1111010.B (c0 : (ByteArray) → Option (ByteArray)) (c1 : (TValue) → Option (ByteArray)) (c2 : (List ByteArray) → (List TProp) → (ByteArray) → (Int) → Option (ByteArray)) (a0 : List ByteArray) (a1 : List TProp) (x0 : ByteArray) (x1 : Int) : Option (ByteArray) :=
    (bif (decide (x1 < (a1.length : Int))) then (guardK (decide (0 ≤ x1) && decide (x1 < (a1.length : Int))) (guardK (decide (0 ≤ x1) && decide (x1 < (a1.length : Int))) ((c0 ((rd sProp a1 x1.toNat).1)).bind fun t3 => (guardK (decide (x0.size + t3.size ≤ i64max)) ((c1 (((rd sProp a1 x1.toNat).2).1, (((rd sProp a1 x1.toNat).2).2).1, (((rd sProp a1 x1.toNat).2).2).2)).bind fun t4 => (guardK (decide ((x0 ++ t3).size + t4.size ≤ i64max)) (c2 a0 a1 ((x0 ++ t3) ++ t4) (w64 (x1 + 1))))))))) else (some x0))
theorem F.pleachref25_put.l1111010.eq K n0 a0 a1 x0 x1 : F.pleachref25_put.l1111010 K (n0 + 1) a0 a1 x0 x1 = F.pleachref25_put.l1111010.B (F.pleachref04_PutText K) (F.pleachref06_Put K) (F.pleachref25_put.l1111010 K n0) a0 a1 x0 x1 := (F.pleachref25_put.in_eq K [1, 1, 1, 1, 0, 1, 0] [n0 + 1] (F.pleachref25_put.l1111010.st a0 a1 x0 x1)).trans ((show ∀ H, F.pleachref25_put.in K H [1, 1, 1, 1, 0, 1, 0] [n0 + 1] (F.pleachref25_put.l1111010.st a0 a1 x0 x1) = F.pleachref25_put.l1111010.B (F.pleachref04_PutText K) (F.pleachref06_Put K) (fun a0 a1 x0 x1 => H [1, 1, 1, 1, 0, 1, 0] [n0] (F.pleachref25_put.l1111010.st a0 a1 x0 x1)) a0 a1 x0 x1 from by intro H; kernel_rfl) (F.pleachref25_put.at K))
noncomputable def F.pleachref25_put.B (c0 : (Int) → Option (ByteArray)) (c1 : (List ByteArray) → (List TProp) → (ByteArray) → (Int) → Option (ByteArray)) (a0 : List ByteArray) (a1 : List TProp) : Option (ByteArray) :=
    ((c0 (a0.length : Int)).bind fun t0 => (c1 a0 a1 t0 0))
theorem F.pleachref25_put.eq K a0 a1 : F.pleachref25_put (K + 1) a0 a1 = F.pleachref25_put.B (F.pleachref04_PutNum K) (F.pleachref25_put.l11010 K K) a0 a1 := (F.pleachref25_put.in_main K a0 a1).trans ((show ∀ H, F.pleachref25_put.in K H [] [] ⟨slots [.sc (.list .str a0 false), .sc (.list sProp a1 false)] 0, []⟩ = F.pleachref25_put.B (F.pleachref04_PutNum K) (fun a0 a1 x0 x1 => H [1, 1, 0, 1, 0] [K] (F.pleachref25_put.l11010.st a0 a1 x0 x1)) a0 a1 from by intro H; kernel_rfl) (F.pleachref25_put.at K))
noncomputable def V.pleachref25_put.l11010 (a0 : List ByteArray) (a1 : List TProp) (x0 : ByteArray) (x1 : Int) := lim fun v => F.pleachref25_put.l11010 (v 0) (v 1) a0 a1 x0 x1
noncomputable def V.pleachref25_put.l1111010 (a0 : List ByteArray) (a1 : List TProp) (x0 : ByteArray) (x1 : Int) := lim fun v => F.pleachref25_put.l1111010 (v 0) (v 1) a0 a1 x0 x1
noncomputable def V.pleachref25_put (a0 : List ByteArray) (a1 : List TProp) := lim fun v => F.pleachref25_put (v 0) a0 a1
theorem V.pleachref25_put.l11010.of a0 a1 x0 x1 {r} (h : F.pleachref25_put.l11010.B V.pleachref04_PutText V.pleachref25_put.l11010 V.pleachref04_PutNum V.pleachref25_put.l1111010 a0 a1 x0 x1 = some r) : V.pleachref25_put.l11010 a0 a1 x0 x1 = some r :=
  App.to (App.step 1 (fun v => F.pleachref25_put.l11010.eq (v 0) (v 1) a0 a1 x0 x1) (by unfold F.pleachref25_put.l11010.B; repeat' first | exact App.val | exact App.no | exact App.lim | exact (App.enter 1 App.lim) | apply App.cond | apply App.guard | apply App.meet | apply App.ite | refine App.bind ?_ fun _ => ?_)) h
theorem V.pleachref25_put.l1111010.of a0 a1 x0 x1 {r} (h : F.pleachref25_put.l1111010.B V.pleachref04_PutText V.pleachref06_Put V.pleachref25_put.l1111010 a0 a1 x0 x1 = some r) : V.pleachref25_put.l1111010 a0 a1 x0 x1 = some r :=
  App.to (App.step 1 (fun v => F.pleachref25_put.l1111010.eq (v 0) (v 1) a0 a1 x0 x1) (by unfold F.pleachref25_put.l1111010.B; repeat' first | exact App.val | exact App.no | exact App.lim | apply App.cond | apply App.guard | apply App.meet | apply App.ite | refine App.bind ?_ fun _ => ?_)) h
theorem V.pleachref25_put.of a0 a1 {r} (h : F.pleachref25_put.B V.pleachref04_PutNum V.pleachref25_put.l11010 a0 a1 = some r) : V.pleachref25_put a0 a1 = some r :=
  App.to (App.step 0 (fun v => F.pleachref25_put.eq (v 0) a0 a1) (by unfold F.pleachref25_put.B; repeat' first | exact App.val | exact App.no | exact App.lim | exact (App.enter 1 App.lim) | apply App.cond | apply App.guard | apply App.meet | apply App.ite | refine App.bind ?_ fun _ => ?_)) h
noncomputable def F.pleachref25_PutNode (K : Nat) (a0 : TNode) : Option (ByteArray) := evFn Try.prog sg K 13 [.agg [.val (.string a0.1), .list .str a0.2.1 false, .list sProp a0.2.2 false]] []
noncomputable def F.pleachref25_PutNode.B (c0 : (TNode) → Option (Int)) (c1 : (List ByteArray) → (List TProp) → Option (ByteArray)) (a0 : TNode) : Option (ByteArray) :=
    ((c0 (a0.1, a0.2.1, a0.2.2)).bind fun t0 => (bif (t0 != 0) then (some (⟨#[]⟩ : ByteArray)) else ((c1 a0.2.1 a0.2.2).bind fun t1 => (some t1))))
theorem F.pleachref25_PutNode.eq K a0 : F.pleachref25_PutNode (K + 1) a0 = F.pleachref25_PutNode.B (F.pleachref25_Node K) (F.pleachref25_put K) a0 := by kernel_rfl
noncomputable def V.pleachref25_PutNode (a0 : TNode) := lim fun v => F.pleachref25_PutNode (v 0) a0
theorem V.pleachref25_PutNode.of a0 {r} (h : F.pleachref25_PutNode.B V.pleachref25_Node V.pleachref25_put a0 = some r) : V.pleachref25_PutNode a0 = some r :=
  App.to (App.step 0 (fun v => F.pleachref25_PutNode.eq (v 0) a0) (by unfold F.pleachref25_PutNode.B; repeat' first | exact App.val | exact App.no | exact App.lim | apply App.cond | apply App.guard | apply App.meet | apply App.ite | refine App.bind ?_ fun _ => ?_)) h
noncomputable def F.pleachlaw25_ElemNodes (K : Nat) (a0 : TNode) : Option (Bool) := evFn Try.prog sg K 3 [.agg [.val (.string a0.1), .list .str a0.2.1 false, .list sProp a0.2.2 false]] []
noncomputable def F.pleachlaw25_ElemNodes.B (c0 : Option (Bool)) (c1 : (List ByteArray) → (List TProp) → Option (Bool)) (c2 : (TNode) → Option (ByteArray × Int)) (c3 : (TNode) → Option (ByteArray)) (c4 : (TNode) → Option (Int)) (c5 : (TNode) → Option (Int)) (c6 : (List TProp) → Option (Int)) (c7 : (List TProp) → Option (Int)) (a0 : TNode) : Option (Bool) :=
    (bif (decide ((a0.1.size : Int) > 100)) then ((c0).bind fun t0 => (some t0)) else ((c1 a0.2.1 a0.2.2).bind fun t1 => (bif (!t1) then ((c0).bind fun t2 => (some t2)) else ((c2 (a0.1, a0.2.1, a0.2.2)).bind fun t3 => ((c3 (a0.1, a0.2.1, a0.2.2)).bind fun t4 => (bif (strEq t3.1 t4) then ((c4 (a0.1, a0.2.1, a0.2.2)).bind fun t5 => (bif (t3.2 == t5) then ((c5 (a0.1, a0.2.1, a0.2.2)).bind fun t6 => (bif (t6 == t3.2) then ((c6 a0.2.2).bind fun t7 => ((c7 a0.2.2).bind fun t8 => (bif (t7 == t8) then ((c0).bind fun t9 => (some t9)) else (some false)))) else (some false))) else (some false))) else (some false)))))))
theorem F.pleachlaw25_ElemNodes.eq K a0 : F.pleachlaw25_ElemNodes (K + 1) a0 = F.pleachlaw25_ElemNodes.B (F.pleachlaw25_awake K) (F.pleachlaw25_few K) (F.elem_PutNode K) (F.pleachref25_PutNode K) (F.pleachref25_Node K) (F.elem_CheckNode K) (F.elem_CheckProps K) (F.pleachref25_Props K) a0 := by kernel_rfl
noncomputable def V.pleachlaw25_ElemNodes (a0 : TNode) := lim fun v => F.pleachlaw25_ElemNodes (v 0) a0
theorem V.pleachlaw25_ElemNodes.of a0 {r} (h : F.pleachlaw25_ElemNodes.B V.pleachlaw25_awake V.pleachlaw25_few V.elem_PutNode V.pleachref25_PutNode V.pleachref25_Node V.elem_CheckNode V.elem_CheckProps V.pleachref25_Props a0 = some r) : V.pleachlaw25_ElemNodes a0 = some r :=
  App.to (App.step 0 (fun v => F.pleachlaw25_ElemNodes.eq (v 0) a0) (by unfold F.pleachlaw25_ElemNodes.B; repeat' first | exact App.val | exact App.no | exact App.lim | apply App.cond | apply App.guard | apply App.meet | apply App.ite | refine App.bind ?_ fun _ => ?_)) h
noncomputable def F.elem_CheckEdge (K : Nat) (a0 : TEdge) : Option (Int) := evFn Try.prog sg K 21 [.agg [.val (.string a0.1), .val (.string a0.2.1), .val (.string a0.2.2.1), .list .str a0.2.2.2.1 false, .list sProp a0.2.2.2.2 false]] []
noncomputable def F.elem_CheckEdge.at (K : Nat) (p ns : List Nat) (s : St) : Option (Int) := atFn Try.prog sg K 21 0 p ns s
noncomputable def F.elem_CheckEdge.in (K : Nat) (H : List Nat → List Nat → St → Option (Int)) (p ns : List Nat) (s : St) : Option (Int) := inFn Try.prog sg K 21 0 [] H p ns s
theorem F.elem_CheckEdge.in_eq K p ns s : F.elem_CheckEdge.at K p ns s = F.elem_CheckEdge.in K (F.elem_CheckEdge.at K) p ns s := atFn_eq (P := Try.prog) (sg := sg) (K := K) (f := 21) (m := 0) [] p ns s
theorem F.elem_CheckEdge.in_main K a0 : F.elem_CheckEdge (K + 1) a0 = F.elem_CheckEdge.in K (F.elem_CheckEdge.at K) [] [] ⟨slots [.agg [.val (.string a0.1), .val (.string a0.2.1), .val (.string a0.2.2.1), .list .str a0.2.2.2.1 false, .list sProp a0.2.2.2.2 false]] 0, []⟩ := evFn_eq (P := Try.prog) (sg := sg) (K := K) (f := 21) (args := [.agg [.val (.string a0.1), .val (.string a0.2.1), .val (.string a0.2.2.1), .list .str a0.2.2.2.1 false, .list sProp a0.2.2.2.2 false]]) (σ := []) [] (by kernel_rfl)
def F.elem_CheckEdge.l1010.st (a0 : TEdge) (x0 : Int) : St := ⟨[(1, .one (.sc (.ref 0 0))), (12, .one (.agg [.val (.string a0.1), .val (.string a0.2.1), .val (.string a0.2.2.1)])), (13, vI x0)], [.cells 38 [.val (.string a0.1), .val (.string a0.2.1), .val (.string a0.2.2.1), .list .str a0.2.2.2.1 false, .list sProp a0.2.2.2.2 false]]⟩
noncomputable def F.elem_CheckEdge.l1010 (K n0 : Nat) (a0 : TEdge) (x0 : Int) := F.elem_CheckEdge.at K [1, 0, 1, 0] [n0] (F.elem_CheckEdge.l1010.st a0 x0)
noncomputable def F.elem_CheckEdge.l1010.B (c0 : (ByteArray) → Option (Int)) (c1 : (TEdge) → (Int) → Option (Int)) (c2 : (List ByteArray) → (List TProp) → Option (Int)) (a0 : TEdge) (x0 : Int) : Option (Int) :=
    (bif (decide (x0 < 3)) then (bif (x0 == 0) then ((c0 a0.1).bind fun t0 => (bif (t0 != 0) then (some t0) else (c1 a0 (w64 (x0 + 1))))) else (bif (x0 == 1) then ((c0 a0.2.1).bind fun t1 => (bif (t1 != 0) then (some t1) else (c1 a0 (w64 (x0 + 1))))) else (bif (x0 == 2) then ((c0 a0.2.2.1).bind fun t2 => (bif (t2 != 0) then (some t2) else (c1 a0 (w64 (x0 + 1))))) else none))) else ((c2 a0.2.2.2.1 a0.2.2.2.2).bind fun t3 => (some t3)))
theorem F.elem_CheckEdge.l1010.eq K n0 a0 x0 : F.elem_CheckEdge.l1010 K (n0 + 1) a0 x0 = F.elem_CheckEdge.l1010.B (F.name_Check K) (F.elem_CheckEdge.l1010 K n0) (F.elem_rest K) a0 x0 := (F.elem_CheckEdge.in_eq K [1, 0, 1, 0] [n0 + 1] (F.elem_CheckEdge.l1010.st a0 x0)).trans ((show ∀ H, F.elem_CheckEdge.in K H [1, 0, 1, 0] [n0 + 1] (F.elem_CheckEdge.l1010.st a0 x0) = F.elem_CheckEdge.l1010.B (F.name_Check K) (fun a0 x0 => H [1, 0, 1, 0] [n0] (F.elem_CheckEdge.l1010.st a0 x0)) (F.elem_rest K) a0 x0 from by intro H; kernel_rfl) (F.elem_CheckEdge.at K))
noncomputable def F.elem_CheckEdge.B (c0 : (TEdge) → (Int) → Option (Int)) (a0 : TEdge) : Option (Int) :=
    (c0 a0 0)
theorem F.elem_CheckEdge.eq K a0 : F.elem_CheckEdge (K + 1) a0 = F.elem_CheckEdge.B (F.elem_CheckEdge.l1010 K K) a0 := (F.elem_CheckEdge.in_main K a0).trans ((show ∀ H, F.elem_CheckEdge.in K H [] [] ⟨slots [.agg [.val (.string a0.1), .val (.string a0.2.1), .val (.string a0.2.2.1), .list .str a0.2.2.2.1 false, .list sProp a0.2.2.2.2 false]] 0, []⟩ = F.elem_CheckEdge.B (fun a0 x0 => H [1, 0, 1, 0] [K] (F.elem_CheckEdge.l1010.st a0 x0)) a0 from by intro H; kernel_rfl) (F.elem_CheckEdge.at K))
noncomputable def V.elem_CheckEdge.l1010 (a0 : TEdge) (x0 : Int) := lim fun v => F.elem_CheckEdge.l1010 (v 0) (v 1) a0 x0
noncomputable def V.elem_CheckEdge (a0 : TEdge) := lim fun v => F.elem_CheckEdge (v 0) a0
theorem V.elem_CheckEdge.l1010.of a0 x0 {r} (h : F.elem_CheckEdge.l1010.B V.name_Check V.elem_CheckEdge.l1010 V.elem_rest a0 x0 = some r) : V.elem_CheckEdge.l1010 a0 x0 = some r :=
  App.to (App.step 1 (fun v => F.elem_CheckEdge.l1010.eq (v 0) (v 1) a0 x0) (by unfold F.elem_CheckEdge.l1010.B; repeat' first | exact App.val | exact App.no | exact App.lim | apply App.cond | apply App.guard | apply App.meet | apply App.ite | refine App.bind ?_ fun _ => ?_)) h
theorem V.elem_CheckEdge.of a0 {r} (h : F.elem_CheckEdge.B V.elem_CheckEdge.l1010 a0 = some r) : V.elem_CheckEdge a0 = some r :=
  App.to (App.step 0 (fun v => F.elem_CheckEdge.eq (v 0) a0) (by unfold F.elem_CheckEdge.B; repeat' first | exact App.val | exact App.no | exact App.lim | exact (App.enter 1 App.lim) | apply App.cond | apply App.guard | apply App.meet | apply App.ite | refine App.bind ?_ fun _ => ?_)) h
noncomputable def F.elem_PutEdge (K : Nat) (a0 : TEdge) : Option (ByteArray × Int) := evFn Try.prog sg K 18 [.agg [.val (.string a0.1), .val (.string a0.2.1), .val (.string a0.2.2.1), .list .str a0.2.2.2.1 false, .list sProp a0.2.2.2.2 false]] []
noncomputable def F.elem_PutEdge.B (c0 : (TEdge) → Option (Int)) (c1 : (ByteArray) → Option (ByteArray)) (c2 : (List ByteArray) → (List TProp) → Option (ByteArray)) (a0 : TEdge) : Option (ByteArray × Int) :=
    ((c0 (a0.1, a0.2.1, a0.2.2.1, a0.2.2.2.1, a0.2.2.2.2)).bind fun t0 => (bif (t0 != 0) then (some ((⟨#[]⟩ : ByteArray), t0)) else ((c1 a0.2.1).bind fun t1 => ((c1 a0.2.2.1).bind fun t2 => (guardK (decide (t1.size + t2.size ≤ i64max)) ((c2 a0.2.2.2.1 a0.2.2.2.2).bind fun t3 => (guardK (decide ((t1 ++ t2).size + t3.size ≤ i64max)) (some (((t1 ++ t2) ++ t3), 0)))))))))
theorem F.elem_PutEdge.eq K a0 : F.elem_PutEdge (K + 1) a0 = F.elem_PutEdge.B (F.elem_CheckEdge K) (F.scan_PutText K) (F.elem_put K) a0 := by kernel_rfl
noncomputable def V.elem_PutEdge (a0 : TEdge) := lim fun v => F.elem_PutEdge (v 0) a0
theorem V.elem_PutEdge.of a0 {r} (h : F.elem_PutEdge.B V.elem_CheckEdge V.scan_PutText V.elem_put a0 = some r) : V.elem_PutEdge a0 = some r :=
  App.to (App.step 0 (fun v => F.elem_PutEdge.eq (v 0) a0) (by unfold F.elem_PutEdge.B; repeat' first | exact App.val | exact App.no | exact App.lim | apply App.cond | apply App.guard | apply App.meet | apply App.ite | refine App.bind ?_ fun _ => ?_)) h
noncomputable def F.pleachref25_Edge (K : Nat) (a0 : TEdge) : Option (Int) := evFn Try.prog sg K 20 [.agg [.val (.string a0.1), .val (.string a0.2.1), .val (.string a0.2.2.1), .list .str a0.2.2.2.1 false, .list sProp a0.2.2.2.2 false]] []
noncomputable def F.pleachref25_Edge.B (c0 : (ByteArray) → Option (Bool)) (c1 : (List ByteArray) → (List TProp) → Option (Int)) (a0 : TEdge) : Option (Int) :=
    ((c0 a0.1).bind fun t0 => (bif (!t0) then (some 2) else ((c0 a0.2.1).bind fun t1 => (bif (!t1) then (some 2) else ((c0 a0.2.2.1).bind fun t2 => (bif (!t2) then (some 2) else ((c1 a0.2.2.2.1 a0.2.2.2.2).bind fun t3 => (some t3))))))))
theorem F.pleachref25_Edge.eq K a0 : F.pleachref25_Edge (K + 1) a0 = F.pleachref25_Edge.B (F.pleachref05_Is K) (F.pleachref25_rest K) a0 := by kernel_rfl
noncomputable def V.pleachref25_Edge (a0 : TEdge) := lim fun v => F.pleachref25_Edge (v 0) a0
theorem V.pleachref25_Edge.of a0 {r} (h : F.pleachref25_Edge.B V.pleachref05_Is V.pleachref25_rest a0 = some r) : V.pleachref25_Edge a0 = some r :=
  App.to (App.step 0 (fun v => F.pleachref25_Edge.eq (v 0) a0) (by unfold F.pleachref25_Edge.B; repeat' first | exact App.val | exact App.no | exact App.lim | apply App.cond | apply App.guard | apply App.meet | apply App.ite | refine App.bind ?_ fun _ => ?_)) h
noncomputable def F.pleachref25_PutEdge (K : Nat) (a0 : TEdge) : Option (ByteArray) := evFn Try.prog sg K 19 [.agg [.val (.string a0.1), .val (.string a0.2.1), .val (.string a0.2.2.1), .list .str a0.2.2.2.1 false, .list sProp a0.2.2.2.2 false]] []
noncomputable def F.pleachref25_PutEdge.B (c0 : (TEdge) → Option (Int)) (c1 : (ByteArray) → Option (ByteArray)) (c2 : (List ByteArray) → (List TProp) → Option (ByteArray)) (a0 : TEdge) : Option (ByteArray) :=
    ((c0 (a0.1, a0.2.1, a0.2.2.1, a0.2.2.2.1, a0.2.2.2.2)).bind fun t0 => (bif (t0 != 0) then (some (⟨#[]⟩ : ByteArray)) else ((c1 a0.2.1).bind fun t1 => ((c1 a0.2.2.1).bind fun t2 => (guardK (decide (t1.size + t2.size ≤ i64max)) ((c2 a0.2.2.2.1 a0.2.2.2.2).bind fun t3 => (guardK (decide ((t1 ++ t2).size + t3.size ≤ i64max)) (some ((t1 ++ t2) ++ t3)))))))))
theorem F.pleachref25_PutEdge.eq K a0 : F.pleachref25_PutEdge (K + 1) a0 = F.pleachref25_PutEdge.B (F.pleachref25_Edge K) (F.pleachref04_PutText K) (F.pleachref25_put K) a0 := by kernel_rfl
noncomputable def V.pleachref25_PutEdge (a0 : TEdge) := lim fun v => F.pleachref25_PutEdge (v 0) a0
theorem V.pleachref25_PutEdge.of a0 {r} (h : F.pleachref25_PutEdge.B V.pleachref25_Edge V.pleachref04_PutText V.pleachref25_put a0 = some r) : V.pleachref25_PutEdge a0 = some r :=
  App.to (App.step 0 (fun v => F.pleachref25_PutEdge.eq (v 0) a0) (by unfold F.pleachref25_PutEdge.B; repeat' first | exact App.val | exact App.no | exact App.lim | apply App.cond | apply App.guard | apply App.meet | apply App.ite | refine App.bind ?_ fun _ => ?_)) h
noncomputable def F.pleachlaw25_ElemEdges (K : Nat) (a0 : TEdge) : Option (Bool) := evFn Try.prog sg K 4 [.agg [.val (.string a0.1), .val (.string a0.2.1), .val (.string a0.2.2.1), .list .str a0.2.2.2.1 false, .list sProp a0.2.2.2.2 false]] []
noncomputable def F.pleachlaw25_ElemEdges.B (c0 : Option (Bool)) (c1 : (List ByteArray) → (List TProp) → Option (Bool)) (c2 : (TEdge) → Option (ByteArray × Int)) (c3 : (TEdge) → Option (ByteArray)) (c4 : (TEdge) → Option (Int)) (c5 : (TEdge) → Option (Int)) (a0 : TEdge) : Option (Bool) :=
    (bif (decide ((a0.1.size : Int) > 100)) then ((c0).bind fun t0 => (some t0)) else (bif (decide ((a0.2.1.size : Int) > 100)) then ((c0).bind fun t1 => (some t1)) else (bif (decide ((a0.2.2.1.size : Int) > 100)) then ((c0).bind fun t2 => (some t2)) else ((c1 a0.2.2.2.1 a0.2.2.2.2).bind fun t3 => (bif (!t3) then ((c0).bind fun t4 => (some t4)) else ((c2 (a0.1, a0.2.1, a0.2.2.1, a0.2.2.2.1, a0.2.2.2.2)).bind fun t5 => ((c3 (a0.1, a0.2.1, a0.2.2.1, a0.2.2.2.1, a0.2.2.2.2)).bind fun t6 => (bif (strEq t5.1 t6) then ((c4 (a0.1, a0.2.1, a0.2.2.1, a0.2.2.2.1, a0.2.2.2.2)).bind fun t7 => (bif (t5.2 == t7) then ((c5 (a0.1, a0.2.1, a0.2.2.1, a0.2.2.2.1, a0.2.2.2.2)).bind fun t8 => (bif (t8 == t5.2) then ((c0).bind fun t9 => (some t9)) else (some false))) else (some false))) else (some false)))))))))
theorem F.pleachlaw25_ElemEdges.eq K a0 : F.pleachlaw25_ElemEdges (K + 1) a0 = F.pleachlaw25_ElemEdges.B (F.pleachlaw25_awake K) (F.pleachlaw25_few K) (F.elem_PutEdge K) (F.pleachref25_PutEdge K) (F.pleachref25_Edge K) (F.elem_CheckEdge K) a0 := by kernel_rfl
noncomputable def V.pleachlaw25_ElemEdges (a0 : TEdge) := lim fun v => F.pleachlaw25_ElemEdges (v 0) a0
theorem V.pleachlaw25_ElemEdges.of a0 {r} (h : F.pleachlaw25_ElemEdges.B V.pleachlaw25_awake V.pleachlaw25_few V.elem_PutEdge V.pleachref25_PutEdge V.pleachref25_Edge V.elem_CheckEdge a0 = some r) : V.pleachlaw25_ElemEdges a0 = some r :=
  App.to (App.step 0 (fun v => F.pleachlaw25_ElemEdges.eq (v 0) a0) (by unfold F.pleachlaw25_ElemEdges.B; repeat' first | exact App.val | exact App.no | exact App.lim | apply App.cond | apply App.guard | apply App.meet | apply App.ite | refine App.bind ?_ fun _ => ?_)) h
noncomputable def F.pleachref20_Few (K : Nat) (a0 : List TEntry) (a1 : Int) : Option (Bool) := evFn Try.prog sg K 28 [.sc (.list sEntry a0 false), .sc (.val (.int .i64 a1))] []
noncomputable def F.pleachref20_Few.at (K : Nat) (p ns : List Nat) (s : St) : Option (Bool) := atFn Try.prog sg K 28 0 p ns s
noncomputable def F.pleachref20_Few.in (K : Nat) (H : List Nat → List Nat → St → Option (Bool)) (p ns : List Nat) (s : St) : Option (Bool) := inFn Try.prog sg K 28 0 [] H p ns s
theorem F.pleachref20_Few.in_eq K p ns s : F.pleachref20_Few.at K p ns s = F.pleachref20_Few.in K (F.pleachref20_Few.at K) p ns s := atFn_eq (P := Try.prog) (sg := sg) (K := K) (f := 28) (m := 0) [] p ns s
theorem F.pleachref20_Few.in_main K a0 a1 : F.pleachref20_Few (K + 1) a0 a1 = F.pleachref20_Few.in K (F.pleachref20_Few.at K) [] [] ⟨slots [.sc (.list sEntry a0 false), .sc (.val (.int .i64 a1))] 0, []⟩ := evFn_eq (P := Try.prog) (sg := sg) (K := K) (f := 28) (args := [.sc (.list sEntry a0 false), .sc (.val (.int .i64 a1))]) (σ := []) [] (by kernel_rfl)
def F.pleachref20_Few.l11010.st (a0 : List TEntry) (a1 : Int) (x0 : Int) (x1 : Int) : St := ⟨[(0, vL sEntry a0), (1, vI a1), (5, vI x0), (6, vI x1)], []⟩
noncomputable def F.pleachref20_Few.l11010 (K n0 : Nat) (a0 : List TEntry) (a1 : Int) (x0 : Int) (x1 : Int) := F.pleachref20_Few.at K [1, 1, 0, 1, 0] [n0] (F.pleachref20_Few.l11010.st a0 a1 x0 x1)
noncomputable def F.pleachref20_Few.l11010.B (c0 : (List TEntry) → (Int) → (Int) → (Int) → Option (Bool)) (a0 : List TEntry) (a1 : Int) (x0 : Int) (x1 : Int) : Option (Bool) :=
    (bif (decide (x1 < (a0.length : Int))) then (bif (decide (x1 ≤ a1)) then (guardK (decide (0 ≤ x1) && decide (x1 < (a0.length : Int))) (guardK (decide (0 ≤ x1) && decide (x1 < (a0.length : Int))) (c0 a0 a1 (w64 ((w64 (x0 + (if 10000 < (((rd sEntry a0 x1.toNat).1).size : Int) then 10000 else (((rd sEntry a0 x1.toNat).1).size : Int)))) + (if 10000 < (((rd sEntry a0 x1.toNat).2).size : Int) then 10000 else (((rd sEntry a0 x1.toNat).2).size : Int)))) (w64 (x1 + 1))))) else (bif (decide ((a0.length : Int) ≤ a1)) then (some (decide (x0 ≤ 6000))) else (some false))) else (bif (decide ((a0.length : Int) ≤ a1)) then (some (decide (x0 ≤ 6000))) else (some false)))
theorem F.pleachref20_Few.l11010.eq K n0 a0 a1 x0 x1 : F.pleachref20_Few.l11010 K (n0 + 1) a0 a1 x0 x1 = F.pleachref20_Few.l11010.B (F.pleachref20_Few.l11010 K n0) a0 a1 x0 x1 := (F.pleachref20_Few.in_eq K [1, 1, 0, 1, 0] [n0 + 1] (F.pleachref20_Few.l11010.st a0 a1 x0 x1)).trans ((show ∀ H, F.pleachref20_Few.in K H [1, 1, 0, 1, 0] [n0 + 1] (F.pleachref20_Few.l11010.st a0 a1 x0 x1) = F.pleachref20_Few.l11010.B (fun a0 a1 x0 x1 => H [1, 1, 0, 1, 0] [n0] (F.pleachref20_Few.l11010.st a0 a1 x0 x1)) a0 a1 x0 x1 from by intro H; kernel_rfl) (F.pleachref20_Few.at K))
noncomputable def F.pleachref20_Few.B (c0 : (List TEntry) → (Int) → (Int) → (Int) → Option (Bool)) (a0 : List TEntry) (a1 : Int) : Option (Bool) :=
    (c0 a0 a1 0 0)
theorem F.pleachref20_Few.eq K a0 a1 : F.pleachref20_Few (K + 1) a0 a1 = F.pleachref20_Few.B (F.pleachref20_Few.l11010 K K) a0 a1 := (F.pleachref20_Few.in_main K a0 a1).trans ((show ∀ H, F.pleachref20_Few.in K H [] [] ⟨slots [.sc (.list sEntry a0 false), .sc (.val (.int .i64 a1))] 0, []⟩ = F.pleachref20_Few.B (fun a0 a1 x0 x1 => H [1, 1, 0, 1, 0] [K] (F.pleachref20_Few.l11010.st a0 a1 x0 x1)) a0 a1 from by intro H; kernel_rfl) (F.pleachref20_Few.at K))
noncomputable def V.pleachref20_Few.l11010 (a0 : List TEntry) (a1 : Int) (x0 : Int) (x1 : Int) := lim fun v => F.pleachref20_Few.l11010 (v 0) (v 1) a0 a1 x0 x1
noncomputable def V.pleachref20_Few (a0 : List TEntry) (a1 : Int) := lim fun v => F.pleachref20_Few (v 0) a0 a1
theorem V.pleachref20_Few.l11010.of a0 a1 x0 x1 {r} (h : F.pleachref20_Few.l11010.B V.pleachref20_Few.l11010 a0 a1 x0 x1 = some r) : V.pleachref20_Few.l11010 a0 a1 x0 x1 = some r :=
  App.to (App.step 1 (fun v => F.pleachref20_Few.l11010.eq (v 0) (v 1) a0 a1 x0 x1) (by unfold F.pleachref20_Few.l11010.B; repeat' first | exact App.val | exact App.no | exact App.lim | apply App.cond | apply App.guard | apply App.meet | apply App.ite | refine App.bind ?_ fun _ => ?_)) h
theorem V.pleachref20_Few.of a0 a1 {r} (h : F.pleachref20_Few.B V.pleachref20_Few.l11010 a0 a1 = some r) : V.pleachref20_Few a0 a1 = some r :=
  App.to (App.step 0 (fun v => F.pleachref20_Few.eq (v 0) a0 a1) (by unfold F.pleachref20_Few.B; repeat' first | exact App.val | exact App.no | exact App.lim | exact (App.enter 1 App.lim) | apply App.cond | apply App.guard | apply App.meet | apply App.ite | refine App.bind ?_ fun _ => ?_)) h
noncomputable def F.keys_Of (K : Nat) (a0 : ByteArray) (a1 : ByteArray) : Option (ByteArray × Int) := evFn Try.prog sg K 23 [.sc (.val (.string a0)), .sc (.val (.string a1))] []
noncomputable def F.keys_Of.B (c0 : (ByteArray) → Option (Int)) (a0 : ByteArray) (a1 : ByteArray) : Option (ByteArray × Int) :=
    ((c0 a0).bind fun t0 => (bif (t0 != 0) then (some ((⟨#[]⟩ : ByteArray), 2)) else ((c0 a1).bind fun t1 => (bif (t1 != 0) then (some ((⟨#[]⟩ : ByteArray), 2)) else (guardK (decide (a0.size + (⟨#[0]⟩ : ByteArray).size ≤ i64max)) (guardK (decide ((a0 ++ (⟨#[0]⟩ : ByteArray)).size + a1.size ≤ i64max)) (some (((a0 ++ (⟨#[0]⟩ : ByteArray)) ++ a1), 0))))))))
theorem F.keys_Of.eq K a0 a1 : F.keys_Of (K + 1) a0 a1 = F.keys_Of.B (F.name_Check K) a0 a1 := by kernel_rfl
noncomputable def V.keys_Of (a0 : ByteArray) (a1 : ByteArray) := lim fun v => F.keys_Of (v 0) a0 a1
theorem V.keys_Of.of a0 a1 {r} (h : F.keys_Of.B V.name_Check a0 a1 = some r) : V.keys_Of a0 a1 = some r :=
  App.to (App.step 0 (fun v => F.keys_Of.eq (v 0) a0 a1) (by unfold F.keys_Of.B; repeat' first | exact App.val | exact App.no | exact App.lim | apply App.cond | apply App.guard | apply App.meet | apply App.ite | refine App.bind ?_ fun _ => ?_)) h
noncomputable def F.pleachlaw31_awake (K : Nat) : Option (Bool) := evFn Try.prog sg K 22 [] []
noncomputable def F.pleachlaw31_awake.B (c0 : (ByteArray) → (ByteArray) → Option (ByteArray × Int)) : Option (Bool) :=
    ((c0 (⟨#[97]⟩ : ByteArray) (⟨#[120]⟩ : ByteArray)).bind fun t0 => (bif (strEq t0.1 (⟨#[97, 0, 120]⟩ : ByteArray)) then (some (t0.2 == 0)) else (some false)))
theorem F.pleachlaw31_awake.eq K : F.pleachlaw31_awake (K + 1) = F.pleachlaw31_awake.B (F.keys_Of K) := by kernel_rfl
noncomputable def V.pleachlaw31_awake := lim fun v => F.pleachlaw31_awake (v 0)
theorem V.pleachlaw31_awake.of {r} (h : F.pleachlaw31_awake.B V.keys_Of = some r) : V.pleachlaw31_awake = some r :=
  App.to (App.step 0 (fun v => F.pleachlaw31_awake.eq (v 0)) (by unfold F.pleachlaw31_awake.B; repeat' first | exact App.val | exact App.no | exact App.lim | apply App.cond | apply App.guard | apply App.meet | apply App.ite | refine App.bind ?_ fun _ => ?_)) h
noncomputable def F.pleachref01_Get (K : Nat) (a0 : ByteArray) : Option (Int × Int × Bool) := evFn Try.prog sg K 110 [.sc (.val (.string a0))] []
noncomputable def F.pleachref01_Get.at (K : Nat) (p ns : List Nat) (s : St) : Option (Int × Int × Bool) := atFn Try.prog sg K 110 0 p ns s
noncomputable def F.pleachref01_Get.in (K : Nat) (H : List Nat → List Nat → St → Option (Int × Int × Bool)) (p ns : List Nat) (s : St) : Option (Int × Int × Bool) := inFn Try.prog sg K 110 0 [] H p ns s
theorem F.pleachref01_Get.in_eq K p ns s : F.pleachref01_Get.at K p ns s = F.pleachref01_Get.in K (F.pleachref01_Get.at K) p ns s := atFn_eq (P := Try.prog) (sg := sg) (K := K) (f := 110) (m := 0) [] p ns s
theorem F.pleachref01_Get.in_main K a0 : F.pleachref01_Get (K + 1) a0 = F.pleachref01_Get.in K (F.pleachref01_Get.at K) [] [] ⟨slots [.sc (.val (.string a0))] 0, []⟩ := evFn_eq (P := Try.prog) (sg := sg) (K := K) (f := 110) (args := [.sc (.val (.string a0))]) (σ := []) [] (by kernel_rfl)
def F.pleachref01_Get.l1100.st (a0 : ByteArray) (x0 : Int) : St := ⟨[(0, vS a0), (5, vI x0)], []⟩
noncomputable def F.pleachref01_Get.l1100 (K n0 : Nat) (a0 : ByteArray) (x0 : Int) := F.pleachref01_Get.at K [1, 1, 0, 0] [n0] (F.pleachref01_Get.l1100.st a0 x0)
def F.pleachref01_Get.l11111010.st (a0 : ByteArray) (x0 : Int) (x1 : Int) (x2 : Int) : St := ⟨[(0, vS a0), (5, vI x0), (6, .one (.sc (.val (.int .u64 x1)))), (7, vI x2)], []⟩
noncomputable def F.pleachref01_Get.l11111010 (K n0 : Nat) (a0 : ByteArray) (x0 : Int) (x1 : Int) (x2 : Int) := F.pleachref01_Get.at K [1, 1, 1, 1, 1, 0, 1, 0] [n0] (F.pleachref01_Get.l11111010.st a0 x0 x1 x2)
noncomputable def F.pleachref01_Get.l1100.B (c0 : (ByteArray) → (Int) → Option (Int × Int × Bool)) (c1 : (ByteArray) → (Int) → (Int) → (Int) → Option (Int × Int × Bool)) (a0 : ByteArray) (x0 : Int) : Option (Int × Int × Bool) :=
    (bif (decide (x0 < (a0.size : Int))) then (guardK (decide (0 ≤ x0) && decide (x0 < (a0.size : Int))) (bif (decide ((byteAt a0 x0) ≥ 128)) then (c0 a0 (w64 (x0 + 1))) else (bif (decide (x0 ≥ (a0.size : Int))) then (some (0, 0, false)) else (bif (decide (x0 > 9)) then (some (0, 0, false)) else (c1 a0 x0 0 x0))))) else (bif (decide (x0 ≥ (a0.size : Int))) then (some (0, 0, false)) else (bif (decide (x0 > 9)) then (some (0, 0, false)) else (c1 a0 x0 0 x0))))
theorem F.pleachref01_Get.l1100.eq K n0 a0 x0 : F.pleachref01_Get.l1100 K (n0 + 1) a0 x0 = F.pleachref01_Get.l1100.B (F.pleachref01_Get.l1100 K n0) (F.pleachref01_Get.l11111010 K K) a0 x0 := (F.pleachref01_Get.in_eq K [1, 1, 0, 0] [n0 + 1] (F.pleachref01_Get.l1100.st a0 x0)).trans ((show ∀ H, F.pleachref01_Get.in K H [1, 1, 0, 0] [n0 + 1] (F.pleachref01_Get.l1100.st a0 x0) = F.pleachref01_Get.l1100.B (fun a0 x0 => H [1, 1, 0, 0] [n0] (F.pleachref01_Get.l1100.st a0 x0)) (fun a0 x0 x1 x2 => H [1, 1, 1, 1, 1, 0, 1, 0] [K] (F.pleachref01_Get.l11111010.st a0 x0 x1 x2)) a0 x0 from by intro H; kernel_rfl) (F.pleachref01_Get.at K))
noncomputable def F.pleachref01_Get.l11111010.B (c0 : (ByteArray) → (Int) → (Int) → (Int) → Option (Int × Int × Bool)) (c1 : (Int) → Option (ByteArray)) (a0 : ByteArray) (x0 : Int) (x1 : Int) (x2 : Int) : Option (Int × Int × Bool) :=
    (bif (decide (x2 ≥ 0)) then (guardK (decide (0 ≤ x2) && decide (x2 < (a0.size : Int))) (c0 a0 x0 (IntKind.wrap .u64 ((IntKind.wrap .u64 (x1 * 128)) + (Int.tmod (IntKind.wrap .u64 (byteAt a0 x2)) 128))) (w64 (x2 - 1)))) else (guardK (decide (0 ≤ (w64 (x0 + 1))) && decide ((w64 (x0 + 1)) ≤ (a0.size : Int))) ((c1 x1).bind fun t0 => (bif (!strEq t0 (a0.extract 0 (w64 (x0 + 1)).toNat)) then (some (0, 0, false)) else (some (x1, (w64 (x0 + 1)), true))))))
theorem F.pleachref01_Get.l11111010.eq K n0 a0 x0 x1 x2 : F.pleachref01_Get.l11111010 K (n0 + 1) a0 x0 x1 x2 = F.pleachref01_Get.l11111010.B (F.pleachref01_Get.l11111010 K n0) (F.pleachref01_Put K) a0 x0 x1 x2 := (F.pleachref01_Get.in_eq K [1, 1, 1, 1, 1, 0, 1, 0] [n0 + 1] (F.pleachref01_Get.l11111010.st a0 x0 x1 x2)).trans ((show ∀ H, F.pleachref01_Get.in K H [1, 1, 1, 1, 1, 0, 1, 0] [n0 + 1] (F.pleachref01_Get.l11111010.st a0 x0 x1 x2) = F.pleachref01_Get.l11111010.B (fun a0 x0 x1 x2 => H [1, 1, 1, 1, 1, 0, 1, 0] [n0] (F.pleachref01_Get.l11111010.st a0 x0 x1 x2)) (F.pleachref01_Put K) a0 x0 x1 x2 from by intro H; kernel_rfl) (F.pleachref01_Get.at K))
noncomputable def F.pleachref01_Get.B (c0 : (ByteArray) → (Int) → Option (Int × Int × Bool)) (a0 : ByteArray) : Option (Int × Int × Bool) :=
    (c0 a0 0)
theorem F.pleachref01_Get.eq K a0 : F.pleachref01_Get (K + 1) a0 = F.pleachref01_Get.B (F.pleachref01_Get.l1100 K K) a0 := (F.pleachref01_Get.in_main K a0).trans ((show ∀ H, F.pleachref01_Get.in K H [] [] ⟨slots [.sc (.val (.string a0))] 0, []⟩ = F.pleachref01_Get.B (fun a0 x0 => H [1, 1, 0, 0] [K] (F.pleachref01_Get.l1100.st a0 x0)) a0 from by intro H; kernel_rfl) (F.pleachref01_Get.at K))
noncomputable def V.pleachref01_Get.l1100 (a0 : ByteArray) (x0 : Int) := lim fun v => F.pleachref01_Get.l1100 (v 0) (v 1) a0 x0
noncomputable def V.pleachref01_Get.l11111010 (a0 : ByteArray) (x0 : Int) (x1 : Int) (x2 : Int) := lim fun v => F.pleachref01_Get.l11111010 (v 0) (v 1) a0 x0 x1 x2
noncomputable def V.pleachref01_Get (a0 : ByteArray) := lim fun v => F.pleachref01_Get (v 0) a0
theorem V.pleachref01_Get.l1100.of a0 x0 {r} (h : F.pleachref01_Get.l1100.B V.pleachref01_Get.l1100 V.pleachref01_Get.l11111010 a0 x0 = some r) : V.pleachref01_Get.l1100 a0 x0 = some r :=
  App.to (App.step 1 (fun v => F.pleachref01_Get.l1100.eq (v 0) (v 1) a0 x0) (by unfold F.pleachref01_Get.l1100.B; repeat' first | exact App.val | exact App.no | exact App.lim | exact (App.enter 1 App.lim) | apply App.cond | apply App.guard | apply App.meet | apply App.ite | refine App.bind ?_ fun _ => ?_)) h
theorem V.pleachref01_Get.l11111010.of a0 x0 x1 x2 {r} (h : F.pleachref01_Get.l11111010.B V.pleachref01_Get.l11111010 V.pleachref01_Put a0 x0 x1 x2 = some r) : V.pleachref01_Get.l11111010 a0 x0 x1 x2 = some r :=
  App.to (App.step 1 (fun v => F.pleachref01_Get.l11111010.eq (v 0) (v 1) a0 x0 x1 x2) (by unfold F.pleachref01_Get.l11111010.B; repeat' first | exact App.val | exact App.no | exact App.lim | apply App.cond | apply App.guard | apply App.meet | apply App.ite | refine App.bind ?_ fun _ => ?_)) h
theorem V.pleachref01_Get.of a0 {r} (h : F.pleachref01_Get.B V.pleachref01_Get.l1100 a0 = some r) : V.pleachref01_Get a0 = some r :=
  App.to (App.step 0 (fun v => F.pleachref01_Get.eq (v 0) a0) (by unfold F.pleachref01_Get.B; repeat' first | exact App.val | exact App.no | exact App.lim | exact (App.enter 1 App.lim) | apply App.cond | apply App.guard | apply App.meet | apply App.ite | refine App.bind ?_ fun _ => ?_)) h
noncomputable def F.pleachref04_Num (K : Nat) (a0 : TScan) (a1 : Int) : Option (TScan × Int) := evFn Try.prog sg K 89 [.agg [.val (.string a0.1), .val (.int .i64 a0.2.1), .val (.int .i64 a0.2.2)], .sc (.val (.int .i64 a1))] []
noncomputable def F.pleachref04_Num.B (c0 : (ByteArray) → Option (Int × Int × Bool)) (a0 : TScan) (a1 : Int) : Option (TScan × Int) :=
    (bif (a0.2.2 != 0) then (some ((a0.1, a0.2.1, a0.2.2), 0)) else (guardK (decide (0 ≤ a0.2.1) && decide (a0.2.1 ≤ (a0.1.size : Int)) && decide ((a0.1.size : Int) ≤ (a0.1.size : Int))) ((c0 (a0.1.extract a0.2.1.toNat (a0.1.size : Int).toNat)).bind fun t0 => (bif (!t0.2.2) then (some ((a0.1, a0.2.1, 3), 0)) else (bif (decide (a1 < 0)) then (some ((a0.1, a0.2.1, 5), 0)) else (bif (decide (t0.1 > (IntKind.wrap .u64 a1))) then (some ((a0.1, a0.2.1, 5), 0)) else (some ((a0.1, (w64 (a0.2.1 + t0.2.1)), a0.2.2), (w64 t0.1)))))))))
theorem F.pleachref04_Num.eq K a0 a1 : F.pleachref04_Num (K + 1) a0 a1 = F.pleachref04_Num.B (F.pleachref01_Get K) a0 a1 := by kernel_rfl
noncomputable def V.pleachref04_Num (a0 : TScan) (a1 : Int) := lim fun v => F.pleachref04_Num (v 0) a0 a1
theorem V.pleachref04_Num.of a0 a1 {r} (h : F.pleachref04_Num.B V.pleachref01_Get a0 a1 = some r) : V.pleachref04_Num a0 a1 = some r :=
  App.to (App.step 0 (fun v => F.pleachref04_Num.eq (v 0) a0 a1) (by unfold F.pleachref04_Num.B; repeat' first | exact App.val | exact App.no | exact App.lim | apply App.cond | apply App.guard | apply App.meet | apply App.ite | refine App.bind ?_ fun _ => ?_)) h
noncomputable def F.pleachref04_fix (K : Nat) (a0 : TScan) (a1 : Int) : Option (TScan × ByteArray) := evFn Try.prog sg K 91 [.agg [.val (.string a0.1), .val (.int .i64 a0.2.1), .val (.int .i64 a0.2.2)], .sc (.val (.int .i64 a1))] []
noncomputable def F.pleachref04_fix.B (a0 : TScan) (a1 : Int) : Option (TScan × ByteArray) :=
    (bif (a0.2.2 != 0) then (some ((a0.1, a0.2.1, a0.2.2), (⟨#[]⟩ : ByteArray))) else (bif (decide (a1 < 0)) then (some ((a0.1, a0.2.1, 3), (⟨#[]⟩ : ByteArray))) else (bif (decide (a1 > (w64 ((a0.1.size : Int) - a0.2.1)))) then (some ((a0.1, a0.2.1, 3), (⟨#[]⟩ : ByteArray))) else (guardK (decide (0 ≤ a0.2.1) && decide (a0.2.1 ≤ (w64 (a0.2.1 + a1))) && decide ((w64 (a0.2.1 + a1)) ≤ (a0.1.size : Int))) (some ((a0.1, (w64 (a0.2.1 + a1)), a0.2.2), (a0.1.extract a0.2.1.toNat (w64 (a0.2.1 + a1)).toNat)))))))
theorem F.pleachref04_fix.eq K a0 a1 : F.pleachref04_fix (K + 1) a0 a1 = F.pleachref04_fix.B a0 a1 := by kernel_rfl
noncomputable def V.pleachref04_fix (a0 : TScan) (a1 : Int) := lim fun v => F.pleachref04_fix (v 0) a0 a1
theorem V.pleachref04_fix.of a0 a1 {r} (h : F.pleachref04_fix.B a0 a1 = some r) : V.pleachref04_fix a0 a1 = some r :=
  App.to (App.step 0 (fun v => F.pleachref04_fix.eq (v 0) a0 a1) (by unfold F.pleachref04_fix.B; repeat' first | exact App.val | exact App.no | exact App.lim | apply App.cond | apply App.guard | apply App.meet | apply App.ite | refine App.bind ?_ fun _ => ?_)) h
noncomputable def F.pleachref04_Text (K : Nat) (a0 : TScan) (a1 : Int) : Option (TScan × ByteArray) := evFn Try.prog sg K 64 [.agg [.val (.string a0.1), .val (.int .i64 a0.2.1), .val (.int .i64 a0.2.2)], .sc (.val (.int .i64 a1))] []
noncomputable def F.pleachref04_Text.B (c0 : (TScan) → (Int) → Option (TScan × Int)) (c1 : (TScan) → (Int) → Option (TScan × ByteArray)) (a0 : TScan) (a1 : Int) : Option (TScan × ByteArray) :=
    ((c0 (a0.1, a0.2.1, a0.2.2) a1).bind fun t0 => (bif (t0.1.2.2 != 0) then (some ((t0.1.1, t0.1.2.1, t0.1.2.2), (⟨#[]⟩ : ByteArray))) else ((c1 (t0.1.1, t0.1.2.1, t0.1.2.2) t0.2).bind fun t1 => (some ((t1.1.1, t1.1.2.1, t1.1.2.2), t1.2)))))
theorem F.pleachref04_Text.eq K a0 a1 : F.pleachref04_Text (K + 1) a0 a1 = F.pleachref04_Text.B (F.pleachref04_Num K) (F.pleachref04_fix K) a0 a1 := by kernel_rfl
noncomputable def V.pleachref04_Text (a0 : TScan) (a1 : Int) := lim fun v => F.pleachref04_Text (v 0) a0 a1
theorem V.pleachref04_Text.of a0 a1 {r} (h : F.pleachref04_Text.B V.pleachref04_Num V.pleachref04_fix a0 a1 = some r) : V.pleachref04_Text a0 a1 = some r :=
  App.to (App.step 0 (fun v => F.pleachref04_Text.eq (v 0) a0 a1) (by unfold F.pleachref04_Text.B; repeat' first | exact App.val | exact App.no | exact App.lim | apply App.cond | apply App.guard | apply App.meet | apply App.ite | refine App.bind ?_ fun _ => ?_)) h
noncomputable def F.pleachref04_Byte (K : Nat) (a0 : TScan) : Option (TScan × Int) := evFn Try.prog sg K 111 [.agg [.val (.string a0.1), .val (.int .i64 a0.2.1), .val (.int .i64 a0.2.2)]] []
noncomputable def F.pleachref04_Byte.B (c0 : (TScan) → (Int) → Option (TScan × ByteArray)) (a0 : TScan) : Option (TScan × Int) :=
    ((c0 (a0.1, a0.2.1, a0.2.2) 1).bind fun t0 => (bif (t0.1.2.2 != 0) then (some ((t0.1.1, t0.1.2.1, t0.1.2.2), 0)) else (guardK (decide (0 < (t0.2.size : Int))) (some ((t0.1.1, t0.1.2.1, t0.1.2.2), (w64 (byteAt t0.2 0)))))))
theorem F.pleachref04_Byte.eq K a0 : F.pleachref04_Byte (K + 1) a0 = F.pleachref04_Byte.B (F.pleachref04_fix K) a0 := by kernel_rfl
noncomputable def V.pleachref04_Byte (a0 : TScan) := lim fun v => F.pleachref04_Byte (v 0) a0
theorem V.pleachref04_Byte.of a0 {r} (h : F.pleachref04_Byte.B V.pleachref04_fix a0 = some r) : V.pleachref04_Byte a0 = some r :=
  App.to (App.step 0 (fun v => F.pleachref04_Byte.eq (v 0) a0) (by unfold F.pleachref04_Byte.B; repeat' first | exact App.val | exact App.no | exact App.lim | apply App.cond | apply App.guard | apply App.meet | apply App.ite | refine App.bind ?_ fun _ => ?_)) h
noncomputable def F.pleachref01_Zag (K : Nat) (a0 : Int) : Option (Int) := evFn Try.prog sg K 128 [.sc (.val (.int .u64 a0))] []
noncomputable def F.pleachref01_Zag.B (a0 : Int) : Option (Int) :=
    (bif ((Int.tmod a0 2) == 0) then (some (w64 (IntKind.wrap .u64 (Int.tdiv a0 2)))) else (some (w64 ((-1) - (w64 (IntKind.wrap .u64 (Int.tdiv a0 2)))))))
theorem F.pleachref01_Zag.eq K a0 : F.pleachref01_Zag (K + 1) a0 = F.pleachref01_Zag.B a0 := by kernel_rfl
noncomputable def V.pleachref01_Zag (a0 : Int) := lim fun v => F.pleachref01_Zag (v 0) a0
theorem V.pleachref01_Zag.of a0 {r} (h : F.pleachref01_Zag.B a0 = some r) : V.pleachref01_Zag a0 = some r :=
  App.to (App.step 0 (fun v => F.pleachref01_Zag.eq (v 0) a0) (by unfold F.pleachref01_Zag.B; repeat' first | exact App.val | exact App.no | exact App.lim | apply App.cond | apply App.guard | apply App.meet | apply App.ite | refine App.bind ?_ fun _ => ?_)) h
noncomputable def F.pleachref04_Int (K : Nat) (a0 : TScan) : Option (TScan × Int) := evFn Try.prog sg K 112 [.agg [.val (.string a0.1), .val (.int .i64 a0.2.1), .val (.int .i64 a0.2.2)]] []
noncomputable def F.pleachref04_Int.B (c0 : (ByteArray) → Option (Int × Int × Bool)) (c1 : (Int) → Option (Int)) (a0 : TScan) : Option (TScan × Int) :=
    (bif (a0.2.2 != 0) then (some ((a0.1, a0.2.1, a0.2.2), 0)) else (guardK (decide (0 ≤ a0.2.1) && decide (a0.2.1 ≤ (a0.1.size : Int)) && decide ((a0.1.size : Int) ≤ (a0.1.size : Int))) ((c0 (a0.1.extract a0.2.1.toNat (a0.1.size : Int).toNat)).bind fun t0 => (bif (!t0.2.2) then (some ((a0.1, a0.2.1, 3), 0)) else ((c1 t0.1).bind fun t1 => (some ((a0.1, (w64 (a0.2.1 + t0.2.1)), a0.2.2), t1)))))))
theorem F.pleachref04_Int.eq K a0 : F.pleachref04_Int (K + 1) a0 = F.pleachref04_Int.B (F.pleachref01_Get K) (F.pleachref01_Zag K) a0 := by kernel_rfl
noncomputable def V.pleachref04_Int (a0 : TScan) := lim fun v => F.pleachref04_Int (v 0) a0
theorem V.pleachref04_Int.of a0 {r} (h : F.pleachref04_Int.B V.pleachref01_Get V.pleachref01_Zag a0 = some r) : V.pleachref04_Int a0 = some r :=
  App.to (App.step 0 (fun v => F.pleachref04_Int.eq (v 0) a0) (by unfold F.pleachref04_Int.B; repeat' first | exact App.val | exact App.no | exact App.lim | apply App.cond | apply App.guard | apply App.meet | apply App.ite | refine App.bind ?_ fun _ => ?_)) h
noncomputable def F.pleachref06_Read (K : Nat) (a0 : TScan) : Option (TScan × TValue) := evFn Try.prog sg K 90 [.agg [.val (.string a0.1), .val (.int .i64 a0.2.1), .val (.int .i64 a0.2.2)]] []
noncomputable def F.pleachref06_Read.B (c0 : (TScan) → Option (TScan × Int)) (c1 : (TScan) → Option (TScan × Int)) (c2 : (TScan) → (Int) → Option (TScan × ByteArray)) (c3 : (TValue) → Option (Bool)) (a0 : TScan) : Option (TScan × TValue) :=
    ((c0 (a0.1, a0.2.1, a0.2.2)).bind fun t0 => (bif (t0.2 == 1) then ((c0 (t0.1.1, t0.1.2.1, t0.1.2.2)).bind fun t1 => (bif (t0.2 == 2) then ((c1 (t1.1.1, t1.1.2.1, t1.1.2.2)).bind fun t2 => (bif (t0.2 == 3) then ((c2 (t2.1.1, t2.1.2.1, t2.1.2.2) 64).bind fun t3 => (bif (t3.1.2.2 == 0) then ((c3 (t0.2, t2.2, t3.2)).bind fun t4 => (bif (!t4) then (some ((t3.1.1, t3.1.2.1, 3), 0, 0, (⟨#[]⟩ : ByteArray))) else (bif (t3.1.2.2 != 0) then (some ((t3.1.1, t3.1.2.1, t3.1.2.2), 0, 0, (⟨#[]⟩ : ByteArray))) else (some ((t3.1.1, t3.1.2.1, t3.1.2.2), t0.2, t2.2, t3.2))))) else (bif (t3.1.2.2 != 0) then (some ((t3.1.1, t3.1.2.1, t3.1.2.2), 0, 0, (⟨#[]⟩ : ByteArray))) else (some ((t3.1.1, t3.1.2.1, t3.1.2.2), t0.2, t2.2, t3.2))))) else (bif (t2.1.2.2 == 0) then ((c3 (t0.2, t2.2, (⟨#[]⟩ : ByteArray))).bind fun t5 => (bif (!t5) then (some ((t2.1.1, t2.1.2.1, 3), 0, 0, (⟨#[]⟩ : ByteArray))) else (bif (t2.1.2.2 != 0) then (some ((t2.1.1, t2.1.2.1, t2.1.2.2), 0, 0, (⟨#[]⟩ : ByteArray))) else (some ((t2.1.1, t2.1.2.1, t2.1.2.2), t0.2, t2.2, (⟨#[]⟩ : ByteArray)))))) else (bif (t2.1.2.2 != 0) then (some ((t2.1.1, t2.1.2.1, t2.1.2.2), 0, 0, (⟨#[]⟩ : ByteArray))) else (some ((t2.1.1, t2.1.2.1, t2.1.2.2), t0.2, t2.2, (⟨#[]⟩ : ByteArray))))))) else (bif (t0.2 == 3) then ((c2 (t1.1.1, t1.1.2.1, t1.1.2.2) 64).bind fun t6 => (bif (t6.1.2.2 == 0) then ((c3 (t0.2, t1.2, t6.2)).bind fun t7 => (bif (!t7) then (some ((t6.1.1, t6.1.2.1, 3), 0, 0, (⟨#[]⟩ : ByteArray))) else (bif (t6.1.2.2 != 0) then (some ((t6.1.1, t6.1.2.1, t6.1.2.2), 0, 0, (⟨#[]⟩ : ByteArray))) else (some ((t6.1.1, t6.1.2.1, t6.1.2.2), t0.2, t1.2, t6.2))))) else (bif (t6.1.2.2 != 0) then (some ((t6.1.1, t6.1.2.1, t6.1.2.2), 0, 0, (⟨#[]⟩ : ByteArray))) else (some ((t6.1.1, t6.1.2.1, t6.1.2.2), t0.2, t1.2, t6.2))))) else (bif (t1.1.2.2 == 0) then ((c3 (t0.2, t1.2, (⟨#[]⟩ : ByteArray))).bind fun t8 => (bif (!t8) then (some ((t1.1.1, t1.1.2.1, 3), 0, 0, (⟨#[]⟩ : ByteArray))) else (bif (t1.1.2.2 != 0) then (some ((t1.1.1, t1.1.2.1, t1.1.2.2), 0, 0, (⟨#[]⟩ : ByteArray))) else (some ((t1.1.1, t1.1.2.1, t1.1.2.2), t0.2, t1.2, (⟨#[]⟩ : ByteArray)))))) else (bif (t1.1.2.2 != 0) then (some ((t1.1.1, t1.1.2.1, t1.1.2.2), 0, 0, (⟨#[]⟩ : ByteArray))) else (some ((t1.1.1, t1.1.2.1, t1.1.2.2), t0.2, t1.2, (⟨#[]⟩ : ByteArray)))))))) else (bif (t0.2 == 2) then ((c1 (t0.1.1, t0.1.2.1, t0.1.2.2)).bind fun t9 => (bif (t0.2 == 3) then ((c2 (t9.1.1, t9.1.2.1, t9.1.2.2) 64).bind fun t10 => (bif (t10.1.2.2 == 0) then ((c3 (t0.2, t9.2, t10.2)).bind fun t11 => (bif (!t11) then (some ((t10.1.1, t10.1.2.1, 3), 0, 0, (⟨#[]⟩ : ByteArray))) else (bif (t10.1.2.2 != 0) then (some ((t10.1.1, t10.1.2.1, t10.1.2.2), 0, 0, (⟨#[]⟩ : ByteArray))) else (some ((t10.1.1, t10.1.2.1, t10.1.2.2), t0.2, t9.2, t10.2))))) else (bif (t10.1.2.2 != 0) then (some ((t10.1.1, t10.1.2.1, t10.1.2.2), 0, 0, (⟨#[]⟩ : ByteArray))) else (some ((t10.1.1, t10.1.2.1, t10.1.2.2), t0.2, t9.2, t10.2))))) else (bif (t9.1.2.2 == 0) then ((c3 (t0.2, t9.2, (⟨#[]⟩ : ByteArray))).bind fun t12 => (bif (!t12) then (some ((t9.1.1, t9.1.2.1, 3), 0, 0, (⟨#[]⟩ : ByteArray))) else (bif (t9.1.2.2 != 0) then (some ((t9.1.1, t9.1.2.1, t9.1.2.2), 0, 0, (⟨#[]⟩ : ByteArray))) else (some ((t9.1.1, t9.1.2.1, t9.1.2.2), t0.2, t9.2, (⟨#[]⟩ : ByteArray)))))) else (bif (t9.1.2.2 != 0) then (some ((t9.1.1, t9.1.2.1, t9.1.2.2), 0, 0, (⟨#[]⟩ : ByteArray))) else (some ((t9.1.1, t9.1.2.1, t9.1.2.2), t0.2, t9.2, (⟨#[]⟩ : ByteArray))))))) else (bif (t0.2 == 3) then ((c2 (t0.1.1, t0.1.2.1, t0.1.2.2) 64).bind fun t13 => (bif (t13.1.2.2 == 0) then ((c3 (t0.2, 0, t13.2)).bind fun t14 => (bif (!t14) then (some ((t13.1.1, t13.1.2.1, 3), 0, 0, (⟨#[]⟩ : ByteArray))) else (bif (t13.1.2.2 != 0) then (some ((t13.1.1, t13.1.2.1, t13.1.2.2), 0, 0, (⟨#[]⟩ : ByteArray))) else (some ((t13.1.1, t13.1.2.1, t13.1.2.2), t0.2, 0, t13.2))))) else (bif (t13.1.2.2 != 0) then (some ((t13.1.1, t13.1.2.1, t13.1.2.2), 0, 0, (⟨#[]⟩ : ByteArray))) else (some ((t13.1.1, t13.1.2.1, t13.1.2.2), t0.2, 0, t13.2))))) else (bif (t0.1.2.2 == 0) then ((c3 (t0.2, 0, (⟨#[]⟩ : ByteArray))).bind fun t15 => (bif (!t15) then (some ((t0.1.1, t0.1.2.1, 3), 0, 0, (⟨#[]⟩ : ByteArray))) else (bif (t0.1.2.2 != 0) then (some ((t0.1.1, t0.1.2.1, t0.1.2.2), 0, 0, (⟨#[]⟩ : ByteArray))) else (some ((t0.1.1, t0.1.2.1, t0.1.2.2), t0.2, 0, (⟨#[]⟩ : ByteArray)))))) else (bif (t0.1.2.2 != 0) then (some ((t0.1.1, t0.1.2.1, t0.1.2.2), 0, 0, (⟨#[]⟩ : ByteArray))) else (some ((t0.1.1, t0.1.2.1, t0.1.2.2), t0.2, 0, (⟨#[]⟩ : ByteArray)))))))))
theorem F.pleachref06_Read.eq K a0 : F.pleachref06_Read (K + 1) a0 = F.pleachref06_Read.B (F.pleachref04_Byte K) (F.pleachref04_Int K) (F.pleachref04_Text K) (F.pleachref06_Is K) a0 := by kernel_rfl
noncomputable def V.pleachref06_Read (a0 : TScan) := lim fun v => F.pleachref06_Read (v 0) a0
theorem V.pleachref06_Read.of a0 {r} (h : F.pleachref06_Read.B V.pleachref04_Byte V.pleachref04_Int V.pleachref04_Text V.pleachref06_Is a0 = some r) : V.pleachref06_Read a0 = some r :=
  App.to (App.step 0 (fun v => F.pleachref06_Read.eq (v 0) a0) (by unfold F.pleachref06_Read.B; repeat' first | exact App.val | exact App.no | exact App.lim | apply App.cond | apply App.guard | apply App.meet | apply App.ite | refine App.bind ?_ fun _ => ?_)) h
noncomputable def F.pleachref25_read (K : Nat) (a0 : TScan) : Option (TScan × (List ByteArray) × (List TProp)) := evFn Try.prog sg K 63 [.agg [.val (.string a0.1), .val (.int .i64 a0.2.1), .val (.int .i64 a0.2.2)]] []
noncomputable def F.pleachref25_read.at (K : Nat) (p ns : List Nat) (s : St) : Option (TScan × (List ByteArray) × (List TProp)) := atFn Try.prog sg K 63 0 p ns s
noncomputable def F.pleachref25_read.in (K : Nat) (H : List Nat → List Nat → St → Option (TScan × (List ByteArray) × (List TProp))) (p ns : List Nat) (s : St) : Option (TScan × (List ByteArray) × (List TProp)) := inFn Try.prog sg K 63 0 [] H p ns s
theorem F.pleachref25_read.in_eq K p ns s : F.pleachref25_read.at K p ns s = F.pleachref25_read.in K (F.pleachref25_read.at K) p ns s := atFn_eq (P := Try.prog) (sg := sg) (K := K) (f := 63) (m := 0) [] p ns s
theorem F.pleachref25_read.in_main K a0 : F.pleachref25_read (K + 1) a0 = F.pleachref25_read.in K (F.pleachref25_read.at K) [] [] ⟨slots [.agg [.val (.string a0.1), .val (.int .i64 a0.2.1), .val (.int .i64 a0.2.2)]] 0, []⟩ := evFn_eq (P := Try.prog) (sg := sg) (K := K) (f := 63) (args := [.agg [.val (.string a0.1), .val (.int .i64 a0.2.1), .val (.int .i64 a0.2.2)]]) (σ := []) [] (by kernel_rfl)
def F.pleachref25_read.l1111010.st (a0 : TScan) (x0 : Int) (x1 : Int) (x2 : ByteArray) (x3 : Int) (x4 : Int) (x5 : List ByteArray) : St := ⟨[(1, .one (.sc (.ref 0 0))), (2, .one (.sc (.ref 1 0))), (5, .one (.sc (.own 2 none))), (6, .one (.sc (.own 3 none))), (7, vI x0), (8, vI x1)], [.cells 110 [.val (.string x2), .val (.int .i64 x3), .val (.int .i64 x4)], .cells 110 [.val (.string (⟨#[]⟩ : ByteArray)), .val (.int .i64 0), .val (.int .i64 0)], .elems .str x5, .elems sProp ([])]⟩
noncomputable def F.pleachref25_read.l1111010 (K n0 : Nat) (a0 : TScan) (x0 : Int) (x1 : Int) (x2 : ByteArray) (x3 : Int) (x4 : Int) (x5 : List ByteArray) := F.pleachref25_read.at K [1, 1, 1, 1, 0, 1, 0] [n0] (F.pleachref25_read.l1111010.st a0 x0 x1 x2 x3 x4 x5)
def F.pleachref25_read.l111111010.st (a0 : TScan) (x0 : Int) (x1 : Int) (x2 : ByteArray) (x3 : Int) (x4 : Int) (x5 : List ByteArray) (x6 : List TProp) : St := ⟨[(1, .one (.sc (.ref 0 0))), (2, .one (.sc (.ref 1 0))), (5, .one (.sc (.own 2 none))), (6, .one (.sc (.own 3 none))), (7, vI x0), (11, vI x1)], [.cells 110 [.val (.string x2), .val (.int .i64 x3), .val (.int .i64 x4)], .cells 110 [.val (.string (⟨#[]⟩ : ByteArray)), .val (.int .i64 0), .val (.int .i64 0)], .elems .str x5, .elems sProp x6]⟩
noncomputable def F.pleachref25_read.l111111010 (K n0 : Nat) (a0 : TScan) (x0 : Int) (x1 : Int) (x2 : ByteArray) (x3 : Int) (x4 : Int) (x5 : List ByteArray) (x6 : List TProp) := F.pleachref25_read.at K [1, 1, 1, 1, 1, 1, 0, 1, 0] [n0] (F.pleachref25_read.l111111010.st a0 x0 x1 x2 x3 x4 x5 x6)
noncomputable def F.pleachref25_read.l1111010.B (c0 : (TScan) → (Int) → Option (TScan × ByteArray)) (c1 : (TScan) → (Int) → (Int) → (ByteArray) → (Int) → (Int) → (List ByteArray) → Option (TScan × (List ByteArray) × (List TProp))) (c2 : (TScan) → (Int) → Option (TScan × Int)) (c3 : (TScan) → (Int) → (Int) → (ByteArray) → (Int) → (Int) → (List ByteArray) → (List TProp) → Option (TScan × (List ByteArray) × (List TProp))) (a0 : TScan) (x0 : Int) (x1 : Int) (x2 : ByteArray) (x3 : Int) (x4 : Int) (x5 : List ByteArray) : Option (TScan × (List ByteArray) × (List TProp)) :=
    (bif (decide (x1 < x0)) then ((c0 (x2, x3, x4) 100).bind fun t1 => (guardK (decide (x5.length + ([t1.2]).length ≤ nmax)) (c1 a0 x0 (w64 (x1 + 1)) t1.1.1 t1.1.2.1 t1.1.2.2 (x5 ++ [t1.2])))) else ((c2 (x2, x3, x4) 8).bind fun t2 => (c3 a0 t2.2 0 t2.1.1 t2.1.2.1 t2.1.2.2 x5 ([]))))
theorem F.pleachref25_read.l1111010.eq K n0 a0 x0 x1 x2 x3 x4 x5 : F.pleachref25_read.l1111010 K (n0 + 1) a0 x0 x1 x2 x3 x4 x5 = F.pleachref25_read.l1111010.B (F.pleachref04_Text K) (F.pleachref25_read.l1111010 K n0) (F.pleachref04_Num K) (F.pleachref25_read.l111111010 K K) a0 x0 x1 x2 x3 x4 x5 := (F.pleachref25_read.in_eq K [1, 1, 1, 1, 0, 1, 0] [n0 + 1] (F.pleachref25_read.l1111010.st a0 x0 x1 x2 x3 x4 x5)).trans ((show ∀ H, F.pleachref25_read.in K H [1, 1, 1, 1, 0, 1, 0] [n0 + 1] (F.pleachref25_read.l1111010.st a0 x0 x1 x2 x3 x4 x5) = F.pleachref25_read.l1111010.B (F.pleachref04_Text K) (fun a0 x0 x1 x2 x3 x4 x5 => H [1, 1, 1, 1, 0, 1, 0] [n0] (F.pleachref25_read.l1111010.st a0 x0 x1 x2 x3 x4 x5)) (F.pleachref04_Num K) (fun a0 x0 x1 x2 x3 x4 x5 x6 => H [1, 1, 1, 1, 1, 1, 0, 1, 0] [K] (F.pleachref25_read.l111111010.st a0 x0 x1 x2 x3 x4 x5 x6)) a0 x0 x1 x2 x3 x4 x5 from by intro H; kernel_rfl) (F.pleachref25_read.at K))
noncomputable def F.pleachref25_read.l111111010.B (c0 : (TScan) → (Int) → Option (TScan × ByteArray)) (c1 : (TScan) → Option (TScan × TValue)) (c2 : (TScan) → (Int) → (Int) → (ByteArray) → (Int) → (Int) → (List ByteArray) → (List TProp) → Option (TScan × (List ByteArray) × (List TProp))) (a0 : TScan) (x0 : Int) (x1 : Int) (x2 : ByteArray) (x3 : Int) (x4 : Int) (x5 : List ByteArray) (x6 : List TProp) : Option (TScan × (List ByteArray) × (List TProp)) :=
    (bif (decide (x1 < x0)) then ((c0 (x2, x3, x4) 100).bind fun t3 => ((c1 (t3.1.1, t3.1.2.1, t3.1.2.2)).bind fun t4 => (guardK (decide (x6.length + ([(t3.2, t4.2.1, t4.2.2.1, t4.2.2.2)]).length ≤ nmax)) (c2 a0 x0 (w64 (x1 + 1)) t4.1.1 t4.1.2.1 t4.1.2.2 x5 (x6 ++ [(t3.2, t4.2.1, t4.2.2.1, t4.2.2.2)]))))) else (some ((x2, x3, x4), x5, x6)))
theorem F.pleachref25_read.l111111010.eq K n0 a0 x0 x1 x2 x3 x4 x5 x6 : F.pleachref25_read.l111111010 K (n0 + 1) a0 x0 x1 x2 x3 x4 x5 x6 = F.pleachref25_read.l111111010.B (F.pleachref04_Text K) (F.pleachref06_Read K) (F.pleachref25_read.l111111010 K n0) a0 x0 x1 x2 x3 x4 x5 x6 := (F.pleachref25_read.in_eq K [1, 1, 1, 1, 1, 1, 0, 1, 0] [n0 + 1] (F.pleachref25_read.l111111010.st a0 x0 x1 x2 x3 x4 x5 x6)).trans ((show ∀ H, F.pleachref25_read.in K H [1, 1, 1, 1, 1, 1, 0, 1, 0] [n0 + 1] (F.pleachref25_read.l111111010.st a0 x0 x1 x2 x3 x4 x5 x6) = F.pleachref25_read.l111111010.B (F.pleachref04_Text K) (F.pleachref06_Read K) (fun a0 x0 x1 x2 x3 x4 x5 x6 => H [1, 1, 1, 1, 1, 1, 0, 1, 0] [n0] (F.pleachref25_read.l111111010.st a0 x0 x1 x2 x3 x4 x5 x6)) a0 x0 x1 x2 x3 x4 x5 x6 from by intro H; kernel_rfl) (F.pleachref25_read.at K))
noncomputable def F.pleachref25_read.B (c0 : (TScan) → (Int) → Option (TScan × Int)) (c1 : (TScan) → (Int) → (Int) → (ByteArray) → (Int) → (Int) → (List ByteArray) → Option (TScan × (List ByteArray) × (List TProp))) (a0 : TScan) : Option (TScan × (List ByteArray) × (List TProp)) :=
    ((c0 (a0.1, a0.2.1, a0.2.2) 8).bind fun t0 => (c1 a0 t0.2 0 t0.1.1 t0.1.2.1 t0.1.2.2 ([])))
theorem F.pleachref25_read.eq K a0 : F.pleachref25_read (K + 1) a0 = F.pleachref25_read.B (F.pleachref04_Num K) (F.pleachref25_read.l1111010 K K) a0 := (F.pleachref25_read.in_main K a0).trans ((show ∀ H, F.pleachref25_read.in K H [] [] ⟨slots [.agg [.val (.string a0.1), .val (.int .i64 a0.2.1), .val (.int .i64 a0.2.2)]] 0, []⟩ = F.pleachref25_read.B (F.pleachref04_Num K) (fun a0 x0 x1 x2 x3 x4 x5 => H [1, 1, 1, 1, 0, 1, 0] [K] (F.pleachref25_read.l1111010.st a0 x0 x1 x2 x3 x4 x5)) a0 from by intro H; kernel_rfl) (F.pleachref25_read.at K))
noncomputable def V.pleachref25_read.l1111010 (a0 : TScan) (x0 : Int) (x1 : Int) (x2 : ByteArray) (x3 : Int) (x4 : Int) (x5 : List ByteArray) := lim fun v => F.pleachref25_read.l1111010 (v 0) (v 1) a0 x0 x1 x2 x3 x4 x5
noncomputable def V.pleachref25_read.l111111010 (a0 : TScan) (x0 : Int) (x1 : Int) (x2 : ByteArray) (x3 : Int) (x4 : Int) (x5 : List ByteArray) (x6 : List TProp) := lim fun v => F.pleachref25_read.l111111010 (v 0) (v 1) a0 x0 x1 x2 x3 x4 x5 x6
noncomputable def V.pleachref25_read (a0 : TScan) := lim fun v => F.pleachref25_read (v 0) a0
theorem V.pleachref25_read.l1111010.of a0 x0 x1 x2 x3 x4 x5 {r} (h : F.pleachref25_read.l1111010.B V.pleachref04_Text V.pleachref25_read.l1111010 V.pleachref04_Num V.pleachref25_read.l111111010 a0 x0 x1 x2 x3 x4 x5 = some r) : V.pleachref25_read.l1111010 a0 x0 x1 x2 x3 x4 x5 = some r :=
  App.to (App.step 1 (fun v => F.pleachref25_read.l1111010.eq (v 0) (v 1) a0 x0 x1 x2 x3 x4 x5) (by unfold F.pleachref25_read.l1111010.B; repeat' first | exact App.val | exact App.no | exact App.lim | exact (App.enter 1 App.lim) | apply App.cond | apply App.guard | apply App.meet | apply App.ite | refine App.bind ?_ fun _ => ?_)) h
theorem V.pleachref25_read.l111111010.of a0 x0 x1 x2 x3 x4 x5 x6 {r} (h : F.pleachref25_read.l111111010.B V.pleachref04_Text V.pleachref06_Read V.pleachref25_read.l111111010 a0 x0 x1 x2 x3 x4 x5 x6 = some r) : V.pleachref25_read.l111111010 a0 x0 x1 x2 x3 x4 x5 x6 = some r :=
  App.to (App.step 1 (fun v => F.pleachref25_read.l111111010.eq (v 0) (v 1) a0 x0 x1 x2 x3 x4 x5 x6) (by unfold F.pleachref25_read.l111111010.B; repeat' first | exact App.val | exact App.no | exact App.lim | apply App.cond | apply App.guard | apply App.meet | apply App.ite | refine App.bind ?_ fun _ => ?_)) h
theorem V.pleachref25_read.of a0 {r} (h : F.pleachref25_read.B V.pleachref04_Num V.pleachref25_read.l1111010 a0 = some r) : V.pleachref25_read a0 = some r :=
  App.to (App.step 0 (fun v => F.pleachref25_read.eq (v 0) a0) (by unfold F.pleachref25_read.B; repeat' first | exact App.val | exact App.no | exact App.lim | exact (App.enter 1 App.lim) | apply App.cond | apply App.guard | apply App.meet | apply App.ite | refine App.bind ?_ fun _ => ?_)) h
noncomputable def F.pleachref25_TakeNode (K : Nat) (a0 : ByteArray) (a1 : ByteArray) : Option (TNode × Bool) := evFn Try.prog sg K 29 [.sc (.val (.string a0)), .sc (.val (.string a1))] []
noncomputable def F.pleachref25_TakeNode.B (c0 : (TScan) → Option (TScan × (List ByteArray) × (List TProp))) (c1 : (TNode) → Option (Int)) (c2 : (TNode) → Option (ByteArray)) (a0 : ByteArray) (a1 : ByteArray) : Option (TNode × Bool) :=
    ((c0 (a1, 0, 0)).bind fun t0 => (bif (t0.1.2.2 != 0) then (some (((⟨#[]⟩ : ByteArray), [], []), false)) else ((c1 (a0, t0.2.1, t0.2.2)).bind fun t1 => (bif (t1 != 0) then (some (((⟨#[]⟩ : ByteArray), [], []), false)) else ((c2 (a0, t0.2.1, t0.2.2)).bind fun t2 => (bif (!strEq t2 a1) then (some (((⟨#[]⟩ : ByteArray), [], []), false)) else (some ((a0, t0.2.1, t0.2.2), true))))))))
theorem F.pleachref25_TakeNode.eq K a0 a1 : F.pleachref25_TakeNode (K + 1) a0 a1 = F.pleachref25_TakeNode.B (F.pleachref25_read K) (F.pleachref25_Node K) (F.pleachref25_PutNode K) a0 a1 := by kernel_rfl
noncomputable def V.pleachref25_TakeNode (a0 : ByteArray) (a1 : ByteArray) := lim fun v => F.pleachref25_TakeNode (v 0) a0 a1
theorem V.pleachref25_TakeNode.of a0 a1 {r} (h : F.pleachref25_TakeNode.B V.pleachref25_read V.pleachref25_Node V.pleachref25_PutNode a0 a1 = some r) : V.pleachref25_TakeNode a0 a1 = some r :=
  App.to (App.step 0 (fun v => F.pleachref25_TakeNode.eq (v 0) a0 a1) (by unfold F.pleachref25_TakeNode.B; repeat' first | exact App.val | exact App.no | exact App.lim | apply App.cond | apply App.guard | apply App.meet | apply App.ite | refine App.bind ?_ fun _ => ?_)) h
noncomputable def F.pleachref25_TakeEdge (K : Nat) (a0 : ByteArray) (a1 : ByteArray) : Option (TEdge × Bool) := evFn Try.prog sg K 30 [.sc (.val (.string a0)), .sc (.val (.string a1))] []
noncomputable def F.pleachref25_TakeEdge.B (c0 : (TScan) → (Int) → Option (TScan × ByteArray)) (c1 : (TScan) → Option (TScan × (List ByteArray) × (List TProp))) (c2 : (TEdge) → Option (Int)) (c3 : (TEdge) → Option (ByteArray)) (a0 : ByteArray) (a1 : ByteArray) : Option (TEdge × Bool) :=
    ((c0 (a1, 0, 0) 100).bind fun t0 => ((c0 (t0.1.1, t0.1.2.1, t0.1.2.2) 100).bind fun t1 => ((c1 (t1.1.1, t1.1.2.1, t1.1.2.2)).bind fun t2 => (bif (t2.1.2.2 != 0) then (some (((⟨#[]⟩ : ByteArray), (⟨#[]⟩ : ByteArray), (⟨#[]⟩ : ByteArray), [], []), false)) else ((c2 (a0, t0.2, t1.2, t2.2.1, t2.2.2)).bind fun t3 => (bif (t3 != 0) then (some (((⟨#[]⟩ : ByteArray), (⟨#[]⟩ : ByteArray), (⟨#[]⟩ : ByteArray), [], []), false)) else ((c3 (a0, t0.2, t1.2, t2.2.1, t2.2.2)).bind fun t4 => (bif (!strEq t4 a1) then (some (((⟨#[]⟩ : ByteArray), (⟨#[]⟩ : ByteArray), (⟨#[]⟩ : ByteArray), [], []), false)) else (some ((a0, t0.2, t1.2, t2.2.1, t2.2.2), true))))))))))
theorem F.pleachref25_TakeEdge.eq K a0 a1 : F.pleachref25_TakeEdge (K + 1) a0 a1 = F.pleachref25_TakeEdge.B (F.pleachref04_Text K) (F.pleachref25_read K) (F.pleachref25_Edge K) (F.pleachref25_PutEdge K) a0 a1 := by kernel_rfl
noncomputable def V.pleachref25_TakeEdge (a0 : ByteArray) (a1 : ByteArray) := lim fun v => F.pleachref25_TakeEdge (v 0) a0 a1
theorem V.pleachref25_TakeEdge.of a0 a1 {r} (h : F.pleachref25_TakeEdge.B V.pleachref04_Text V.pleachref25_read V.pleachref25_Edge V.pleachref25_PutEdge a0 a1 = some r) : V.pleachref25_TakeEdge a0 a1 = some r :=
  App.to (App.step 0 (fun v => F.pleachref25_TakeEdge.eq (v 0) a0 a1) (by unfold F.pleachref25_TakeEdge.B; repeat' first | exact App.val | exact App.no | exact App.lim | apply App.cond | apply App.guard | apply App.meet | apply App.ite | refine App.bind ?_ fun _ => ?_)) h
noncomputable def F.scan_New (K : Nat) (a0 : ByteArray) : Option (TScanx) := evFn Try.prog sg K 65 [.sc (.val (.string a0))] []
noncomputable def F.scan_New.B (a0 : ByteArray) : Option (TScanx) :=
    (some (a0, 0, 0, true))
theorem F.scan_New.eq K a0 : F.scan_New (K + 1) a0 = F.scan_New.B a0 := by kernel_rfl
noncomputable def V.scan_New (a0 : ByteArray) := lim fun v => F.scan_New (v 0) a0
theorem V.scan_New.of a0 {r} (h : F.scan_New.B a0 = some r) : V.scan_New a0 = some r :=
  App.to (App.step 0 (fun v => F.scan_New.eq (v 0) a0) (by unfold F.scan_New.B; repeat' first | exact App.val | exact App.no | exact App.lim | apply App.cond | apply App.guard | apply App.meet | apply App.ite | refine App.bind ?_ fun _ => ?_)) h
noncomputable def F.scan_Scan_Err (K : Nat) (a0 : TScanx) : Option (Int × TScanx) := evFn Try.prog sg K 94 [.sc (.ref 0 0)] [.cells 143 [.val (.string a0.1), .val (.int .i64 a0.2.1), .val (.int .i64 a0.2.2.1), .val (.bool a0.2.2.2)]]
noncomputable def F.scan_Scan_Err.B (a0 : TScanx) : Option (Int × TScanx) :=
    (bif (!a0.2.2.2) then (some (1, a0.1, a0.2.1, a0.2.2.1, a0.2.2.2)) else (some (a0.2.2.1, a0.1, a0.2.1, a0.2.2.1, a0.2.2.2)))
theorem F.scan_Scan_Err.eq K a0 : F.scan_Scan_Err (K + 1) a0 = F.scan_Scan_Err.B a0 := by kernel_rfl
noncomputable def V.scan_Scan_Err (a0 : TScanx) := lim fun v => F.scan_Scan_Err (v 0) a0
theorem V.scan_Scan_Err.of a0 {r} (h : F.scan_Scan_Err.B a0 = some r) : V.scan_Scan_Err a0 = some r :=
  App.to (App.step 0 (fun v => F.scan_Scan_Err.eq (v 0) a0) (by unfold F.scan_Scan_Err.B; repeat' first | exact App.val | exact App.no | exact App.lim | apply App.cond | apply App.guard | apply App.meet | apply App.ite | refine App.bind ?_ fun _ => ?_)) h
noncomputable def F.varint_Get (K : Nat) (a0 : ByteArray) : Option (Int × Int × Bool) := evFn Try.prog sg K 113 [.sc (.val (.string a0))] []
noncomputable def F.varint_Get.at (K : Nat) (p ns : List Nat) (s : St) : Option (Int × Int × Bool) := atFn Try.prog sg K 113 0 p ns s
noncomputable def F.varint_Get.in (K : Nat) (H : List Nat → List Nat → St → Option (Int × Int × Bool)) (p ns : List Nat) (s : St) : Option (Int × Int × Bool) := inFn Try.prog sg K 113 0 [] H p ns s
theorem F.varint_Get.in_eq K p ns s : F.varint_Get.at K p ns s = F.varint_Get.in K (F.varint_Get.at K) p ns s := atFn_eq (P := Try.prog) (sg := sg) (K := K) (f := 113) (m := 0) [] p ns s
theorem F.varint_Get.in_main K a0 : F.varint_Get (K + 1) a0 = F.varint_Get.in K (F.varint_Get.at K) [] [] ⟨slots [.sc (.val (.string a0))] 0, []⟩ := evFn_eq (P := Try.prog) (sg := sg) (K := K) (f := 113) (args := [.sc (.val (.string a0))]) (σ := []) [] (by kernel_rfl)
def F.varint_Get.l1010.st (a0 : ByteArray) (x0 : Int) (x1 : Int) : St := ⟨[(0, vS a0), (2, .one (.sc (.val (.int .u64 x0)))), (9, vI (if 10 < (a0.size : Int) then 10 else (a0.size : Int))), (10, vI x1)], []⟩
noncomputable def F.varint_Get.l1010 (K n0 : Nat) (a0 : ByteArray) (x0 : Int) (x1 : Int) := F.varint_Get.at K [1, 0, 1, 0] [n0] (F.varint_Get.l1010.st a0 x0 x1)
noncomputable def F.varint_Get.l1010.B (c0 : (ByteArray) → (Int) → (Int) → Option (Int × Int × Bool)) (a0 : ByteArray) (x0 : Int) (x1 : Int) : Option (Int × Int × Bool) :=
    (bif (decide (x1 < (if 10 < (a0.size : Int) then 10 else (a0.size : Int)))) then (guardK (decide (0 ≤ x1) && decide (x1 < (a0.size : Int))) (bif (x1 == 9) then (bif (decide ((IntKind.wrap .u64 (byteAt a0 x1)) > 1)) then (some (0, 0, false)) else (if (w64 (7 * x1)) < 0 then none else (bif (decide ((IntKind.wrap .u64 (byteAt a0 x1)) ≥ 128)) then (c0 a0 (IntKind.wrap .u64 ((BitVec.ofInt 64 x0 ||| BitVec.ofInt 64 (IntKind.wrap .u64 ((IntKind.wrap .u64 ((BitVec.ofInt 64 (IntKind.wrap .u64 (byteAt a0 x1)) &&& BitVec.ofInt 64 127).toNat : Int)) * 2 ^ (min (w64 (7 * x1)).toNat 64)))).toNat : Int)) (w64 (x1 + 1))) else (bif ((IntKind.wrap .u64 (byteAt a0 x1)) == 0) then (bif (decide (x1 > 0)) then (some (0, 0, false)) else (some ((IntKind.wrap .u64 ((BitVec.ofInt 64 x0 ||| BitVec.ofInt 64 (IntKind.wrap .u64 ((IntKind.wrap .u64 ((BitVec.ofInt 64 (IntKind.wrap .u64 (byteAt a0 x1)) &&& BitVec.ofInt 64 127).toNat : Int)) * 2 ^ (min (w64 (7 * x1)).toNat 64)))).toNat : Int)), (w64 (x1 + 1)), true))) else (some ((IntKind.wrap .u64 ((BitVec.ofInt 64 x0 ||| BitVec.ofInt 64 (IntKind.wrap .u64 ((IntKind.wrap .u64 ((BitVec.ofInt 64 (IntKind.wrap .u64 (byteAt a0 x1)) &&& BitVec.ofInt 64 127).toNat : Int)) * 2 ^ (min (w64 (7 * x1)).toNat 64)))).toNat : Int)), (w64 (x1 + 1)), true)))))) else (if (w64 (7 * x1)) < 0 then none else (bif (decide ((IntKind.wrap .u64 (byteAt a0 x1)) ≥ 128)) then (c0 a0 (IntKind.wrap .u64 ((BitVec.ofInt 64 x0 ||| BitVec.ofInt 64 (IntKind.wrap .u64 ((IntKind.wrap .u64 ((BitVec.ofInt 64 (IntKind.wrap .u64 (byteAt a0 x1)) &&& BitVec.ofInt 64 127).toNat : Int)) * 2 ^ (min (w64 (7 * x1)).toNat 64)))).toNat : Int)) (w64 (x1 + 1))) else (bif ((IntKind.wrap .u64 (byteAt a0 x1)) == 0) then (bif (decide (x1 > 0)) then (some (0, 0, false)) else (some ((IntKind.wrap .u64 ((BitVec.ofInt 64 x0 ||| BitVec.ofInt 64 (IntKind.wrap .u64 ((IntKind.wrap .u64 ((BitVec.ofInt 64 (IntKind.wrap .u64 (byteAt a0 x1)) &&& BitVec.ofInt 64 127).toNat : Int)) * 2 ^ (min (w64 (7 * x1)).toNat 64)))).toNat : Int)), (w64 (x1 + 1)), true))) else (some ((IntKind.wrap .u64 ((BitVec.ofInt 64 x0 ||| BitVec.ofInt 64 (IntKind.wrap .u64 ((IntKind.wrap .u64 ((BitVec.ofInt 64 (IntKind.wrap .u64 (byteAt a0 x1)) &&& BitVec.ofInt 64 127).toNat : Int)) * 2 ^ (min (w64 (7 * x1)).toNat 64)))).toNat : Int)), (w64 (x1 + 1)), true))))))) else (some (0, 0, false)))
theorem F.varint_Get.l1010.eq K n0 a0 x0 x1 : F.varint_Get.l1010 K (n0 + 1) a0 x0 x1 = F.varint_Get.l1010.B (F.varint_Get.l1010 K n0) a0 x0 x1 := (F.varint_Get.in_eq K [1, 0, 1, 0] [n0 + 1] (F.varint_Get.l1010.st a0 x0 x1)).trans ((show ∀ H, F.varint_Get.in K H [1, 0, 1, 0] [n0 + 1] (F.varint_Get.l1010.st a0 x0 x1) = F.varint_Get.l1010.B (fun a0 x0 x1 => H [1, 0, 1, 0] [n0] (F.varint_Get.l1010.st a0 x0 x1)) a0 x0 x1 from by intro H; kernel_rfl) (F.varint_Get.at K))
noncomputable def F.varint_Get.B (c0 : (ByteArray) → (Int) → (Int) → Option (Int × Int × Bool)) (a0 : ByteArray) : Option (Int × Int × Bool) :=
    (c0 a0 0 0)
theorem F.varint_Get.eq K a0 : F.varint_Get (K + 1) a0 = F.varint_Get.B (F.varint_Get.l1010 K K) a0 := (F.varint_Get.in_main K a0).trans ((show ∀ H, F.varint_Get.in K H [] [] ⟨slots [.sc (.val (.string a0))] 0, []⟩ = F.varint_Get.B (fun a0 x0 x1 => H [1, 0, 1, 0] [K] (F.varint_Get.l1010.st a0 x0 x1)) a0 from by intro H; kernel_rfl) (F.varint_Get.at K))
noncomputable def V.varint_Get.l1010 (a0 : ByteArray) (x0 : Int) (x1 : Int) := lim fun v => F.varint_Get.l1010 (v 0) (v 1) a0 x0 x1
noncomputable def V.varint_Get (a0 : ByteArray) := lim fun v => F.varint_Get (v 0) a0
theorem V.varint_Get.l1010.of a0 x0 x1 {r} (h : F.varint_Get.l1010.B V.varint_Get.l1010 a0 x0 x1 = some r) : V.varint_Get.l1010 a0 x0 x1 = some r :=
  App.to (App.step 1 (fun v => F.varint_Get.l1010.eq (v 0) (v 1) a0 x0 x1) (by unfold F.varint_Get.l1010.B; repeat' first | exact App.val | exact App.no | exact App.lim | apply App.cond | apply App.guard | apply App.meet | apply App.ite | refine App.bind ?_ fun _ => ?_)) h
theorem V.varint_Get.of a0 {r} (h : F.varint_Get.B V.varint_Get.l1010 a0 = some r) : V.varint_Get a0 = some r :=
  App.to (App.step 0 (fun v => F.varint_Get.eq (v 0) a0) (by unfold F.varint_Get.B; repeat' first | exact App.val | exact App.no | exact App.lim | exact (App.enter 1 App.lim) | apply App.cond | apply App.guard | apply App.meet | apply App.ite | refine App.bind ?_ fun _ => ?_)) h
noncomputable def F.scan_Scan_fail (K : Nat) (a0 : TScanx) (a1 : Int) : Option (TScanx) := evFn Try.prog sg K 114 [.sc (.ref 0 0), .sc (.val (.int .i64 a1))] [.cells 143 [.val (.string a0.1), .val (.int .i64 a0.2.1), .val (.int .i64 a0.2.2.1), .val (.bool a0.2.2.2)]]
noncomputable def F.scan_Scan_fail.B (c0 : (TScanx) → Option (Int × TScanx)) (a0 : TScanx) (a1 : Int) : Option (TScanx) :=
    ((c0 (a0.1, a0.2.1, a0.2.2.1, a0.2.2.2)).bind fun t0 => (bif (t0.1 == 0) then (some (t0.2.1, t0.2.2.1, a1, t0.2.2.2.2)) else (some (t0.2.1, t0.2.2.1, t0.2.2.2.1, t0.2.2.2.2))))
theorem F.scan_Scan_fail.eq K a0 a1 : F.scan_Scan_fail (K + 1) a0 a1 = F.scan_Scan_fail.B (F.scan_Scan_Err K) a0 a1 := by kernel_rfl
noncomputable def V.scan_Scan_fail (a0 : TScanx) (a1 : Int) := lim fun v => F.scan_Scan_fail (v 0) a0 a1
theorem V.scan_Scan_fail.of a0 a1 {r} (h : F.scan_Scan_fail.B V.scan_Scan_Err a0 a1 = some r) : V.scan_Scan_fail a0 a1 = some r :=
  App.to (App.step 0 (fun v => F.scan_Scan_fail.eq (v 0) a0 a1) (by unfold F.scan_Scan_fail.B; repeat' first | exact App.val | exact App.no | exact App.lim | apply App.cond | apply App.guard | apply App.meet | apply App.ite | refine App.bind ?_ fun _ => ?_)) h
noncomputable def F.scan_Scan_Num (K : Nat) (a0 : TScanx) (a1 : Int) : Option (Int × TScanx) := evFn Try.prog sg K 92 [.sc (.ref 0 0), .sc (.val (.int .i64 a1))] [.cells 143 [.val (.string a0.1), .val (.int .i64 a0.2.1), .val (.int .i64 a0.2.2.1), .val (.bool a0.2.2.2)]]
noncomputable def F.scan_Scan_Num.B (c0 : (TScanx) → Option (Int × TScanx)) (c1 : (ByteArray) → Option (Int × Int × Bool)) (c2 : (TScanx) → (Int) → Option (TScanx)) (a0 : TScanx) (a1 : Int) : Option (Int × TScanx) :=
    ((c0 (a0.1, a0.2.1, a0.2.2.1, a0.2.2.2)).bind fun t0 => (bif (t0.1 != 0) then (some (0, t0.2.1, t0.2.2.1, t0.2.2.2.1, t0.2.2.2.2)) else (guardK (decide (0 ≤ t0.2.2.1) && decide (t0.2.2.1 ≤ (t0.2.1.size : Int)) && decide ((t0.2.1.size : Int) ≤ (t0.2.1.size : Int))) ((c1 (t0.2.1.extract t0.2.2.1.toNat (t0.2.1.size : Int).toNat)).bind fun t1 => (bif (!t1.2.2) then ((c2 (t0.2.1, t0.2.2.1, t0.2.2.2.1, t0.2.2.2.2) 3).bind fun t2 => (some (0, t2.1, t2.2.1, t2.2.2.1, t2.2.2.2))) else (bif (decide (a1 < 0)) then ((c2 (t0.2.1, t0.2.2.1, t0.2.2.2.1, t0.2.2.2.2) 5).bind fun t3 => (some (0, t3.1, t3.2.1, t3.2.2.1, t3.2.2.2))) else (bif (decide (t1.1 > (IntKind.wrap .u64 a1))) then ((c2 (t0.2.1, t0.2.2.1, t0.2.2.2.1, t0.2.2.2.2) 5).bind fun t4 => (some (0, t4.1, t4.2.1, t4.2.2.1, t4.2.2.2))) else (some ((w64 t1.1), t0.2.1, (w64 (t0.2.2.1 + t1.2.1)), t0.2.2.2.1, t0.2.2.2.2)))))))))
theorem F.scan_Scan_Num.eq K a0 a1 : F.scan_Scan_Num (K + 1) a0 a1 = F.scan_Scan_Num.B (F.scan_Scan_Err K) (F.varint_Get K) (F.scan_Scan_fail K) a0 a1 := by kernel_rfl
noncomputable def V.scan_Scan_Num (a0 : TScanx) (a1 : Int) := lim fun v => F.scan_Scan_Num (v 0) a0 a1
theorem V.scan_Scan_Num.of a0 a1 {r} (h : F.scan_Scan_Num.B V.scan_Scan_Err V.varint_Get V.scan_Scan_fail a0 a1 = some r) : V.scan_Scan_Num a0 a1 = some r :=
  App.to (App.step 0 (fun v => F.scan_Scan_Num.eq (v 0) a0 a1) (by unfold F.scan_Scan_Num.B; repeat' first | exact App.val | exact App.no | exact App.lim | apply App.cond | apply App.guard | apply App.meet | apply App.ite | refine App.bind ?_ fun _ => ?_)) h
noncomputable def F.scan_Scan_take (K : Nat) (a0 : TScanx) (a1 : Int) : Option (ByteArray × TScanx) := evFn Try.prog sg K 95 [.sc (.ref 0 0), .sc (.val (.int .i64 a1))] [.cells 143 [.val (.string a0.1), .val (.int .i64 a0.2.1), .val (.int .i64 a0.2.2.1), .val (.bool a0.2.2.2)]]
noncomputable def F.scan_Scan_take.B (c0 : (TScanx) → Option (Int × TScanx)) (a0 : TScanx) (a1 : Int) : Option (ByteArray × TScanx) :=
    ((c0 (a0.1, a0.2.1, a0.2.2.1, a0.2.2.2)).bind fun t0 => (bif (t0.1 != 0) then (some ((⟨#[]⟩ : ByteArray), t0.2.1, t0.2.2.1, t0.2.2.2.1, t0.2.2.2.2)) else (bif (decide (a1 < 0)) then (some ((⟨#[]⟩ : ByteArray), t0.2.1, t0.2.2.1, 3, t0.2.2.2.2)) else (bif (decide (a1 > (w64 ((t0.2.1.size : Int) - t0.2.2.1)))) then (some ((⟨#[]⟩ : ByteArray), t0.2.1, t0.2.2.1, 3, t0.2.2.2.2)) else (guardK (decide (0 ≤ t0.2.2.1) && decide (t0.2.2.1 ≤ (w64 (t0.2.2.1 + a1))) && decide ((w64 (t0.2.2.1 + a1)) ≤ (t0.2.1.size : Int))) (some ((t0.2.1.extract t0.2.2.1.toNat (w64 (t0.2.2.1 + a1)).toNat), t0.2.1, (w64 (t0.2.2.1 + a1)), t0.2.2.2.1, t0.2.2.2.2)))))))
theorem F.scan_Scan_take.eq K a0 a1 : F.scan_Scan_take (K + 1) a0 a1 = F.scan_Scan_take.B (F.scan_Scan_Err K) a0 a1 := by kernel_rfl
noncomputable def V.scan_Scan_take (a0 : TScanx) (a1 : Int) := lim fun v => F.scan_Scan_take (v 0) a0 a1
theorem V.scan_Scan_take.of a0 a1 {r} (h : F.scan_Scan_take.B V.scan_Scan_Err a0 a1 = some r) : V.scan_Scan_take a0 a1 = some r :=
  App.to (App.step 0 (fun v => F.scan_Scan_take.eq (v 0) a0 a1) (by unfold F.scan_Scan_take.B; repeat' first | exact App.val | exact App.no | exact App.lim | apply App.cond | apply App.guard | apply App.meet | apply App.ite | refine App.bind ?_ fun _ => ?_)) h
noncomputable def F.scan_Scan_Text (K : Nat) (a0 : TScanx) (a1 : Int) : Option (ByteArray × TScanx) := evFn Try.prog sg K 68 [.sc (.ref 0 0), .sc (.val (.int .i64 a1))] [.cells 143 [.val (.string a0.1), .val (.int .i64 a0.2.1), .val (.int .i64 a0.2.2.1), .val (.bool a0.2.2.2)]]
noncomputable def F.scan_Scan_Text.B (c0 : (TScanx) → (Int) → Option (Int × TScanx)) (c1 : (TScanx) → (Int) → Option (ByteArray × TScanx)) (a0 : TScanx) (a1 : Int) : Option (ByteArray × TScanx) :=
    ((c0 (a0.1, a0.2.1, a0.2.2.1, a0.2.2.2) a1).bind fun t0 => ((c1 (t0.2.1, t0.2.2.1, t0.2.2.2.1, t0.2.2.2.2) t0.1).bind fun t1 => (some (t1.1, t1.2.1, t1.2.2.1, t1.2.2.2.1, t1.2.2.2.2))))
theorem F.scan_Scan_Text.eq K a0 a1 : F.scan_Scan_Text (K + 1) a0 a1 = F.scan_Scan_Text.B (F.scan_Scan_Num K) (F.scan_Scan_take K) a0 a1 := by kernel_rfl
noncomputable def V.scan_Scan_Text (a0 : TScanx) (a1 : Int) := lim fun v => F.scan_Scan_Text (v 0) a0 a1
theorem V.scan_Scan_Text.of a0 a1 {r} (h : F.scan_Scan_Text.B V.scan_Scan_Num V.scan_Scan_take a0 a1 = some r) : V.scan_Scan_Text a0 a1 = some r :=
  App.to (App.step 0 (fun v => F.scan_Scan_Text.eq (v 0) a0 a1) (by unfold F.scan_Scan_Text.B; repeat' first | exact App.val | exact App.no | exact App.lim | apply App.cond | apply App.guard | apply App.meet | apply App.ite | refine App.bind ?_ fun _ => ?_)) h
noncomputable def F.scan_Scan_Byte (K : Nat) (a0 : TScanx) : Option (Int × TScanx) := evFn Try.prog sg K 115 [.sc (.ref 0 0)] [.cells 143 [.val (.string a0.1), .val (.int .i64 a0.2.1), .val (.int .i64 a0.2.2.1), .val (.bool a0.2.2.2)]]
noncomputable def F.scan_Scan_Byte.B (c0 : (TScanx) → (Int) → Option (ByteArray × TScanx)) (a0 : TScanx) : Option (Int × TScanx) :=
    ((c0 (a0.1, a0.2.1, a0.2.2.1, a0.2.2.2) 1).bind fun t0 => (bif (strEq t0.1 (⟨#[]⟩ : ByteArray)) then (some (0, t0.2.1, t0.2.2.1, t0.2.2.2.1, t0.2.2.2.2)) else (guardK (decide (0 < (t0.1.size : Int))) (some ((w64 (byteAt t0.1 0)), t0.2.1, t0.2.2.1, t0.2.2.2.1, t0.2.2.2.2)))))
theorem F.scan_Scan_Byte.eq K a0 : F.scan_Scan_Byte (K + 1) a0 = F.scan_Scan_Byte.B (F.scan_Scan_take K) a0 := by kernel_rfl
noncomputable def V.scan_Scan_Byte (a0 : TScanx) := lim fun v => F.scan_Scan_Byte (v 0) a0
theorem V.scan_Scan_Byte.of a0 {r} (h : F.scan_Scan_Byte.B V.scan_Scan_take a0 = some r) : V.scan_Scan_Byte a0 = some r :=
  App.to (App.step 0 (fun v => F.scan_Scan_Byte.eq (v 0) a0) (by unfold F.scan_Scan_Byte.B; repeat' first | exact App.val | exact App.no | exact App.lim | apply App.cond | apply App.guard | apply App.meet | apply App.ite | refine App.bind ?_ fun _ => ?_)) h
noncomputable def F.scan_Scan_Fail (K : Nat) (a0 : TScanx) (a1 : Int) : Option (TScanx) := evFn Try.prog sg K 117 [.sc (.ref 0 0), .sc (.val (.int .i64 a1))] [.cells 143 [.val (.string a0.1), .val (.int .i64 a0.2.1), .val (.int .i64 a0.2.2.1), .val (.bool a0.2.2.2)]]
noncomputable def F.scan_Scan_Fail.B (c0 : (TScanx) → (Int) → Option (TScanx)) (a0 : TScanx) (a1 : Int) : Option (TScanx) :=
    (bif (a1 != 0) then ((c0 (a0.1, a0.2.1, a0.2.2.1, a0.2.2.2) a1).bind fun t0 => (some (t0.1, t0.2.1, t0.2.2.1, t0.2.2.2))) else (some (a0.1, a0.2.1, a0.2.2.1, a0.2.2.2)))
theorem F.scan_Scan_Fail.eq K a0 a1 : F.scan_Scan_Fail (K + 1) a0 a1 = F.scan_Scan_Fail.B (F.scan_Scan_fail K) a0 a1 := by kernel_rfl
noncomputable def V.scan_Scan_Fail (a0 : TScanx) (a1 : Int) := lim fun v => F.scan_Scan_Fail (v 0) a0 a1
theorem V.scan_Scan_Fail.of a0 a1 {r} (h : F.scan_Scan_Fail.B V.scan_Scan_fail a0 a1 = some r) : V.scan_Scan_Fail a0 a1 = some r :=
  App.to (App.step 0 (fun v => F.scan_Scan_Fail.eq (v 0) a0 a1) (by unfold F.scan_Scan_Fail.B; repeat' first | exact App.val | exact App.no | exact App.lim | apply App.cond | apply App.guard | apply App.meet | apply App.ite | refine App.bind ?_ fun _ => ?_)) h
noncomputable def F.varint_Zag (K : Nat) (a0 : Int) : Option (Int) := evFn Try.prog sg K 137 [.sc (.val (.int .u64 a0))] []
noncomputable def F.varint_Zag.B (a0 : Int) : Option (Int) :=
    (some (w64 ((BitVec.ofInt 64 (w64 (Int.fdiv a0 (2 ^ 1))) ^^^ BitVec.ofInt 64 (w64 (0 - (w64 (IntKind.wrap .u64 ((BitVec.ofInt 64 a0 &&& BitVec.ofInt 64 1).toNat : Int)))))).toNat : Int)))
theorem F.varint_Zag.eq K a0 : F.varint_Zag (K + 1) a0 = F.varint_Zag.B a0 := by kernel_rfl
noncomputable def V.varint_Zag (a0 : Int) := lim fun v => F.varint_Zag (v 0) a0
theorem V.varint_Zag.of a0 {r} (h : F.varint_Zag.B a0 = some r) : V.varint_Zag a0 = some r :=
  App.to (App.step 0 (fun v => F.varint_Zag.eq (v 0) a0) (by unfold F.varint_Zag.B; repeat' first | exact App.val | exact App.no | exact App.lim | apply App.cond | apply App.guard | apply App.meet | apply App.ite | refine App.bind ?_ fun _ => ?_)) h
noncomputable def F.varint_GetInt (K : Nat) (a0 : ByteArray) : Option (Int × Int × Bool) := evFn Try.prog sg K 129 [.sc (.val (.string a0))] []
noncomputable def F.varint_GetInt.B (c0 : (ByteArray) → Option (Int × Int × Bool)) (c1 : (Int) → Option (Int)) (a0 : ByteArray) : Option (Int × Int × Bool) :=
    ((c0 a0).bind fun t0 => ((c1 t0.1).bind fun t1 => (some (t1, t0.2.1, t0.2.2))))
theorem F.varint_GetInt.eq K a0 : F.varint_GetInt (K + 1) a0 = F.varint_GetInt.B (F.varint_Get K) (F.varint_Zag K) a0 := by kernel_rfl
noncomputable def V.varint_GetInt (a0 : ByteArray) := lim fun v => F.varint_GetInt (v 0) a0
theorem V.varint_GetInt.of a0 {r} (h : F.varint_GetInt.B V.varint_Get V.varint_Zag a0 = some r) : V.varint_GetInt a0 = some r :=
  App.to (App.step 0 (fun v => F.varint_GetInt.eq (v 0) a0) (by unfold F.varint_GetInt.B; repeat' first | exact App.val | exact App.no | exact App.lim | apply App.cond | apply App.guard | apply App.meet | apply App.ite | refine App.bind ?_ fun _ => ?_)) h
noncomputable def F.scan_Scan_Int (K : Nat) (a0 : TScanx) : Option (Int × TScanx) := evFn Try.prog sg K 116 [.sc (.ref 0 0)] [.cells 143 [.val (.string a0.1), .val (.int .i64 a0.2.1), .val (.int .i64 a0.2.2.1), .val (.bool a0.2.2.2)]]
noncomputable def F.scan_Scan_Int.B (c0 : (TScanx) → Option (Int × TScanx)) (c1 : (ByteArray) → Option (Int × Int × Bool)) (c2 : (TScanx) → (Int) → Option (TScanx)) (a0 : TScanx) : Option (Int × TScanx) :=
    ((c0 (a0.1, a0.2.1, a0.2.2.1, a0.2.2.2)).bind fun t0 => (bif (t0.1 != 0) then (some (0, t0.2.1, t0.2.2.1, t0.2.2.2.1, t0.2.2.2.2)) else (guardK (decide (0 ≤ t0.2.2.1) && decide (t0.2.2.1 ≤ (t0.2.1.size : Int)) && decide ((t0.2.1.size : Int) ≤ (t0.2.1.size : Int))) ((c1 (t0.2.1.extract t0.2.2.1.toNat (t0.2.1.size : Int).toNat)).bind fun t1 => (bif (!t1.2.2) then ((c2 (t0.2.1, t0.2.2.1, t0.2.2.2.1, t0.2.2.2.2) 3).bind fun t2 => (some (0, t2.1, t2.2.1, t2.2.2.1, t2.2.2.2))) else (some (t1.1, t0.2.1, (w64 (t0.2.2.1 + t1.2.1)), t0.2.2.2.1, t0.2.2.2.2)))))))
theorem F.scan_Scan_Int.eq K a0 : F.scan_Scan_Int (K + 1) a0 = F.scan_Scan_Int.B (F.scan_Scan_Err K) (F.varint_GetInt K) (F.scan_Scan_fail K) a0 := by kernel_rfl
noncomputable def V.scan_Scan_Int (a0 : TScanx) := lim fun v => F.scan_Scan_Int (v 0) a0
theorem V.scan_Scan_Int.of a0 {r} (h : F.scan_Scan_Int.B V.scan_Scan_Err V.varint_GetInt V.scan_Scan_fail a0 = some r) : V.scan_Scan_Int a0 = some r :=
  App.to (App.step 0 (fun v => F.scan_Scan_Int.eq (v 0) a0) (by unfold F.scan_Scan_Int.B; repeat' first | exact App.val | exact App.no | exact App.lim | apply App.cond | apply App.guard | apply App.meet | apply App.ite | refine App.bind ?_ fun _ => ?_)) h
noncomputable def F.value_Read (K : Nat) (a0 : TScanx) : Option (TValue × TScanx) := evFn Try.prog sg K 93 [.sc (.ref 0 0)] [.cells 143 [.val (.string a0.1), .val (.int .i64 a0.2.1), .val (.int .i64 a0.2.2.1), .val (.bool a0.2.2.2)]]
noncomputable def F.value_Read.B (c0 : (TScanx) → Option (Int × TScanx)) (c1 : (TScanx) → Option (Int × TScanx)) (c2 : (TValue) → Option (Int)) (c3 : (TScanx) → (Int) → Option (TScanx)) (c4 : (TScanx) → Option (Int × TScanx)) (c5 : (TScanx) → (Int) → Option (ByteArray × TScanx)) (a0 : TScanx) : Option (TValue × TScanx) :=
    ((c0 (a0.1, a0.2.1, a0.2.2.1, a0.2.2.2)).bind fun t0 => (bif (t0.1 == 1) then ((c0 (t0.2.1, t0.2.2.1, t0.2.2.2.1, t0.2.2.2.2)).bind fun t1 => ((c1 (t1.2.1, t1.2.2.1, t1.2.2.2.1, t1.2.2.2.2)).bind fun t2 => (bif (t2.1 != 0) then (some ((0, 0, (⟨#[]⟩ : ByteArray)), t2.2.1, t2.2.2.1, t2.2.2.2.1, t2.2.2.2.2)) else ((c2 (t0.1, t1.1, (⟨#[]⟩ : ByteArray))).bind fun t3 => (bif (t3 != 0) then ((c3 (t2.2.1, t2.2.2.1, t2.2.2.2.1, t2.2.2.2.2) 3).bind fun t4 => (some ((0, 0, (⟨#[]⟩ : ByteArray)), t4.1, t4.2.1, t4.2.2.1, t4.2.2.2))) else (some ((t0.1, t1.1, (⟨#[]⟩ : ByteArray)), t2.2.1, t2.2.2.1, t2.2.2.2.1, t2.2.2.2.2))))))) else (bif (t0.1 == 2) then ((c4 (t0.2.1, t0.2.2.1, t0.2.2.2.1, t0.2.2.2.2)).bind fun t5 => ((c1 (t5.2.1, t5.2.2.1, t5.2.2.2.1, t5.2.2.2.2)).bind fun t6 => (bif (t6.1 != 0) then (some ((0, 0, (⟨#[]⟩ : ByteArray)), t6.2.1, t6.2.2.1, t6.2.2.2.1, t6.2.2.2.2)) else ((c2 (t0.1, t5.1, (⟨#[]⟩ : ByteArray))).bind fun t7 => (bif (t7 != 0) then ((c3 (t6.2.1, t6.2.2.1, t6.2.2.2.1, t6.2.2.2.2) 3).bind fun t8 => (some ((0, 0, (⟨#[]⟩ : ByteArray)), t8.1, t8.2.1, t8.2.2.1, t8.2.2.2))) else (some ((t0.1, t5.1, (⟨#[]⟩ : ByteArray)), t6.2.1, t6.2.2.1, t6.2.2.2.1, t6.2.2.2.2))))))) else (bif (t0.1 == 3) then ((c5 (t0.2.1, t0.2.2.1, t0.2.2.2.1, t0.2.2.2.2) 64).bind fun t9 => ((c1 (t9.2.1, t9.2.2.1, t9.2.2.2.1, t9.2.2.2.2)).bind fun t10 => (bif (t10.1 != 0) then (some ((0, 0, (⟨#[]⟩ : ByteArray)), t10.2.1, t10.2.2.1, t10.2.2.2.1, t10.2.2.2.2)) else ((c2 (t0.1, 0, t9.1)).bind fun t11 => (bif (t11 != 0) then ((c3 (t10.2.1, t10.2.2.1, t10.2.2.2.1, t10.2.2.2.2) 3).bind fun t12 => (some ((0, 0, (⟨#[]⟩ : ByteArray)), t12.1, t12.2.1, t12.2.2.1, t12.2.2.2))) else (some ((t0.1, 0, t9.1), t10.2.1, t10.2.2.1, t10.2.2.2.1, t10.2.2.2.2))))))) else ((c1 (t0.2.1, t0.2.2.1, t0.2.2.2.1, t0.2.2.2.2)).bind fun t13 => (bif (t13.1 != 0) then (some ((0, 0, (⟨#[]⟩ : ByteArray)), t13.2.1, t13.2.2.1, t13.2.2.2.1, t13.2.2.2.2)) else ((c2 (t0.1, 0, (⟨#[]⟩ : ByteArray))).bind fun t14 => (bif (t14 != 0) then ((c3 (t13.2.1, t13.2.2.1, t13.2.2.2.1, t13.2.2.2.2) 3).bind fun t15 => (some ((0, 0, (⟨#[]⟩ : ByteArray)), t15.1, t15.2.1, t15.2.2.1, t15.2.2.2))) else (some ((t0.1, 0, (⟨#[]⟩ : ByteArray)), t13.2.1, t13.2.2.1, t13.2.2.2.1, t13.2.2.2.2))))))))))
theorem F.value_Read.eq K a0 : F.value_Read (K + 1) a0 = F.value_Read.B (F.scan_Scan_Byte K) (F.scan_Scan_Err K) (F.value_Check K) (F.scan_Scan_Fail K) (F.scan_Scan_Int K) (F.scan_Scan_Text K) a0 := by kernel_rfl
noncomputable def V.value_Read (a0 : TScanx) := lim fun v => F.value_Read (v 0) a0
theorem V.value_Read.of a0 {r} (h : F.value_Read.B V.scan_Scan_Byte V.scan_Scan_Err V.value_Check V.scan_Scan_Fail V.scan_Scan_Int V.scan_Scan_Text a0 = some r) : V.value_Read a0 = some r :=
  App.to (App.step 0 (fun v => F.value_Read.eq (v 0) a0) (by unfold F.value_Read.B; repeat' first | exact App.val | exact App.no | exact App.lim | apply App.cond | apply App.guard | apply App.meet | apply App.ite | refine App.bind ?_ fun _ => ?_)) h
noncomputable def F.elem_read (K : Nat) (a0 : TScanx) : Option ((List ByteArray) × (List TProp) × TScanx) := evFn Try.prog sg K 66 [.sc (.ref 0 0)] [.cells 143 [.val (.string a0.1), .val (.int .i64 a0.2.1), .val (.int .i64 a0.2.2.1), .val (.bool a0.2.2.2)]]
noncomputable def F.elem_read.at (K : Nat) (p ns : List Nat) (s : St) : Option ((List ByteArray) × (List TProp) × TScanx) := atFn Try.prog sg K 66 1 p ns s
noncomputable def F.elem_read.in (K : Nat) (H : List Nat → List Nat → St → Option ((List ByteArray) × (List TProp) × TScanx)) (p ns : List Nat) (s : St) : Option ((List ByteArray) × (List TProp) × TScanx) := inFn Try.prog sg K 66 1 [] H p ns s
theorem F.elem_read.in_eq K p ns s : F.elem_read.at K p ns s = F.elem_read.in K (F.elem_read.at K) p ns s := atFn_eq (P := Try.prog) (sg := sg) (K := K) (f := 66) (m := 1) [] p ns s
theorem F.elem_read.in_main K a0 : F.elem_read (K + 1) a0 = F.elem_read.in K (F.elem_read.at K) [] [] ⟨slots [.sc (.ref 0 0)] 0, [.cells 143 [.val (.string a0.1), .val (.int .i64 a0.2.1), .val (.int .i64 a0.2.2.1), .val (.bool a0.2.2.2)]]⟩ := evFn_eq (P := Try.prog) (sg := sg) (K := K) (f := 66) (args := [.sc (.ref 0 0)]) (σ := [.cells 143 [.val (.string a0.1), .val (.int .i64 a0.2.1), .val (.int .i64 a0.2.2.1), .val (.bool a0.2.2.2)]]) [] (by kernel_rfl)
def F.elem_read.l1010.st (a0 : TScanx) (x0 : Int) (x1 : Int) (x2 : ByteArray) (x3 : Int) (x4 : Int) (x5 : Bool) (x6 : List ByteArray) : St := ⟨[(0, .one (.sc (.ref 0 0))), (2, .one (.sc (.own 1 none))), (3, .one (.sc (.own 2 none))), (6, vI x0), (7, vI x1)], [.cells 143 [.val (.string x2), .val (.int .i64 x3), .val (.int .i64 x4), .val (.bool x5)], .elems .str x6, .elems sProp ([])]⟩
noncomputable def F.elem_read.l1010 (K n0 : Nat) (a0 : TScanx) (x0 : Int) (x1 : Int) (x2 : ByteArray) (x3 : Int) (x4 : Int) (x5 : Bool) (x6 : List ByteArray) := F.elem_read.at K [1, 0, 1, 0] [n0] (F.elem_read.l1010.st a0 x0 x1 x2 x3 x4 x5 x6)
def F.elem_read.l11010.st (a0 : TScanx) (x0 : Int) (x1 : Int) (x2 : ByteArray) (x3 : Int) (x4 : Int) (x5 : Bool) (x6 : List ByteArray) (x7 : List TProp) : St := ⟨[(0, .one (.sc (.ref 0 0))), (2, .one (.sc (.own 1 none))), (3, .one (.sc (.own 2 none))), (16, vI x0), (17, vI x1)], [.cells 143 [.val (.string x2), .val (.int .i64 x3), .val (.int .i64 x4), .val (.bool x5)], .elems .str x6, .elems sProp x7]⟩
noncomputable def F.elem_read.l11010 (K n0 : Nat) (a0 : TScanx) (x0 : Int) (x1 : Int) (x2 : ByteArray) (x3 : Int) (x4 : Int) (x5 : Bool) (x6 : List ByteArray) (x7 : List TProp) := F.elem_read.at K [1, 1, 0, 1, 0] [n0] (F.elem_read.l11010.st a0 x0 x1 x2 x3 x4 x5 x6 x7)
noncomputable def F.elem_read.l1010.B (c0 : (TScanx) → (Int) → Option (ByteArray × TScanx)) (c1 : (TScanx) → (Int) → (Int) → (ByteArray) → (Int) → (Int) → (Bool) → (List ByteArray) → Option ((List ByteArray) × (List TProp) × TScanx)) (c2 : (TScanx) → (Int) → Option (Int × TScanx)) (c3 : (TScanx) → (Int) → (Int) → (ByteArray) → (Int) → (Int) → (Bool) → (List ByteArray) → (List TProp) → Option ((List ByteArray) × (List TProp) × TScanx)) (a0 : TScanx) (x0 : Int) (x1 : Int) (x2 : ByteArray) (x3 : Int) (x4 : Int) (x5 : Bool) (x6 : List ByteArray) : Option ((List ByteArray) × (List TProp) × TScanx) :=
    (bif (decide (x1 < x0)) then ((c0 (x2, x3, x4, x5) 12).bind fun t1 => (guardK (decide (x6.length + ([t1.1]).length ≤ nmax)) (c1 a0 x0 (w64 (x1 + 1)) t1.2.1 t1.2.2.1 t1.2.2.2.1 t1.2.2.2.2 (x6 ++ [t1.1])))) else ((c2 (x2, x3, x4, x5) 8).bind fun t2 => (c3 a0 t2.1 0 t2.2.1 t2.2.2.1 t2.2.2.2.1 t2.2.2.2.2 x6 ([]))))
theorem F.elem_read.l1010.eq K n0 a0 x0 x1 x2 x3 x4 x5 x6 : F.elem_read.l1010 K (n0 + 1) a0 x0 x1 x2 x3 x4 x5 x6 = F.elem_read.l1010.B (F.scan_Scan_Text K) (F.elem_read.l1010 K n0) (F.scan_Scan_Num K) (F.elem_read.l11010 K K) a0 x0 x1 x2 x3 x4 x5 x6 := (F.elem_read.in_eq K [1, 0, 1, 0] [n0 + 1] (F.elem_read.l1010.st a0 x0 x1 x2 x3 x4 x5 x6)).trans ((show ∀ H, F.elem_read.in K H [1, 0, 1, 0] [n0 + 1] (F.elem_read.l1010.st a0 x0 x1 x2 x3 x4 x5 x6) = F.elem_read.l1010.B (F.scan_Scan_Text K) (fun a0 x0 x1 x2 x3 x4 x5 x6 => H [1, 0, 1, 0] [n0] (F.elem_read.l1010.st a0 x0 x1 x2 x3 x4 x5 x6)) (F.scan_Scan_Num K) (fun a0 x0 x1 x2 x3 x4 x5 x6 x7 => H [1, 1, 0, 1, 0] [K] (F.elem_read.l11010.st a0 x0 x1 x2 x3 x4 x5 x6 x7)) a0 x0 x1 x2 x3 x4 x5 x6 from by intro H; kernel_rfl) (F.elem_read.at K))
noncomputable def F.elem_read.l11010.B (c0 : (TScanx) → (Int) → Option (ByteArray × TScanx)) (c1 : (TScanx) → Option (TValue × TScanx)) (c2 : (TScanx) → (Int) → (Int) → (ByteArray) → (Int) → (Int) → (Bool) → (List ByteArray) → (List TProp) → Option ((List ByteArray) × (List TProp) × TScanx)) (a0 : TScanx) (x0 : Int) (x1 : Int) (x2 : ByteArray) (x3 : Int) (x4 : Int) (x5 : Bool) (x6 : List ByteArray) (x7 : List TProp) : Option ((List ByteArray) × (List TProp) × TScanx) :=
    (bif (decide (x1 < x0)) then ((c0 (x2, x3, x4, x5) 12).bind fun t3 => ((c1 (t3.2.1, t3.2.2.1, t3.2.2.2.1, t3.2.2.2.2)).bind fun t4 => (guardK (decide (x7.length + ([(t3.1, t4.1.1, t4.1.2.1, t4.1.2.2)]).length ≤ nmax)) (c2 a0 x0 (w64 (x1 + 1)) t4.2.1 t4.2.2.1 t4.2.2.2.1 t4.2.2.2.2 x6 (x7 ++ [(t3.1, t4.1.1, t4.1.2.1, t4.1.2.2)]))))) else (some (x6, x7, x2, x3, x4, x5)))
theorem F.elem_read.l11010.eq K n0 a0 x0 x1 x2 x3 x4 x5 x6 x7 : F.elem_read.l11010 K (n0 + 1) a0 x0 x1 x2 x3 x4 x5 x6 x7 = F.elem_read.l11010.B (F.scan_Scan_Text K) (F.value_Read K) (F.elem_read.l11010 K n0) a0 x0 x1 x2 x3 x4 x5 x6 x7 := (F.elem_read.in_eq K [1, 1, 0, 1, 0] [n0 + 1] (F.elem_read.l11010.st a0 x0 x1 x2 x3 x4 x5 x6 x7)).trans ((show ∀ H, F.elem_read.in K H [1, 1, 0, 1, 0] [n0 + 1] (F.elem_read.l11010.st a0 x0 x1 x2 x3 x4 x5 x6 x7) = F.elem_read.l11010.B (F.scan_Scan_Text K) (F.value_Read K) (fun a0 x0 x1 x2 x3 x4 x5 x6 x7 => H [1, 1, 0, 1, 0] [n0] (F.elem_read.l11010.st a0 x0 x1 x2 x3 x4 x5 x6 x7)) a0 x0 x1 x2 x3 x4 x5 x6 x7 from by intro H; kernel_rfl) (F.elem_read.at K))
noncomputable def F.elem_read.B (c0 : (TScanx) → (Int) → Option (Int × TScanx)) (c1 : (TScanx) → (Int) → (Int) → (ByteArray) → (Int) → (Int) → (Bool) → (List ByteArray) → Option ((List ByteArray) × (List TProp) × TScanx)) (a0 : TScanx) : Option ((List ByteArray) × (List TProp) × TScanx) :=
    ((c0 (a0.1, a0.2.1, a0.2.2.1, a0.2.2.2) 8).bind fun t0 => (c1 a0 t0.1 0 t0.2.1 t0.2.2.1 t0.2.2.2.1 t0.2.2.2.2 ([])))
theorem F.elem_read.eq K a0 : F.elem_read (K + 1) a0 = F.elem_read.B (F.scan_Scan_Num K) (F.elem_read.l1010 K K) a0 := (F.elem_read.in_main K a0).trans ((show ∀ H, F.elem_read.in K H [] [] ⟨slots [.sc (.ref 0 0)] 0, [.cells 143 [.val (.string a0.1), .val (.int .i64 a0.2.1), .val (.int .i64 a0.2.2.1), .val (.bool a0.2.2.2)]]⟩ = F.elem_read.B (F.scan_Scan_Num K) (fun a0 x0 x1 x2 x3 x4 x5 x6 => H [1, 0, 1, 0] [K] (F.elem_read.l1010.st a0 x0 x1 x2 x3 x4 x5 x6)) a0 from by intro H; kernel_rfl) (F.elem_read.at K))
noncomputable def V.elem_read.l1010 (a0 : TScanx) (x0 : Int) (x1 : Int) (x2 : ByteArray) (x3 : Int) (x4 : Int) (x5 : Bool) (x6 : List ByteArray) := lim fun v => F.elem_read.l1010 (v 0) (v 1) a0 x0 x1 x2 x3 x4 x5 x6
noncomputable def V.elem_read.l11010 (a0 : TScanx) (x0 : Int) (x1 : Int) (x2 : ByteArray) (x3 : Int) (x4 : Int) (x5 : Bool) (x6 : List ByteArray) (x7 : List TProp) := lim fun v => F.elem_read.l11010 (v 0) (v 1) a0 x0 x1 x2 x3 x4 x5 x6 x7
noncomputable def V.elem_read (a0 : TScanx) := lim fun v => F.elem_read (v 0) a0
theorem V.elem_read.l1010.of a0 x0 x1 x2 x3 x4 x5 x6 {r} (h : F.elem_read.l1010.B V.scan_Scan_Text V.elem_read.l1010 V.scan_Scan_Num V.elem_read.l11010 a0 x0 x1 x2 x3 x4 x5 x6 = some r) : V.elem_read.l1010 a0 x0 x1 x2 x3 x4 x5 x6 = some r :=
  App.to (App.step 1 (fun v => F.elem_read.l1010.eq (v 0) (v 1) a0 x0 x1 x2 x3 x4 x5 x6) (by unfold F.elem_read.l1010.B; repeat' first | exact App.val | exact App.no | exact App.lim | exact (App.enter 1 App.lim) | apply App.cond | apply App.guard | apply App.meet | apply App.ite | refine App.bind ?_ fun _ => ?_)) h
theorem V.elem_read.l11010.of a0 x0 x1 x2 x3 x4 x5 x6 x7 {r} (h : F.elem_read.l11010.B V.scan_Scan_Text V.value_Read V.elem_read.l11010 a0 x0 x1 x2 x3 x4 x5 x6 x7 = some r) : V.elem_read.l11010 a0 x0 x1 x2 x3 x4 x5 x6 x7 = some r :=
  App.to (App.step 1 (fun v => F.elem_read.l11010.eq (v 0) (v 1) a0 x0 x1 x2 x3 x4 x5 x6 x7) (by unfold F.elem_read.l11010.B; repeat' first | exact App.val | exact App.no | exact App.lim | apply App.cond | apply App.guard | apply App.meet | apply App.ite | refine App.bind ?_ fun _ => ?_)) h
theorem V.elem_read.of a0 {r} (h : F.elem_read.B V.scan_Scan_Num V.elem_read.l1010 a0 = some r) : V.elem_read a0 = some r :=
  App.to (App.step 0 (fun v => F.elem_read.eq (v 0) a0) (by unfold F.elem_read.B; repeat' first | exact App.val | exact App.no | exact App.lim | exact (App.enter 1 App.lim) | apply App.cond | apply App.guard | apply App.meet | apply App.ite | refine App.bind ?_ fun _ => ?_)) h
noncomputable def F.scan_Scan_End (K : Nat) (a0 : TScanx) : Option (Int × TScanx) := evFn Try.prog sg K 67 [.sc (.ref 0 0)] [.cells 143 [.val (.string a0.1), .val (.int .i64 a0.2.1), .val (.int .i64 a0.2.2.1), .val (.bool a0.2.2.2)]]
noncomputable def F.scan_Scan_End.B (c0 : (TScanx) → Option (Int × TScanx)) (a0 : TScanx) : Option (Int × TScanx) :=
    ((c0 (a0.1, a0.2.1, a0.2.2.1, a0.2.2.2)).bind fun t0 => (bif (t0.1 == 0) then (meet (bif (decide (t0.2.2.1 < (t0.2.1.size : Int))) then ((c0 (t0.2.1, t0.2.2.1, 3, t0.2.2.2.2)).bind fun t1 => (some (t1.1, t1.2.1, t1.2.2.1, t1.2.2.2.1, t1.2.2.2.2))) else ((c0 (t0.2.1, t0.2.2.1, t0.2.2.2.1, t0.2.2.2.2)).bind fun t2 => (some (t2.1, t2.2.1, t2.2.2.1, t2.2.2.2.1, t2.2.2.2.2)))) (bif (decide (t0.2.2.1 < (t0.2.1.size : Int))) then ((c0 (t0.2.1, t0.2.2.1, 3, t0.2.2.2.2)).bind fun t3 => (some (t3.1, t3.2.1, t3.2.2.1, t3.2.2.2.1, t3.2.2.2.2))) else ((c0 (t0.2.1, t0.2.2.1, t0.2.2.2.1, t0.2.2.2.2)).bind fun t4 => (some (t4.1, t4.2.1, t4.2.2.1, t4.2.2.2.1, t4.2.2.2.2))))) else ((c0 (t0.2.1, t0.2.2.1, t0.2.2.2.1, t0.2.2.2.2)).bind fun t5 => (some (t5.1, t5.2.1, t5.2.2.1, t5.2.2.2.1, t5.2.2.2.2)))))
theorem F.scan_Scan_End.eq K a0 : F.scan_Scan_End (K + 1) a0 = F.scan_Scan_End.B (F.scan_Scan_Err K) a0 := by kernel_rfl
noncomputable def V.scan_Scan_End (a0 : TScanx) := lim fun v => F.scan_Scan_End (v 0) a0
theorem V.scan_Scan_End.of a0 {r} (h : F.scan_Scan_End.B V.scan_Scan_Err a0 = some r) : V.scan_Scan_End a0 = some r :=
  App.to (App.step 0 (fun v => F.scan_Scan_End.eq (v 0) a0) (by unfold F.scan_Scan_End.B; repeat' first | exact App.val | exact App.no | exact App.lim | apply App.cond | apply App.guard | apply App.meet | apply App.ite | refine App.bind ?_ fun _ => ?_)) h
noncomputable def F.elem_TakeNode (K : Nat) (a0 : ByteArray) (a1 : ByteArray) : Option (TNode × Int) := evFn Try.prog sg K 34 [.sc (.val (.string a0)), .sc (.val (.string a1))] []
noncomputable def F.elem_TakeNode.B (c0 : (ByteArray) → Option (TScanx)) (c1 : (TScanx) → Option ((List ByteArray) × (List TProp) × TScanx)) (c2 : (TScanx) → Option (Int × TScanx)) (c3 : (TNode) → Option (Int)) (a0 : ByteArray) (a1 : ByteArray) : Option (TNode × Int) :=
    ((c0 a1).bind fun t0 => ((c1 (t0.1, t0.2.1, t0.2.2.1, t0.2.2.2)).bind fun t1 => ((c2 (t1.2.2.1, t1.2.2.2.1, t1.2.2.2.2.1, t1.2.2.2.2.2)).bind fun t2 => (bif (t2.1 != 0) then (some (((⟨#[]⟩ : ByteArray), [], []), 3)) else ((c3 (a0, t1.1, t1.2.1)).bind fun t3 => (bif (t3 != 0) then (some (((⟨#[]⟩ : ByteArray), [], []), 3)) else (some ((a0, t1.1, t1.2.1), 0))))))))
theorem F.elem_TakeNode.eq K a0 a1 : F.elem_TakeNode (K + 1) a0 a1 = F.elem_TakeNode.B (F.scan_New K) (F.elem_read K) (F.scan_Scan_End K) (F.elem_CheckNode K) a0 a1 := by kernel_rfl
noncomputable def V.elem_TakeNode (a0 : ByteArray) (a1 : ByteArray) := lim fun v => F.elem_TakeNode (v 0) a0 a1
theorem V.elem_TakeNode.of a0 a1 {r} (h : F.elem_TakeNode.B V.scan_New V.elem_read V.scan_Scan_End V.elem_CheckNode a0 a1 = some r) : V.elem_TakeNode a0 a1 = some r :=
  App.to (App.step 0 (fun v => F.elem_TakeNode.eq (v 0) a0 a1) (by unfold F.elem_TakeNode.B; repeat' first | exact App.val | exact App.no | exact App.lim | apply App.cond | apply App.guard | apply App.meet | apply App.ite | refine App.bind ?_ fun _ => ?_)) h
noncomputable def F.keys_TakeNodes (K : Nat) (a0 : List TEntry) : Option ((List TNode) × Int) := evFn Try.prog sg K 31 [.sc (.list sEntry a0 false)] []
noncomputable def F.keys_TakeNodes.at (K : Nat) (p ns : List Nat) (s : St) : Option ((List TNode) × Int) := atFn Try.prog sg K 31 0 p ns s
noncomputable def F.keys_TakeNodes.in (K : Nat) (H : List Nat → List Nat → St → Option ((List TNode) × Int)) (p ns : List Nat) (s : St) : Option ((List TNode) × Int) := inFn Try.prog sg K 31 0 [] H p ns s
theorem F.keys_TakeNodes.in_eq K p ns s : F.keys_TakeNodes.at K p ns s = F.keys_TakeNodes.in K (F.keys_TakeNodes.at K) p ns s := atFn_eq (P := Try.prog) (sg := sg) (K := K) (f := 31) (m := 0) [] p ns s
theorem F.keys_TakeNodes.in_main K a0 : F.keys_TakeNodes (K + 1) a0 = F.keys_TakeNodes.in K (F.keys_TakeNodes.at K) [] [] ⟨slots [.sc (.list sEntry a0 false)] 0, []⟩ := evFn_eq (P := Try.prog) (sg := sg) (K := K) (f := 31) (args := [.sc (.list sEntry a0 false)]) (σ := []) [] (by kernel_rfl)
def F.keys_TakeNodes.l11010.st (a0 : List TEntry) (x0 : Int) (x1 : List TNode) : St := ⟨[(4, .one (.sc (.own 0 none))), (9, vL sEntry a0), (10, vI (a0.length : Int)), (11, vI x0)], [.elems sNode x1]⟩
noncomputable def F.keys_TakeNodes.l11010 (K n0 : Nat) (a0 : List TEntry) (x0 : Int) (x1 : List TNode) := F.keys_TakeNodes.at K [1, 1, 0, 1, 0] [n0] (F.keys_TakeNodes.l11010.st a0 x0 x1)
noncomputable def F.keys_TakeNodes.l11010.B (c0 : (ByteArray) → (ByteArray) → Option (TNode × Int)) (c1 : (List TEntry) → (Int) → (List TNode) → Option ((List TNode) × Int)) (a0 : List TEntry) (x0 : Int) (x1 : List TNode) : Option ((List TNode) × Int) :=
    (bif (decide (x0 < (a0.length : Int))) then (guardK (decide (0 ≤ x0) && decide (x0 < (a0.length : Int))) ((c0 ((rd sEntry a0 x0.toNat).1) ((rd sEntry a0 x0.toNat).2)).bind fun t0 => (bif (t0.2 != 0) then (some ([], t0.2)) else (guardK (decide (x1.length + ([(t0.1.1, t0.1.2.1, t0.1.2.2)]).length ≤ nmax)) (c1 a0 (w64 (x0 + 1)) (x1 ++ [(t0.1.1, t0.1.2.1, t0.1.2.2)])))))) else (some (x1, 0)))
theorem F.keys_TakeNodes.l11010.eq K n0 a0 x0 x1 : F.keys_TakeNodes.l11010 K (n0 + 1) a0 x0 x1 = F.keys_TakeNodes.l11010.B (F.elem_TakeNode K) (F.keys_TakeNodes.l11010 K n0) a0 x0 x1 := (F.keys_TakeNodes.in_eq K [1, 1, 0, 1, 0] [n0 + 1] (F.keys_TakeNodes.l11010.st a0 x0 x1)).trans ((show ∀ H, F.keys_TakeNodes.in K H [1, 1, 0, 1, 0] [n0 + 1] (F.keys_TakeNodes.l11010.st a0 x0 x1) = F.keys_TakeNodes.l11010.B (F.elem_TakeNode K) (fun a0 x0 x1 => H [1, 1, 0, 1, 0] [n0] (F.keys_TakeNodes.l11010.st a0 x0 x1)) a0 x0 x1 from by intro H; kernel_rfl) (F.keys_TakeNodes.at K))
noncomputable def F.keys_TakeNodes.B (c0 : (List TEntry) → (Int) → (List TNode) → Option ((List TNode) × Int)) (a0 : List TEntry) : Option ((List TNode) × Int) :=
    (c0 a0 0 ([]))
theorem F.keys_TakeNodes.eq K a0 : F.keys_TakeNodes (K + 1) a0 = F.keys_TakeNodes.B (F.keys_TakeNodes.l11010 K K) a0 := (F.keys_TakeNodes.in_main K a0).trans ((show ∀ H, F.keys_TakeNodes.in K H [] [] ⟨slots [.sc (.list sEntry a0 false)] 0, []⟩ = F.keys_TakeNodes.B (fun a0 x0 x1 => H [1, 1, 0, 1, 0] [K] (F.keys_TakeNodes.l11010.st a0 x0 x1)) a0 from by intro H; kernel_rfl) (F.keys_TakeNodes.at K))
noncomputable def V.keys_TakeNodes.l11010 (a0 : List TEntry) (x0 : Int) (x1 : List TNode) := lim fun v => F.keys_TakeNodes.l11010 (v 0) (v 1) a0 x0 x1
noncomputable def V.keys_TakeNodes (a0 : List TEntry) := lim fun v => F.keys_TakeNodes (v 0) a0
theorem V.keys_TakeNodes.l11010.of a0 x0 x1 {r} (h : F.keys_TakeNodes.l11010.B V.elem_TakeNode V.keys_TakeNodes.l11010 a0 x0 x1 = some r) : V.keys_TakeNodes.l11010 a0 x0 x1 = some r :=
  App.to (App.step 1 (fun v => F.keys_TakeNodes.l11010.eq (v 0) (v 1) a0 x0 x1) (by unfold F.keys_TakeNodes.l11010.B; repeat' first | exact App.val | exact App.no | exact App.lim | apply App.cond | apply App.guard | apply App.meet | apply App.ite | refine App.bind ?_ fun _ => ?_)) h
theorem V.keys_TakeNodes.of a0 {r} (h : F.keys_TakeNodes.B V.keys_TakeNodes.l11010 a0 = some r) : V.keys_TakeNodes a0 = some r :=
  App.to (App.step 0 (fun v => F.keys_TakeNodes.eq (v 0) a0) (by unfold F.keys_TakeNodes.B; repeat' first | exact App.val | exact App.no | exact App.lim | exact (App.enter 1 App.lim) | apply App.cond | apply App.guard | apply App.meet | apply App.ite | refine App.bind ?_ fun _ => ?_)) h
noncomputable def F.elem_TakeEdge (K : Nat) (a0 : ByteArray) (a1 : ByteArray) : Option (TEdge × Int) := evFn Try.prog sg K 35 [.sc (.val (.string a0)), .sc (.val (.string a1))] []
noncomputable def F.elem_TakeEdge.B (c0 : (ByteArray) → Option (TScanx)) (c1 : (TScanx) → (Int) → Option (ByteArray × TScanx)) (c2 : (TScanx) → Option ((List ByteArray) × (List TProp) × TScanx)) (c3 : (TScanx) → Option (Int × TScanx)) (c4 : (TEdge) → Option (Int)) (a0 : ByteArray) (a1 : ByteArray) : Option (TEdge × Int) :=
    ((c0 a1).bind fun t0 => ((c1 (t0.1, t0.2.1, t0.2.2.1, t0.2.2.2) 12).bind fun t1 => ((c1 (t1.2.1, t1.2.2.1, t1.2.2.2.1, t1.2.2.2.2) 12).bind fun t2 => ((c2 (t2.2.1, t2.2.2.1, t2.2.2.2.1, t2.2.2.2.2)).bind fun t3 => ((c3 (t3.2.2.1, t3.2.2.2.1, t3.2.2.2.2.1, t3.2.2.2.2.2)).bind fun t4 => (bif (t4.1 != 0) then (some (((⟨#[]⟩ : ByteArray), (⟨#[]⟩ : ByteArray), (⟨#[]⟩ : ByteArray), [], []), 3)) else ((c4 (a0, t1.1, t2.1, t3.1, t3.2.1)).bind fun t5 => (bif (t5 != 0) then (some (((⟨#[]⟩ : ByteArray), (⟨#[]⟩ : ByteArray), (⟨#[]⟩ : ByteArray), [], []), 3)) else (some ((a0, t1.1, t2.1, t3.1, t3.2.1), 0))))))))))
theorem F.elem_TakeEdge.eq K a0 a1 : F.elem_TakeEdge (K + 1) a0 a1 = F.elem_TakeEdge.B (F.scan_New K) (F.scan_Scan_Text K) (F.elem_read K) (F.scan_Scan_End K) (F.elem_CheckEdge K) a0 a1 := by kernel_rfl
noncomputable def V.elem_TakeEdge (a0 : ByteArray) (a1 : ByteArray) := lim fun v => F.elem_TakeEdge (v 0) a0 a1
theorem V.elem_TakeEdge.of a0 a1 {r} (h : F.elem_TakeEdge.B V.scan_New V.scan_Scan_Text V.elem_read V.scan_Scan_End V.elem_CheckEdge a0 a1 = some r) : V.elem_TakeEdge a0 a1 = some r :=
  App.to (App.step 0 (fun v => F.elem_TakeEdge.eq (v 0) a0 a1) (by unfold F.elem_TakeEdge.B; repeat' first | exact App.val | exact App.no | exact App.lim | apply App.cond | apply App.guard | apply App.meet | apply App.ite | refine App.bind ?_ fun _ => ?_)) h
noncomputable def F.keys_TakeEdges (K : Nat) (a0 : List TEntry) : Option ((List TEdge) × Int) := evFn Try.prog sg K 32 [.sc (.list sEntry a0 false)] []
noncomputable def F.keys_TakeEdges.at (K : Nat) (p ns : List Nat) (s : St) : Option ((List TEdge) × Int) := atFn Try.prog sg K 32 0 p ns s
noncomputable def F.keys_TakeEdges.in (K : Nat) (H : List Nat → List Nat → St → Option ((List TEdge) × Int)) (p ns : List Nat) (s : St) : Option ((List TEdge) × Int) := inFn Try.prog sg K 32 0 [] H p ns s
theorem F.keys_TakeEdges.in_eq K p ns s : F.keys_TakeEdges.at K p ns s = F.keys_TakeEdges.in K (F.keys_TakeEdges.at K) p ns s := atFn_eq (P := Try.prog) (sg := sg) (K := K) (f := 32) (m := 0) [] p ns s
theorem F.keys_TakeEdges.in_main K a0 : F.keys_TakeEdges (K + 1) a0 = F.keys_TakeEdges.in K (F.keys_TakeEdges.at K) [] [] ⟨slots [.sc (.list sEntry a0 false)] 0, []⟩ := evFn_eq (P := Try.prog) (sg := sg) (K := K) (f := 32) (args := [.sc (.list sEntry a0 false)]) (σ := []) [] (by kernel_rfl)
def F.keys_TakeEdges.l11010.st (a0 : List TEntry) (x0 : Int) (x1 : List TEdge) : St := ⟨[(4, .one (.sc (.own 0 none))), (9, vL sEntry a0), (10, vI (a0.length : Int)), (11, vI x0)], [.elems sEdge x1]⟩
noncomputable def F.keys_TakeEdges.l11010 (K n0 : Nat) (a0 : List TEntry) (x0 : Int) (x1 : List TEdge) := F.keys_TakeEdges.at K [1, 1, 0, 1, 0] [n0] (F.keys_TakeEdges.l11010.st a0 x0 x1)
noncomputable def F.keys_TakeEdges.l11010.B (c0 : (ByteArray) → (ByteArray) → Option (TEdge × Int)) (c1 : (List TEntry) → (Int) → (List TEdge) → Option ((List TEdge) × Int)) (a0 : List TEntry) (x0 : Int) (x1 : List TEdge) : Option ((List TEdge) × Int) :=
    (bif (decide (x0 < (a0.length : Int))) then (guardK (decide (0 ≤ x0) && decide (x0 < (a0.length : Int))) ((c0 ((rd sEntry a0 x0.toNat).1) ((rd sEntry a0 x0.toNat).2)).bind fun t0 => (bif (t0.2 != 0) then (some ([], t0.2)) else (guardK (decide (x1.length + ([(t0.1.1, t0.1.2.1, t0.1.2.2.1, t0.1.2.2.2.1, t0.1.2.2.2.2)]).length ≤ nmax)) (c1 a0 (w64 (x0 + 1)) (x1 ++ [(t0.1.1, t0.1.2.1, t0.1.2.2.1, t0.1.2.2.2.1, t0.1.2.2.2.2)])))))) else (some (x1, 0)))
theorem F.keys_TakeEdges.l11010.eq K n0 a0 x0 x1 : F.keys_TakeEdges.l11010 K (n0 + 1) a0 x0 x1 = F.keys_TakeEdges.l11010.B (F.elem_TakeEdge K) (F.keys_TakeEdges.l11010 K n0) a0 x0 x1 := (F.keys_TakeEdges.in_eq K [1, 1, 0, 1, 0] [n0 + 1] (F.keys_TakeEdges.l11010.st a0 x0 x1)).trans ((show ∀ H, F.keys_TakeEdges.in K H [1, 1, 0, 1, 0] [n0 + 1] (F.keys_TakeEdges.l11010.st a0 x0 x1) = F.keys_TakeEdges.l11010.B (F.elem_TakeEdge K) (fun a0 x0 x1 => H [1, 1, 0, 1, 0] [n0] (F.keys_TakeEdges.l11010.st a0 x0 x1)) a0 x0 x1 from by intro H; kernel_rfl) (F.keys_TakeEdges.at K))
noncomputable def F.keys_TakeEdges.B (c0 : (List TEntry) → (Int) → (List TEdge) → Option ((List TEdge) × Int)) (a0 : List TEntry) : Option ((List TEdge) × Int) :=
    (c0 a0 0 ([]))
theorem F.keys_TakeEdges.eq K a0 : F.keys_TakeEdges (K + 1) a0 = F.keys_TakeEdges.B (F.keys_TakeEdges.l11010 K K) a0 := (F.keys_TakeEdges.in_main K a0).trans ((show ∀ H, F.keys_TakeEdges.in K H [] [] ⟨slots [.sc (.list sEntry a0 false)] 0, []⟩ = F.keys_TakeEdges.B (fun a0 x0 x1 => H [1, 1, 0, 1, 0] [K] (F.keys_TakeEdges.l11010.st a0 x0 x1)) a0 from by intro H; kernel_rfl) (F.keys_TakeEdges.at K))
noncomputable def V.keys_TakeEdges.l11010 (a0 : List TEntry) (x0 : Int) (x1 : List TEdge) := lim fun v => F.keys_TakeEdges.l11010 (v 0) (v 1) a0 x0 x1
noncomputable def V.keys_TakeEdges (a0 : List TEntry) := lim fun v => F.keys_TakeEdges (v 0) a0
theorem V.keys_TakeEdges.l11010.of a0 x0 x1 {r} (h : F.keys_TakeEdges.l11010.B V.elem_TakeEdge V.keys_TakeEdges.l11010 a0 x0 x1 = some r) : V.keys_TakeEdges.l11010 a0 x0 x1 = some r :=
  App.to (App.step 1 (fun v => F.keys_TakeEdges.l11010.eq (v 0) (v 1) a0 x0 x1) (by unfold F.keys_TakeEdges.l11010.B; repeat' first | exact App.val | exact App.no | exact App.lim | apply App.cond | apply App.guard | apply App.meet | apply App.ite | refine App.bind ?_ fun _ => ?_)) h
theorem V.keys_TakeEdges.of a0 {r} (h : F.keys_TakeEdges.B V.keys_TakeEdges.l11010 a0 = some r) : V.keys_TakeEdges a0 = some r :=
  App.to (App.step 0 (fun v => F.keys_TakeEdges.eq (v 0) a0) (by unfold F.keys_TakeEdges.B; repeat' first | exact App.val | exact App.no | exact App.lim | exact (App.enter 1 App.lim) | apply App.cond | apply App.guard | apply App.meet | apply App.ite | refine App.bind ?_ fun _ => ?_)) h
noncomputable def F.pleachref25_SameTexts (K : Nat) (a0 : List ByteArray) (a1 : List ByteArray) : Option (Bool) := evFn Try.prog sg K 50 [.sc (.list .str a0 false), .sc (.list .str a1 false)] []
noncomputable def F.pleachref25_SameTexts.at (K : Nat) (p ns : List Nat) (s : St) : Option (Bool) := atFn Try.prog sg K 50 0 p ns s
noncomputable def F.pleachref25_SameTexts.in (K : Nat) (H : List Nat → List Nat → St → Option (Bool)) (p ns : List Nat) (s : St) : Option (Bool) := inFn Try.prog sg K 50 0 [] H p ns s
theorem F.pleachref25_SameTexts.in_eq K p ns s : F.pleachref25_SameTexts.at K p ns s = F.pleachref25_SameTexts.in K (F.pleachref25_SameTexts.at K) p ns s := atFn_eq (P := Try.prog) (sg := sg) (K := K) (f := 50) (m := 0) [] p ns s
theorem F.pleachref25_SameTexts.in_main K a0 a1 : F.pleachref25_SameTexts (K + 1) a0 a1 = F.pleachref25_SameTexts.in K (F.pleachref25_SameTexts.at K) [] [] ⟨slots [.sc (.list .str a0 false), .sc (.list .str a1 false)] 0, []⟩ := evFn_eq (P := Try.prog) (sg := sg) (K := K) (f := 50) (args := [.sc (.list .str a0 false), .sc (.list .str a1 false)]) (σ := []) [] (by kernel_rfl)
def F.pleachref25_SameTexts.l11010.st (a0 : List ByteArray) (a1 : List ByteArray) (x0 : Int) : St := ⟨[(0, vL .str a0), (1, vL .str a1), (5, vI x0)], []⟩
noncomputable def F.pleachref25_SameTexts.l11010 (K n0 : Nat) (a0 : List ByteArray) (a1 : List ByteArray) (x0 : Int) := F.pleachref25_SameTexts.at K [1, 1, 0, 1, 0] [n0] (F.pleachref25_SameTexts.l11010.st a0 a1 x0)
noncomputable def F.pleachref25_SameTexts.l11010.B (c0 : (List ByteArray) → (List ByteArray) → (Int) → Option (Bool)) (a0 : List ByteArray) (a1 : List ByteArray) (x0 : Int) : Option (Bool) :=
    (bif (decide (x0 < (a0.length : Int))) then (guardK (decide (0 ≤ x0) && decide (x0 < (a0.length : Int))) (guardK (decide (0 ≤ x0) && decide (x0 < (a1.length : Int))) (bif (!strEq (rd .str a0 x0.toNat) (rd .str a1 x0.toNat)) then (some false) else (c0 a0 a1 (w64 (x0 + 1)))))) else (some true))
theorem F.pleachref25_SameTexts.l11010.eq K n0 a0 a1 x0 : F.pleachref25_SameTexts.l11010 K (n0 + 1) a0 a1 x0 = F.pleachref25_SameTexts.l11010.B (F.pleachref25_SameTexts.l11010 K n0) a0 a1 x0 := (F.pleachref25_SameTexts.in_eq K [1, 1, 0, 1, 0] [n0 + 1] (F.pleachref25_SameTexts.l11010.st a0 a1 x0)).trans ((show ∀ H, F.pleachref25_SameTexts.in K H [1, 1, 0, 1, 0] [n0 + 1] (F.pleachref25_SameTexts.l11010.st a0 a1 x0) = F.pleachref25_SameTexts.l11010.B (fun a0 a1 x0 => H [1, 1, 0, 1, 0] [n0] (F.pleachref25_SameTexts.l11010.st a0 a1 x0)) a0 a1 x0 from by intro H; kernel_rfl) (F.pleachref25_SameTexts.at K))
noncomputable def F.pleachref25_SameTexts.B (c0 : (List ByteArray) → (List ByteArray) → (Int) → Option (Bool)) (a0 : List ByteArray) (a1 : List ByteArray) : Option (Bool) :=
    (bif ((a0.length : Int) != (a1.length : Int)) then (some false) else (c0 a0 a1 0))
theorem F.pleachref25_SameTexts.eq K a0 a1 : F.pleachref25_SameTexts (K + 1) a0 a1 = F.pleachref25_SameTexts.B (F.pleachref25_SameTexts.l11010 K K) a0 a1 := (F.pleachref25_SameTexts.in_main K a0 a1).trans ((show ∀ H, F.pleachref25_SameTexts.in K H [] [] ⟨slots [.sc (.list .str a0 false), .sc (.list .str a1 false)] 0, []⟩ = F.pleachref25_SameTexts.B (fun a0 a1 x0 => H [1, 1, 0, 1, 0] [K] (F.pleachref25_SameTexts.l11010.st a0 a1 x0)) a0 a1 from by intro H; kernel_rfl) (F.pleachref25_SameTexts.at K))
noncomputable def V.pleachref25_SameTexts.l11010 (a0 : List ByteArray) (a1 : List ByteArray) (x0 : Int) := lim fun v => F.pleachref25_SameTexts.l11010 (v 0) (v 1) a0 a1 x0
noncomputable def V.pleachref25_SameTexts (a0 : List ByteArray) (a1 : List ByteArray) := lim fun v => F.pleachref25_SameTexts (v 0) a0 a1
theorem V.pleachref25_SameTexts.l11010.of a0 a1 x0 {r} (h : F.pleachref25_SameTexts.l11010.B V.pleachref25_SameTexts.l11010 a0 a1 x0 = some r) : V.pleachref25_SameTexts.l11010 a0 a1 x0 = some r :=
  App.to (App.step 1 (fun v => F.pleachref25_SameTexts.l11010.eq (v 0) (v 1) a0 a1 x0) (by unfold F.pleachref25_SameTexts.l11010.B; repeat' first | exact App.val | exact App.no | exact App.lim | apply App.cond | apply App.guard | apply App.meet | apply App.ite | refine App.bind ?_ fun _ => ?_)) h
theorem V.pleachref25_SameTexts.of a0 a1 {r} (h : F.pleachref25_SameTexts.B V.pleachref25_SameTexts.l11010 a0 a1 = some r) : V.pleachref25_SameTexts a0 a1 = some r :=
  App.to (App.step 0 (fun v => F.pleachref25_SameTexts.eq (v 0) a0 a1) (by unfold F.pleachref25_SameTexts.B; repeat' first | exact App.val | exact App.no | exact App.lim | exact (App.enter 1 App.lim) | apply App.cond | apply App.guard | apply App.meet | apply App.ite | refine App.bind ?_ fun _ => ?_)) h
noncomputable def F.pleachref25_SameProps (K : Nat) (a0 : List TProp) (a1 : List TProp) : Option (Bool) := evFn Try.prog sg K 45 [.sc (.list sProp a0 false), .sc (.list sProp a1 false)] []
noncomputable def F.pleachref25_SameProps.at (K : Nat) (p ns : List Nat) (s : St) : Option (Bool) := atFn Try.prog sg K 45 0 p ns s
noncomputable def F.pleachref25_SameProps.in (K : Nat) (H : List Nat → List Nat → St → Option (Bool)) (p ns : List Nat) (s : St) : Option (Bool) := inFn Try.prog sg K 45 0 [] H p ns s
theorem F.pleachref25_SameProps.in_eq K p ns s : F.pleachref25_SameProps.at K p ns s = F.pleachref25_SameProps.in K (F.pleachref25_SameProps.at K) p ns s := atFn_eq (P := Try.prog) (sg := sg) (K := K) (f := 45) (m := 0) [] p ns s
theorem F.pleachref25_SameProps.in_main K a0 a1 : F.pleachref25_SameProps (K + 1) a0 a1 = F.pleachref25_SameProps.in K (F.pleachref25_SameProps.at K) [] [] ⟨slots [.sc (.list sProp a0 false), .sc (.list sProp a1 false)] 0, []⟩ := evFn_eq (P := Try.prog) (sg := sg) (K := K) (f := 45) (args := [.sc (.list sProp a0 false), .sc (.list sProp a1 false)]) (σ := []) [] (by kernel_rfl)
def F.pleachref25_SameProps.l11010.st (a0 : List TProp) (a1 : List TProp) (x0 : Int) : St := ⟨[(0, vL sProp a0), (1, vL sProp a1), (5, vI x0)], []⟩
noncomputable def F.pleachref25_SameProps.l11010 (K n0 : Nat) (a0 : List TProp) (a1 : List TProp) (x0 : Int) := F.pleachref25_SameProps.at K [1, 1, 0, 1, 0] [n0] (F.pleachref25_SameProps.l11010.st a0 a1 x0)
noncomputable def F.pleachref25_SameProps.l11010.B (c0 : (List TProp) → (List TProp) → (Int) → Option (Bool)) (a0 : List TProp) (a1 : List TProp) (x0 : Int) : Option (Bool) :=
    (bif (decide (x0 < (a0.length : Int))) then (guardK (decide (0 ≤ x0) && decide (x0 < (a0.length : Int))) (guardK (decide (0 ≤ x0) && decide (x0 < (a1.length : Int))) (bif (!((strEq ((rd sProp a0 x0.toNat).1) ((rd sProp a1 x0.toNat).1)) && (((((rd sProp a0 x0.toNat).2).1 == ((rd sProp a1 x0.toNat).2).1) && (((((rd sProp a0 x0.toNat).2).2).1 == (((rd sProp a1 x0.toNat).2).2).1) && ((strEq ((((rd sProp a0 x0.toNat).2).2).2) ((((rd sProp a1 x0.toNat).2).2).2)) && true))) && true))) then (some false) else (c0 a0 a1 (w64 (x0 + 1)))))) else (some true))
theorem F.pleachref25_SameProps.l11010.eq K n0 a0 a1 x0 : F.pleachref25_SameProps.l11010 K (n0 + 1) a0 a1 x0 = F.pleachref25_SameProps.l11010.B (F.pleachref25_SameProps.l11010 K n0) a0 a1 x0 := (F.pleachref25_SameProps.in_eq K [1, 1, 0, 1, 0] [n0 + 1] (F.pleachref25_SameProps.l11010.st a0 a1 x0)).trans ((show ∀ H, F.pleachref25_SameProps.in K H [1, 1, 0, 1, 0] [n0 + 1] (F.pleachref25_SameProps.l11010.st a0 a1 x0) = F.pleachref25_SameProps.l11010.B (fun a0 a1 x0 => H [1, 1, 0, 1, 0] [n0] (F.pleachref25_SameProps.l11010.st a0 a1 x0)) a0 a1 x0 from by intro H; kernel_rfl) (F.pleachref25_SameProps.at K))
noncomputable def F.pleachref25_SameProps.B (c0 : (List TProp) → (List TProp) → (Int) → Option (Bool)) (a0 : List TProp) (a1 : List TProp) : Option (Bool) :=
    (bif ((a0.length : Int) != (a1.length : Int)) then (some false) else (c0 a0 a1 0))
theorem F.pleachref25_SameProps.eq K a0 a1 : F.pleachref25_SameProps (K + 1) a0 a1 = F.pleachref25_SameProps.B (F.pleachref25_SameProps.l11010 K K) a0 a1 := (F.pleachref25_SameProps.in_main K a0 a1).trans ((show ∀ H, F.pleachref25_SameProps.in K H [] [] ⟨slots [.sc (.list sProp a0 false), .sc (.list sProp a1 false)] 0, []⟩ = F.pleachref25_SameProps.B (fun a0 a1 x0 => H [1, 1, 0, 1, 0] [K] (F.pleachref25_SameProps.l11010.st a0 a1 x0)) a0 a1 from by intro H; kernel_rfl) (F.pleachref25_SameProps.at K))
noncomputable def V.pleachref25_SameProps.l11010 (a0 : List TProp) (a1 : List TProp) (x0 : Int) := lim fun v => F.pleachref25_SameProps.l11010 (v 0) (v 1) a0 a1 x0
noncomputable def V.pleachref25_SameProps (a0 : List TProp) (a1 : List TProp) := lim fun v => F.pleachref25_SameProps (v 0) a0 a1
theorem V.pleachref25_SameProps.l11010.of a0 a1 x0 {r} (h : F.pleachref25_SameProps.l11010.B V.pleachref25_SameProps.l11010 a0 a1 x0 = some r) : V.pleachref25_SameProps.l11010 a0 a1 x0 = some r :=
  App.to (App.step 1 (fun v => F.pleachref25_SameProps.l11010.eq (v 0) (v 1) a0 a1 x0) (by unfold F.pleachref25_SameProps.l11010.B; repeat' first | exact App.val | exact App.no | exact App.lim | apply App.cond | apply App.guard | apply App.meet | apply App.ite | refine App.bind ?_ fun _ => ?_)) h
theorem V.pleachref25_SameProps.of a0 a1 {r} (h : F.pleachref25_SameProps.B V.pleachref25_SameProps.l11010 a0 a1 = some r) : V.pleachref25_SameProps a0 a1 = some r :=
  App.to (App.step 0 (fun v => F.pleachref25_SameProps.eq (v 0) a0 a1) (by unfold F.pleachref25_SameProps.B; repeat' first | exact App.val | exact App.no | exact App.lim | exact (App.enter 1 App.lim) | apply App.cond | apply App.guard | apply App.meet | apply App.ite | refine App.bind ?_ fun _ => ?_)) h
noncomputable def F.pleachref25_SameNode (K : Nat) (a0 : TNode) (a1 : TNode) : Option (Bool) := evFn Try.prog sg K 36 [.agg [.val (.string a0.1), .list .str a0.2.1 false, .list sProp a0.2.2 false], .agg [.val (.string a1.1), .list .str a1.2.1 false, .list sProp a1.2.2 false]] []
noncomputable def F.pleachref25_SameNode.B (c0 : (List ByteArray) → (List ByteArray) → Option (Bool)) (c1 : (List TProp) → (List TProp) → Option (Bool)) (a0 : TNode) (a1 : TNode) : Option (Bool) :=
    (bif (strEq a0.1 a1.1) then ((c0 a0.2.1 a1.2.1).bind fun t0 => (bif t0 then ((c1 a0.2.2 a1.2.2).bind fun t1 => (some t1)) else (some false))) else (some false))
theorem F.pleachref25_SameNode.eq K a0 a1 : F.pleachref25_SameNode (K + 1) a0 a1 = F.pleachref25_SameNode.B (F.pleachref25_SameTexts K) (F.pleachref25_SameProps K) a0 a1 := by kernel_rfl
noncomputable def V.pleachref25_SameNode (a0 : TNode) (a1 : TNode) := lim fun v => F.pleachref25_SameNode (v 0) a0 a1
theorem V.pleachref25_SameNode.of a0 a1 {r} (h : F.pleachref25_SameNode.B V.pleachref25_SameTexts V.pleachref25_SameProps a0 a1 = some r) : V.pleachref25_SameNode a0 a1 = some r :=
  App.to (App.step 0 (fun v => F.pleachref25_SameNode.eq (v 0) a0 a1) (by unfold F.pleachref25_SameNode.B; repeat' first | exact App.val | exact App.no | exact App.lim | apply App.cond | apply App.guard | apply App.meet | apply App.ite | refine App.bind ?_ fun _ => ?_)) h
noncomputable def F.pleachref25_SameEdge (K : Nat) (a0 : TEdge) (a1 : TEdge) : Option (Bool) := evFn Try.prog sg K 37 [.agg [.val (.string a0.1), .val (.string a0.2.1), .val (.string a0.2.2.1), .list .str a0.2.2.2.1 false, .list sProp a0.2.2.2.2 false], .agg [.val (.string a1.1), .val (.string a1.2.1), .val (.string a1.2.2.1), .list .str a1.2.2.2.1 false, .list sProp a1.2.2.2.2 false]] []
noncomputable def F.pleachref25_SameEdge.B (c0 : (List ByteArray) → (List ByteArray) → Option (Bool)) (c1 : (List TProp) → (List TProp) → Option (Bool)) (a0 : TEdge) (a1 : TEdge) : Option (Bool) :=
    (bif (strEq a0.1 a1.1) then (bif (strEq a0.2.1 a1.2.1) then (bif (strEq a0.2.2.1 a1.2.2.1) then ((c0 a0.2.2.2.1 a1.2.2.2.1).bind fun t0 => (bif t0 then ((c1 a0.2.2.2.2 a1.2.2.2.2).bind fun t1 => (some t1)) else (some false))) else (some false)) else (some false)) else (some false))
theorem F.pleachref25_SameEdge.eq K a0 a1 : F.pleachref25_SameEdge (K + 1) a0 a1 = F.pleachref25_SameEdge.B (F.pleachref25_SameTexts K) (F.pleachref25_SameProps K) a0 a1 := by kernel_rfl
noncomputable def V.pleachref25_SameEdge (a0 : TEdge) (a1 : TEdge) := lim fun v => F.pleachref25_SameEdge (v 0) a0 a1
theorem V.pleachref25_SameEdge.of a0 a1 {r} (h : F.pleachref25_SameEdge.B V.pleachref25_SameTexts V.pleachref25_SameProps a0 a1 = some r) : V.pleachref25_SameEdge a0 a1 = some r :=
  App.to (App.step 0 (fun v => F.pleachref25_SameEdge.eq (v 0) a0 a1) (by unfold F.pleachref25_SameEdge.B; repeat' first | exact App.val | exact App.no | exact App.lim | apply App.cond | apply App.guard | apply App.meet | apply App.ite | refine App.bind ?_ fun _ => ?_)) h
noncomputable def F.pleachref26_Same (K : Nat) (a0 : TGraph) (a1 : TGraph) : Option (Bool) := evFn Try.prog sg K 33 [.agg [.list sNode a0.1 false, .list sEdge a0.2 false], .agg [.list sNode a1.1 false, .list sEdge a1.2 false]] []
noncomputable def F.pleachref26_Same.at (K : Nat) (p ns : List Nat) (s : St) : Option (Bool) := atFn Try.prog sg K 33 0 p ns s
noncomputable def F.pleachref26_Same.in (K : Nat) (H : List Nat → List Nat → St → Option (Bool)) (p ns : List Nat) (s : St) : Option (Bool) := inFn Try.prog sg K 33 0 [] H p ns s
theorem F.pleachref26_Same.in_eq K p ns s : F.pleachref26_Same.at K p ns s = F.pleachref26_Same.in K (F.pleachref26_Same.at K) p ns s := atFn_eq (P := Try.prog) (sg := sg) (K := K) (f := 33) (m := 0) [] p ns s
theorem F.pleachref26_Same.in_main K a0 a1 : F.pleachref26_Same (K + 1) a0 a1 = F.pleachref26_Same.in K (F.pleachref26_Same.at K) [] [] ⟨slots [.agg [.list sNode a0.1 false, .list sEdge a0.2 false], .agg [.list sNode a1.1 false, .list sEdge a1.2 false]] 0, []⟩ := evFn_eq (P := Try.prog) (sg := sg) (K := K) (f := 33) (args := [.agg [.list sNode a0.1 false, .list sEdge a0.2 false], .agg [.list sNode a1.1 false, .list sEdge a1.2 false]]) (σ := []) [] (by kernel_rfl)
def F.pleachref26_Same.l11010.st (a0 : TGraph) (a1 : TGraph) (x0 : Int) : St := ⟨[(2, .one (.sc (.ref 0 0))), (3, .one (.sc (.ref 1 0))), (5, vI x0)], [.cells 58 [.list sNode a0.1 false, .list sEdge a0.2 false], .cells 58 [.list sNode a1.1 false, .list sEdge a1.2 false]]⟩
noncomputable def F.pleachref26_Same.l11010 (K n0 : Nat) (a0 : TGraph) (a1 : TGraph) (x0 : Int) := F.pleachref26_Same.at K [1, 1, 0, 1, 0] [n0] (F.pleachref26_Same.l11010.st a0 a1 x0)
def F.pleachref26_Same.l111010.st (a0 : TGraph) (a1 : TGraph) (x0 : Int) : St := ⟨[(2, .one (.sc (.ref 0 0))), (3, .one (.sc (.ref 1 0))), (6, vI x0)], [.cells 58 [.list sNode a0.1 false, .list sEdge a0.2 false], .cells 58 [.list sNode a1.1 false, .list sEdge a1.2 false]]⟩
noncomputable def F.pleachref26_Same.l111010 (K n0 : Nat) (a0 : TGraph) (a1 : TGraph) (x0 : Int) := F.pleachref26_Same.at K [1, 1, 1, 0, 1, 0] [n0] (F.pleachref26_Same.l111010.st a0 a1 x0)
noncomputable def F.pleachref26_Same.l11010.B (c0 : (TNode) → (TNode) → Option (Bool)) (c1 : (TGraph) → (TGraph) → (Int) → Option (Bool)) (c2 : (TGraph) → (TGraph) → (Int) → Option (Bool)) (a0 : TGraph) (a1 : TGraph) (x0 : Int) : Option (Bool) :=
    (bif (decide (x0 < (a0.1.length : Int))) then (guardK (decide (0 ≤ x0) && decide (x0 < (a0.1.length : Int))) (guardK (decide (0 ≤ x0) && decide (x0 < (a1.1.length : Int))) ((c0 ((rd sNode a0.1 x0.toNat).1, ((rd sNode a0.1 x0.toNat).2).1, ((rd sNode a0.1 x0.toNat).2).2) ((rd sNode a1.1 x0.toNat).1, ((rd sNode a1.1 x0.toNat).2).1, ((rd sNode a1.1 x0.toNat).2).2)).bind fun t0 => (bif (!t0) then (some false) else (c1 a0 a1 (w64 (x0 + 1))))))) else (c2 a0 a1 0))
theorem F.pleachref26_Same.l11010.eq K n0 a0 a1 x0 : F.pleachref26_Same.l11010 K (n0 + 1) a0 a1 x0 = F.pleachref26_Same.l11010.B (F.pleachref25_SameNode K) (F.pleachref26_Same.l11010 K n0) (F.pleachref26_Same.l111010 K K) a0 a1 x0 := (F.pleachref26_Same.in_eq K [1, 1, 0, 1, 0] [n0 + 1] (F.pleachref26_Same.l11010.st a0 a1 x0)).trans ((show ∀ H, F.pleachref26_Same.in K H [1, 1, 0, 1, 0] [n0 + 1] (F.pleachref26_Same.l11010.st a0 a1 x0) = F.pleachref26_Same.l11010.B (F.pleachref25_SameNode K) (fun a0 a1 x0 => H [1, 1, 0, 1, 0] [n0] (F.pleachref26_Same.l11010.st a0 a1 x0)) (fun a0 a1 x0 => H [1, 1, 1, 0, 1, 0] [K] (F.pleachref26_Same.l111010.st a0 a1 x0)) a0 a1 x0 from by intro H; kernel_rfl) (F.pleachref26_Same.at K))
noncomputable def F.pleachref26_Same.l111010.B (c0 : (TEdge) → (TEdge) → Option (Bool)) (c1 : (TGraph) → (TGraph) → (Int) → Option (Bool)) (a0 : TGraph) (a1 : TGraph) (x0 : Int) : Option (Bool) :=
    (bif (decide (x0 < (a0.2.length : Int))) then (guardK (decide (0 ≤ x0) && decide (x0 < (a0.2.length : Int))) (guardK (decide (0 ≤ x0) && decide (x0 < (a1.2.length : Int))) ((c0 ((rd sEdge a0.2 x0.toNat).1, ((rd sEdge a0.2 x0.toNat).2).1, (((rd sEdge a0.2 x0.toNat).2).2).1, ((((rd sEdge a0.2 x0.toNat).2).2).2).1, ((((rd sEdge a0.2 x0.toNat).2).2).2).2) ((rd sEdge a1.2 x0.toNat).1, ((rd sEdge a1.2 x0.toNat).2).1, (((rd sEdge a1.2 x0.toNat).2).2).1, ((((rd sEdge a1.2 x0.toNat).2).2).2).1, ((((rd sEdge a1.2 x0.toNat).2).2).2).2)).bind fun t1 => (bif (!t1) then (some false) else (c1 a0 a1 (w64 (x0 + 1))))))) else (some true))
theorem F.pleachref26_Same.l111010.eq K n0 a0 a1 x0 : F.pleachref26_Same.l111010 K (n0 + 1) a0 a1 x0 = F.pleachref26_Same.l111010.B (F.pleachref25_SameEdge K) (F.pleachref26_Same.l111010 K n0) a0 a1 x0 := (F.pleachref26_Same.in_eq K [1, 1, 1, 0, 1, 0] [n0 + 1] (F.pleachref26_Same.l111010.st a0 a1 x0)).trans ((show ∀ H, F.pleachref26_Same.in K H [1, 1, 1, 0, 1, 0] [n0 + 1] (F.pleachref26_Same.l111010.st a0 a1 x0) = F.pleachref26_Same.l111010.B (F.pleachref25_SameEdge K) (fun a0 a1 x0 => H [1, 1, 1, 0, 1, 0] [n0] (F.pleachref26_Same.l111010.st a0 a1 x0)) a0 a1 x0 from by intro H; kernel_rfl) (F.pleachref26_Same.at K))
noncomputable def F.pleachref26_Same.B (c0 : (TGraph) → (TGraph) → (Int) → Option (Bool)) (a0 : TGraph) (a1 : TGraph) : Option (Bool) :=
    (bif ((a0.1.length : Int) != (a1.1.length : Int)) then (some false) else (bif ((a0.2.length : Int) != (a1.2.length : Int)) then (some false) else (c0 a0 a1 0)))
theorem F.pleachref26_Same.eq K a0 a1 : F.pleachref26_Same (K + 1) a0 a1 = F.pleachref26_Same.B (F.pleachref26_Same.l11010 K K) a0 a1 := (F.pleachref26_Same.in_main K a0 a1).trans ((show ∀ H, F.pleachref26_Same.in K H [] [] ⟨slots [.agg [.list sNode a0.1 false, .list sEdge a0.2 false], .agg [.list sNode a1.1 false, .list sEdge a1.2 false]] 0, []⟩ = F.pleachref26_Same.B (fun a0 a1 x0 => H [1, 1, 0, 1, 0] [K] (F.pleachref26_Same.l11010.st a0 a1 x0)) a0 a1 from by intro H; kernel_rfl) (F.pleachref26_Same.at K))
noncomputable def V.pleachref26_Same.l11010 (a0 : TGraph) (a1 : TGraph) (x0 : Int) := lim fun v => F.pleachref26_Same.l11010 (v 0) (v 1) a0 a1 x0
noncomputable def V.pleachref26_Same.l111010 (a0 : TGraph) (a1 : TGraph) (x0 : Int) := lim fun v => F.pleachref26_Same.l111010 (v 0) (v 1) a0 a1 x0
noncomputable def V.pleachref26_Same (a0 : TGraph) (a1 : TGraph) := lim fun v => F.pleachref26_Same (v 0) a0 a1
theorem V.pleachref26_Same.l11010.of a0 a1 x0 {r} (h : F.pleachref26_Same.l11010.B V.pleachref25_SameNode V.pleachref26_Same.l11010 V.pleachref26_Same.l111010 a0 a1 x0 = some r) : V.pleachref26_Same.l11010 a0 a1 x0 = some r :=
  App.to (App.step 1 (fun v => F.pleachref26_Same.l11010.eq (v 0) (v 1) a0 a1 x0) (by unfold F.pleachref26_Same.l11010.B; repeat' first | exact App.val | exact App.no | exact App.lim | exact (App.enter 1 App.lim) | apply App.cond | apply App.guard | apply App.meet | apply App.ite | refine App.bind ?_ fun _ => ?_)) h
theorem V.pleachref26_Same.l111010.of a0 a1 x0 {r} (h : F.pleachref26_Same.l111010.B V.pleachref25_SameEdge V.pleachref26_Same.l111010 a0 a1 x0 = some r) : V.pleachref26_Same.l111010 a0 a1 x0 = some r :=
  App.to (App.step 1 (fun v => F.pleachref26_Same.l111010.eq (v 0) (v 1) a0 a1 x0) (by unfold F.pleachref26_Same.l111010.B; repeat' first | exact App.val | exact App.no | exact App.lim | apply App.cond | apply App.guard | apply App.meet | apply App.ite | refine App.bind ?_ fun _ => ?_)) h
theorem V.pleachref26_Same.of a0 a1 {r} (h : F.pleachref26_Same.B V.pleachref26_Same.l11010 a0 a1 = some r) : V.pleachref26_Same a0 a1 = some r :=
  App.to (App.step 0 (fun v => F.pleachref26_Same.eq (v 0) a0 a1) (by unfold F.pleachref26_Same.B; repeat' first | exact App.val | exact App.no | exact App.lim | exact (App.enter 1 App.lim) | apply App.cond | apply App.guard | apply App.meet | apply App.ite | refine App.bind ?_ fun _ => ?_)) h
noncomputable def F.pleachlaw31_KeysTake (K : Nat) (a0 : List TEntry) : Option (Bool) := evFn Try.prog sg K 6 [.sc (.list sEntry a0 false)] []
noncomputable def F.pleachlaw31_KeysTake.at (K : Nat) (p ns : List Nat) (s : St) : Option (Bool) := atFn Try.prog sg K 6 0 p ns s
noncomputable def F.pleachlaw31_KeysTake.in (K : Nat) (H : List Nat → List Nat → St → Option (Bool)) (p ns : List Nat) (s : St) : Option (Bool) := inFn Try.prog sg K 6 0 [[1, 1, 1, 1, 0, 1, 0, 0, 1, 1, 0, 0, 1, 1, 1, 1], [1, 1, 1, 1, 0, 1, 0, 0, 1, 1, 1], [1, 1, 1, 1, 1, 1, 1, 1], [1, 1, 1, 1, 1, 1, 1, 1, 1]] H p ns s
theorem F.pleachlaw31_KeysTake.in_eq K p ns s : F.pleachlaw31_KeysTake.at K p ns s = F.pleachlaw31_KeysTake.in K (F.pleachlaw31_KeysTake.at K) p ns s := atFn_eq (P := Try.prog) (sg := sg) (K := K) (f := 6) (m := 0) [[1, 1, 1, 1, 0, 1, 0, 0, 1, 1, 0, 0, 1, 1, 1, 1], [1, 1, 1, 1, 0, 1, 0, 0, 1, 1, 1], [1, 1, 1, 1, 1, 1, 1, 1], [1, 1, 1, 1, 1, 1, 1, 1, 1]] p ns s
theorem F.pleachlaw31_KeysTake.in_main K a0 : F.pleachlaw31_KeysTake (K + 1) a0 = F.pleachlaw31_KeysTake.in K (F.pleachlaw31_KeysTake.at K) [] [] ⟨slots [.sc (.list sEntry a0 false)] 0, []⟩ := evFn_eq (P := Try.prog) (sg := sg) (K := K) (f := 6) (args := [.sc (.list sEntry a0 false)]) (σ := []) [[1, 1, 1, 1, 0, 1, 0, 0, 1, 1, 0, 0, 1, 1, 1, 1], [1, 1, 1, 1, 0, 1, 0, 0, 1, 1, 1], [1, 1, 1, 1, 1, 1, 1, 1], [1, 1, 1, 1, 1, 1, 1, 1, 1]] (by kernel_rfl)
def F.pleachlaw31_KeysTake.l1111010.st (a0 : List TEntry) (x0 : Bool) (x1 : Bool) (x2 : Int) (x3 : List TNode) (x4 : List TEdge) : St := ⟨[(0, vL sEntry a0), (3, .one (.sc (.ref 0 0))), (4, vB x0), (5, vB x1), (20, vL sEntry a0), (21, vI (a0.length : Int)), (22, vI x2)], [.cells 58 [.own 1 none, .own 2 none], .elems sNode x3, .elems sEdge x4]⟩
noncomputable def F.pleachlaw31_KeysTake.l1111010 (K n0 : Nat) (a0 : List TEntry) (x0 : Bool) (x1 : Bool) (x2 : Int) (x3 : List TNode) (x4 : List TEdge) := F.pleachlaw31_KeysTake.at K [1, 1, 1, 1, 0, 1, 0] [n0] (F.pleachlaw31_KeysTake.l1111010.st a0 x0 x1 x2 x3 x4)
def F.pleachlaw31_KeysTake.j1111010011001111.st (a0 : List TEntry) (x0 : Bool) (x1 : Bool) (x2 : Int) (x3 : ByteArray) (x4 : List ByteArray) (x5 : List TProp) (x6 : ByteArray) (x7 : ByteArray) (x8 : ByteArray) (x9 : List ByteArray) (x10 : List TProp) (x11 : List TNode) (x12 : List TEdge) : St := ⟨[(0, vL sEntry a0), (3, .one (.sc (.ref 0 0))), (4, vB x0), (5, vB x1), (8, .one (.sc (.ref 1 0))), (10, .one (.sc (.ref 2 0))), (20, vL sEntry a0), (21, vI (a0.length : Int)), (22, vI x2)], [.cells 58 [.own 3 none, .own 4 none], .cells 25 [.val (.string x3), .list .str x4 false, .list sProp x5 false], .cells 38 [.val (.string x6), .val (.string x7), .val (.string x8), .list .str x9 false, .list sProp x10 false], .elems sNode x11, .elems sEdge x12]⟩
noncomputable def F.pleachlaw31_KeysTake.j1111010011001111 (K n0 : Nat) (a0 : List TEntry) (x0 : Bool) (x1 : Bool) (x2 : Int) (x3 : ByteArray) (x4 : List ByteArray) (x5 : List TProp) (x6 : ByteArray) (x7 : ByteArray) (x8 : ByteArray) (x9 : List ByteArray) (x10 : List TProp) (x11 : List TNode) (x12 : List TEdge) := F.pleachlaw31_KeysTake.at K [1, 1, 1, 1, 0, 1, 0, 0, 1, 1, 0, 0, 1, 1, 1, 1] [n0] (F.pleachlaw31_KeysTake.j1111010011001111.st a0 x0 x1 x2 x3 x4 x5 x6 x7 x8 x9 x10 x11 x12)
def F.pleachlaw31_KeysTake.j11110100111.st (a0 : List TEntry) (x0 : Bool) (x1 : Bool) (x2 : Int) (x3 : List TNode) (x4 : List TEdge) : St := ⟨[(0, vL sEntry a0), (3, .one (.sc (.ref 0 0))), (4, vB x0), (5, vB x1), (20, vL sEntry a0), (21, vI (a0.length : Int)), (22, vI x2)], [.cells 58 [.own 1 none, .own 2 none], .elems sNode x3, .elems sEdge x4]⟩
noncomputable def F.pleachlaw31_KeysTake.j11110100111 (K n0 : Nat) (a0 : List TEntry) (x0 : Bool) (x1 : Bool) (x2 : Int) (x3 : List TNode) (x4 : List TEdge) := F.pleachlaw31_KeysTake.at K [1, 1, 1, 1, 0, 1, 0, 0, 1, 1, 1] [n0] (F.pleachlaw31_KeysTake.j11110100111.st a0 x0 x1 x2 x3 x4)
def F.pleachlaw31_KeysTake.j11111111.st (a0 : List TEntry) (x0 : Bool) (x1 : Bool) (x2 : Int) (x3 : Int) (x4 : List TNode) (x5 : List TEdge) (x6 : List TNode) (x7 : List TEdge) : St := ⟨[(3, .one (.sc (.ref 0 0))), (4, vB x0), (5, vB x1), (12, .one (.sc (.own 1 none))), (13, vI x2), (14, .one (.sc (.own 2 none))), (15, vI x3)], [.cells 58 [.own 3 none, .own 4 none], .elems sNode x4, .elems sEdge x5, .elems sNode x6, .elems sEdge x7]⟩
noncomputable def F.pleachlaw31_KeysTake.j11111111 (K : Nat) (a0 : List TEntry) (x0 : Bool) (x1 : Bool) (x2 : Int) (x3 : Int) (x4 : List TNode) (x5 : List TEdge) (x6 : List TNode) (x7 : List TEdge) := F.pleachlaw31_KeysTake.at K [1, 1, 1, 1, 1, 1, 1, 1] [] (F.pleachlaw31_KeysTake.j11111111.st a0 x0 x1 x2 x3 x4 x5 x6 x7)
def F.pleachlaw31_KeysTake.j111111111.st (a0 : List TEntry) (x0 : Bool) (x1 : Bool) (x2 : Int) (x3 : Int) (x4 : List TNode) (x5 : List TEdge) (x6 : List TNode) (x7 : List TEdge) : St := ⟨[(3, .one (.sc (.ref 0 0))), (4, vB x0), (5, vB x1), (12, .one (.sc (.own 1 none))), (13, vI x2), (14, .one (.sc (.own 2 none))), (15, vI x3)], [.cells 58 [.own 3 none, .own 4 none], .elems sNode x4, .elems sEdge x5, .elems sNode x6, .elems sEdge x7]⟩
noncomputable def F.pleachlaw31_KeysTake.j111111111 (K : Nat) (a0 : List TEntry) (x0 : Bool) (x1 : Bool) (x2 : Int) (x3 : Int) (x4 : List TNode) (x5 : List TEdge) (x6 : List TNode) (x7 : List TEdge) := F.pleachlaw31_KeysTake.at K [1, 1, 1, 1, 1, 1, 1, 1, 1] [] (F.pleachlaw31_KeysTake.j111111111.st a0 x0 x1 x2 x3 x4 x5 x6 x7)
noncomputable def F.pleachlaw31_KeysTake.l1111010.B (c0 : (ByteArray) → (ByteArray) → Option (TNode × Bool)) (c1 : (ByteArray) → (ByteArray) → Option (TEdge × Bool)) (c2 : (List TEntry) → (Bool) → (Bool) → (Int) → (ByteArray) → (List ByteArray) → (List TProp) → (ByteArray) → (ByteArray) → (ByteArray) → (List ByteArray) → (List TProp) → (List TNode) → (List TEdge) → Option (Bool)) (c3 : (List TEntry) → Option ((List TNode) × Int)) (c4 : (List TEntry) → Option ((List TEdge) × Int)) (c5 : (List TEntry) → (Bool) → (Bool) → (Int) → (Int) → (List TNode) → (List TEdge) → (List TNode) → (List TEdge) → Option (Bool)) (a0 : List TEntry) (x0 : Bool) (x1 : Bool) (x2 : Int) (x3 : List TNode) (x4 : List TEdge) : Option (Bool) :=
    (bif (decide (x2 < (a0.length : Int))) then (guardK (decide (0 ≤ x2) && decide (x2 < (a0.length : Int))) ((c0 ((rd sEntry a0 x2.toNat).1) ((rd sEntry a0 x2.toNat).2)).bind fun t2 => ((c1 ((rd sEntry a0 x2.toNat).1) ((rd sEntry a0 x2.toNat).2)).bind fun t3 => (bif x0 then (bif x1 then (c2 a0 true true x2 t2.1.1 t2.1.2.1 t2.1.2.2 t3.1.1 t3.1.2.1 t3.1.2.2.1 t3.1.2.2.2.1 t3.1.2.2.2.2 x3 x4) else (c2 a0 true (!t3.2) x2 t2.1.1 t2.1.2.1 t2.1.2.2 t3.1.1 t3.1.2.1 t3.1.2.2.1 t3.1.2.2.2.1 t3.1.2.2.2.2 x3 x4)) else (bif x1 then (c2 a0 (!t2.2) true x2 t2.1.1 t2.1.2.1 t2.1.2.2 t3.1.1 t3.1.2.1 t3.1.2.2.1 t3.1.2.2.2.1 t3.1.2.2.2.2 x3 x4) else (c2 a0 (!t2.2) (!t3.2) x2 t2.1.1 t2.1.2.1 t2.1.2.2 t3.1.1 t3.1.2.1 t3.1.2.2.1 t3.1.2.2.2.1 t3.1.2.2.2.2 x3 x4)))))) else ((c3 a0).bind fun t4 => ((c4 a0).bind fun t5 => (bif x0 then (c5 a0 x0 x1 t4.2 t5.2 t4.1 t5.1 ([]) x4) else (c5 a0 x0 x1 t4.2 t5.2 t4.1 t5.1 x3 x4)))))
theorem F.pleachlaw31_KeysTake.l1111010.eq K n0 a0 x0 x1 x2 x3 x4 : F.pleachlaw31_KeysTake.l1111010 K (n0 + 1) a0 x0 x1 x2 x3 x4 = F.pleachlaw31_KeysTake.l1111010.B (F.pleachref25_TakeNode K) (F.pleachref25_TakeEdge K) (F.pleachlaw31_KeysTake.j1111010011001111 K n0) (F.keys_TakeNodes K) (F.keys_TakeEdges K) (F.pleachlaw31_KeysTake.j11111111 K) a0 x0 x1 x2 x3 x4 := (F.pleachlaw31_KeysTake.in_eq K [1, 1, 1, 1, 0, 1, 0] [n0 + 1] (F.pleachlaw31_KeysTake.l1111010.st a0 x0 x1 x2 x3 x4)).trans ((show ∀ H, F.pleachlaw31_KeysTake.in K H [1, 1, 1, 1, 0, 1, 0] [n0 + 1] (F.pleachlaw31_KeysTake.l1111010.st a0 x0 x1 x2 x3 x4) = F.pleachlaw31_KeysTake.l1111010.B (F.pleachref25_TakeNode K) (F.pleachref25_TakeEdge K) (fun a0 x0 x1 x2 x3 x4 x5 x6 x7 x8 x9 x10 x11 x12 => H [1, 1, 1, 1, 0, 1, 0, 0, 1, 1, 0, 0, 1, 1, 1, 1] [n0] (F.pleachlaw31_KeysTake.j1111010011001111.st a0 x0 x1 x2 x3 x4 x5 x6 x7 x8 x9 x10 x11 x12)) (F.keys_TakeNodes K) (F.keys_TakeEdges K) (fun a0 x0 x1 x2 x3 x4 x5 x6 x7 => H [1, 1, 1, 1, 1, 1, 1, 1] [] (F.pleachlaw31_KeysTake.j11111111.st a0 x0 x1 x2 x3 x4 x5 x6 x7)) a0 x0 x1 x2 x3 x4 from by intro H; kernel_rfl) (F.pleachlaw31_KeysTake.at K))
noncomputable def F.pleachlaw31_KeysTake.j1111010011001111.B (c0 : (List TEntry) → (Bool) → (Bool) → (Int) → (List TNode) → (List TEdge) → Option (Bool)) (a0 : List TEntry) (x0 : Bool) (x1 : Bool) (x2 : Int) (x3 : ByteArray) (x4 : List ByteArray) (x5 : List TProp) (x6 : ByteArray) (x7 : ByteArray) (x8 : ByteArray) (x9 : List ByteArray) (x10 : List TProp) (x11 : List TNode) (x12 : List TEdge) : Option (Bool) :=
    (meet (meet (meet (guardK (decide (x11.length + ([(x3, x4, x5)]).length ≤ nmax)) (meet (guardK (decide (x12.length + ([(x6, x7, x8, x9, x10)]).length ≤ nmax)) (c0 a0 x0 x1 x2 (x11 ++ [(x3, x4, x5)]) (x12 ++ [(x6, x7, x8, x9, x10)]))) (guardK (decide (x12.length + ([(x6, x7, x8, x9, x10)]).length ≤ nmax)) (c0 a0 x0 x1 x2 (x11 ++ [(x3, x4, x5)]) (x12 ++ [(x6, x7, x8, x9, x10)]))))) (meet (meet (guardK (decide (x11.length + ([(x3, x4, x5)]).length ≤ nmax)) (guardK (decide (x12.length + ([(x6, x7, x8, x9, x10)]).length ≤ nmax)) (c0 a0 x0 x1 x2 (x11 ++ [(x3, x4, x5)]) (x12 ++ [(x6, x7, x8, x9, x10)])))) (guardK (decide (x11.length + ([(x3, x4, x5)]).length ≤ nmax)) (guardK (decide (x12.length + ([(x6, x7, x8, x9, x10)]).length ≤ nmax)) (c0 a0 x0 x1 x2 (x11 ++ [(x3, x4, x5)]) (x12 ++ [(x6, x7, x8, x9, x10)]))))) (meet (guardK (decide (x11.length + ([(x3, x4, x5)]).length ≤ nmax)) (guardK (decide (x12.length + ([(x6, x7, x8, x9, x10)]).length ≤ nmax)) (c0 a0 x0 x1 x2 (x11 ++ [(x3, x4, x5)]) (x12 ++ [(x6, x7, x8, x9, x10)])))) (guardK (decide (x11.length + ([(x3, x4, x5)]).length ≤ nmax)) (guardK (decide (x12.length + ([(x6, x7, x8, x9, x10)]).length ≤ nmax)) (c0 a0 x0 x1 x2 (x11 ++ [(x3, x4, x5)]) (x12 ++ [(x6, x7, x8, x9, x10)]))))))) (meet (meet (meet (guardK (decide (x11.length + ([(x3, x4, x5)]).length ≤ nmax)) (guardK (decide (x12.length + ([(x6, x7, x8, x9, x10)]).length ≤ nmax)) (c0 a0 x0 x1 x2 (x11 ++ [(x3, x4, x5)]) (x12 ++ [(x6, x7, x8, x9, x10)])))) (guardK (decide (x11.length + ([(x3, x4, x5)]).length ≤ nmax)) (guardK (decide (x12.length + ([(x6, x7, x8, x9, x10)]).length ≤ nmax)) (c0 a0 x0 x1 x2 (x11 ++ [(x3, x4, x5)]) (x12 ++ [(x6, x7, x8, x9, x10)]))))) (guardK (decide (x11.length + ([(x3, x4, x5)]).length ≤ nmax)) (guardK (decide (x12.length + ([(x6, x7, x8, x9, x10)]).length ≤ nmax)) (c0 a0 x0 x1 x2 (x11 ++ [(x3, x4, x5)]) (x12 ++ [(x6, x7, x8, x9, x10)]))))) (meet (meet (guardK (decide (x11.length + ([(x3, x4, x5)]).length ≤ nmax)) (guardK (decide (x12.length + ([(x6, x7, x8, x9, x10)]).length ≤ nmax)) (c0 a0 x0 x1 x2 (x11 ++ [(x3, x4, x5)]) (x12 ++ [(x6, x7, x8, x9, x10)])))) (guardK (decide (x11.length + ([(x3, x4, x5)]).length ≤ nmax)) (guardK (decide (x12.length + ([(x6, x7, x8, x9, x10)]).length ≤ nmax)) (c0 a0 x0 x1 x2 (x11 ++ [(x3, x4, x5)]) (x12 ++ [(x6, x7, x8, x9, x10)]))))) (guardK (decide (x11.length + ([(x3, x4, x5)]).length ≤ nmax)) (guardK (decide (x12.length + ([(x6, x7, x8, x9, x10)]).length ≤ nmax)) (c0 a0 x0 x1 x2 (x11 ++ [(x3, x4, x5)]) (x12 ++ [(x6, x7, x8, x9, x10)]))))))) (meet (meet (meet (guardK (decide (x11.length + ([(x3, x4, x5)]).length ≤ nmax)) (meet (guardK (decide (x12.length + ([(x6, x7, x8, x9, x10)]).length ≤ nmax)) (c0 a0 x0 x1 x2 (x11 ++ [(x3, x4, x5)]) (x12 ++ [(x6, x7, x8, x9, x10)]))) (guardK (decide (x12.length + ([(x6, x7, x8, x9, x10)]).length ≤ nmax)) (c0 a0 x0 x1 x2 (x11 ++ [(x3, x4, x5)]) (x12 ++ [(x6, x7, x8, x9, x10)]))))) (meet (meet (guardK (decide (x11.length + ([(x3, x4, x5)]).length ≤ nmax)) (guardK (decide (x12.length + ([(x6, x7, x8, x9, x10)]).length ≤ nmax)) (c0 a0 x0 x1 x2 (x11 ++ [(x3, x4, x5)]) (x12 ++ [(x6, x7, x8, x9, x10)])))) (guardK (decide (x11.length + ([(x3, x4, x5)]).length ≤ nmax)) (guardK (decide (x12.length + ([(x6, x7, x8, x9, x10)]).length ≤ nmax)) (c0 a0 x0 x1 x2 (x11 ++ [(x3, x4, x5)]) (x12 ++ [(x6, x7, x8, x9, x10)]))))) (meet (guardK (decide (x11.length + ([(x3, x4, x5)]).length ≤ nmax)) (guardK (decide (x12.length + ([(x6, x7, x8, x9, x10)]).length ≤ nmax)) (c0 a0 x0 x1 x2 (x11 ++ [(x3, x4, x5)]) (x12 ++ [(x6, x7, x8, x9, x10)])))) (guardK (decide (x11.length + ([(x3, x4, x5)]).length ≤ nmax)) (guardK (decide (x12.length + ([(x6, x7, x8, x9, x10)]).length ≤ nmax)) (c0 a0 x0 x1 x2 (x11 ++ [(x3, x4, x5)]) (x12 ++ [(x6, x7, x8, x9, x10)]))))))) (meet (meet (meet (guardK (decide (x11.length + ([(x3, x4, x5)]).length ≤ nmax)) (guardK (decide (x12.length + ([(x6, x7, x8, x9, x10)]).length ≤ nmax)) (c0 a0 x0 x1 x2 (x11 ++ [(x3, x4, x5)]) (x12 ++ [(x6, x7, x8, x9, x10)])))) (guardK (decide (x11.length + ([(x3, x4, x5)]).length ≤ nmax)) (guardK (decide (x12.length + ([(x6, x7, x8, x9, x10)]).length ≤ nmax)) (c0 a0 x0 x1 x2 (x11 ++ [(x3, x4, x5)]) (x12 ++ [(x6, x7, x8, x9, x10)]))))) (guardK (decide (x11.length + ([(x3, x4, x5)]).length ≤ nmax)) (guardK (decide (x12.length + ([(x6, x7, x8, x9, x10)]).length ≤ nmax)) (c0 a0 x0 x1 x2 (x11 ++ [(x3, x4, x5)]) (x12 ++ [(x6, x7, x8, x9, x10)]))))) (meet (meet (guardK (decide (x11.length + ([(x3, x4, x5)]).length ≤ nmax)) (guardK (decide (x12.length + ([(x6, x7, x8, x9, x10)]).length ≤ nmax)) (c0 a0 x0 x1 x2 (x11 ++ [(x3, x4, x5)]) (x12 ++ [(x6, x7, x8, x9, x10)])))) (guardK (decide (x11.length + ([(x3, x4, x5)]).length ≤ nmax)) (guardK (decide (x12.length + ([(x6, x7, x8, x9, x10)]).length ≤ nmax)) (c0 a0 x0 x1 x2 (x11 ++ [(x3, x4, x5)]) (x12 ++ [(x6, x7, x8, x9, x10)]))))) (guardK (decide (x11.length + ([(x3, x4, x5)]).length ≤ nmax)) (guardK (decide (x12.length + ([(x6, x7, x8, x9, x10)]).length ≤ nmax)) (c0 a0 x0 x1 x2 (x11 ++ [(x3, x4, x5)]) (x12 ++ [(x6, x7, x8, x9, x10)]))))))) (meet (meet (meet (meet (guardK (decide (x11.length + ([(x3, x4, x5)]).length ≤ nmax)) (guardK (decide (x12.length + ([(x6, x7, x8, x9, x10)]).length ≤ nmax)) (c0 a0 x0 x1 x2 (x11 ++ [(x3, x4, x5)]) (x12 ++ [(x6, x7, x8, x9, x10)])))) (guardK (decide (x11.length + ([(x3, x4, x5)]).length ≤ nmax)) (guardK (decide (x12.length + ([(x6, x7, x8, x9, x10)]).length ≤ nmax)) (c0 a0 x0 x1 x2 (x11 ++ [(x3, x4, x5)]) (x12 ++ [(x6, x7, x8, x9, x10)]))))) (guardK (decide (x11.length + ([(x3, x4, x5)]).length ≤ nmax)) (guardK (decide (x12.length + ([(x6, x7, x8, x9, x10)]).length ≤ nmax)) (c0 a0 x0 x1 x2 (x11 ++ [(x3, x4, x5)]) (x12 ++ [(x6, x7, x8, x9, x10)]))))) (meet (meet (meet (guardK (decide (x11.length + ([(x3, x4, x5)]).length ≤ nmax)) (guardK (decide (x12.length + ([(x6, x7, x8, x9, x10)]).length ≤ nmax)) (c0 a0 x0 x1 x2 (x11 ++ [(x3, x4, x5)]) (x12 ++ [(x6, x7, x8, x9, x10)])))) (guardK (decide (x11.length + ([(x3, x4, x5)]).length ≤ nmax)) (guardK (decide (x12.length + ([(x6, x7, x8, x9, x10)]).length ≤ nmax)) (c0 a0 x0 x1 x2 (x11 ++ [(x3, x4, x5)]) (x12 ++ [(x6, x7, x8, x9, x10)]))))) (guardK (decide (x11.length + ([(x3, x4, x5)]).length ≤ nmax)) (guardK (decide (x12.length + ([(x6, x7, x8, x9, x10)]).length ≤ nmax)) (c0 a0 x0 x1 x2 (x11 ++ [(x3, x4, x5)]) (x12 ++ [(x6, x7, x8, x9, x10)]))))) (meet (guardK (decide (x11.length + ([(x3, x4, x5)]).length ≤ nmax)) (guardK (decide (x12.length + ([(x6, x7, x8, x9, x10)]).length ≤ nmax)) (c0 a0 x0 x1 x2 (x11 ++ [(x3, x4, x5)]) (x12 ++ [(x6, x7, x8, x9, x10)])))) (guardK (decide (x11.length + ([(x3, x4, x5)]).length ≤ nmax)) (guardK (decide (x12.length + ([(x6, x7, x8, x9, x10)]).length ≤ nmax)) (c0 a0 x0 x1 x2 (x11 ++ [(x3, x4, x5)]) (x12 ++ [(x6, x7, x8, x9, x10)]))))))) (meet (meet (meet (guardK (decide (x11.length + ([(x3, x4, x5)]).length ≤ nmax)) (guardK (decide (x12.length + ([(x6, x7, x8, x9, x10)]).length ≤ nmax)) (c0 a0 x0 x1 x2 (x11 ++ [(x3, x4, x5)]) (x12 ++ [(x6, x7, x8, x9, x10)])))) (guardK (decide (x11.length + ([(x3, x4, x5)]).length ≤ nmax)) (guardK (decide (x12.length + ([(x6, x7, x8, x9, x10)]).length ≤ nmax)) (c0 a0 x0 x1 x2 (x11 ++ [(x3, x4, x5)]) (x12 ++ [(x6, x7, x8, x9, x10)]))))) (guardK (decide (x11.length + ([(x3, x4, x5)]).length ≤ nmax)) (guardK (decide (x12.length + ([(x6, x7, x8, x9, x10)]).length ≤ nmax)) (c0 a0 x0 x1 x2 (x11 ++ [(x3, x4, x5)]) (x12 ++ [(x6, x7, x8, x9, x10)]))))) (meet (meet (meet (guardK (decide (x11.length + ([(x3, x4, x5)]).length ≤ nmax)) (guardK (decide (x12.length + ([(x6, x7, x8, x9, x10)]).length ≤ nmax)) (c0 a0 x0 x1 x2 (x11 ++ [(x3, x4, x5)]) (x12 ++ [(x6, x7, x8, x9, x10)])))) (guardK (decide (x11.length + ([(x3, x4, x5)]).length ≤ nmax)) (guardK (decide (x12.length + ([(x6, x7, x8, x9, x10)]).length ≤ nmax)) (c0 a0 x0 x1 x2 (x11 ++ [(x3, x4, x5)]) (x12 ++ [(x6, x7, x8, x9, x10)]))))) (guardK (decide (x11.length + ([(x3, x4, x5)]).length ≤ nmax)) (guardK (decide (x12.length + ([(x6, x7, x8, x9, x10)]).length ≤ nmax)) (c0 a0 x0 x1 x2 (x11 ++ [(x3, x4, x5)]) (x12 ++ [(x6, x7, x8, x9, x10)]))))) (meet (guardK (decide (x11.length + ([(x3, x4, x5)]).length ≤ nmax)) (guardK (decide (x12.length + ([(x6, x7, x8, x9, x10)]).length ≤ nmax)) (c0 a0 x0 x1 x2 (x11 ++ [(x3, x4, x5)]) (x12 ++ [(x6, x7, x8, x9, x10)])))) (guardK (decide (x11.length + ([(x3, x4, x5)]).length ≤ nmax)) (guardK (decide (x12.length + ([(x6, x7, x8, x9, x10)]).length ≤ nmax)) (c0 a0 x0 x1 x2 (x11 ++ [(x3, x4, x5)]) (x12 ++ [(x6, x7, x8, x9, x10)]))))))))))
theorem F.pleachlaw31_KeysTake.j1111010011001111.eq K n0 a0 x0 x1 x2 x3 x4 x5 x6 x7 x8 x9 x10 x11 x12 : F.pleachlaw31_KeysTake.j1111010011001111 K n0 a0 x0 x1 x2 x3 x4 x5 x6 x7 x8 x9 x10 x11 x12 = F.pleachlaw31_KeysTake.j1111010011001111.B (F.pleachlaw31_KeysTake.j11110100111 K n0) a0 x0 x1 x2 x3 x4 x5 x6 x7 x8 x9 x10 x11 x12 := (F.pleachlaw31_KeysTake.in_eq K [1, 1, 1, 1, 0, 1, 0, 0, 1, 1, 0, 0, 1, 1, 1, 1] [n0] (F.pleachlaw31_KeysTake.j1111010011001111.st a0 x0 x1 x2 x3 x4 x5 x6 x7 x8 x9 x10 x11 x12)).trans ((show ∀ H, F.pleachlaw31_KeysTake.in K H [1, 1, 1, 1, 0, 1, 0, 0, 1, 1, 0, 0, 1, 1, 1, 1] [n0] (F.pleachlaw31_KeysTake.j1111010011001111.st a0 x0 x1 x2 x3 x4 x5 x6 x7 x8 x9 x10 x11 x12) = F.pleachlaw31_KeysTake.j1111010011001111.B (fun a0 x0 x1 x2 x3 x4 => H [1, 1, 1, 1, 0, 1, 0, 0, 1, 1, 1] [n0] (F.pleachlaw31_KeysTake.j11110100111.st a0 x0 x1 x2 x3 x4)) a0 x0 x1 x2 x3 x4 x5 x6 x7 x8 x9 x10 x11 x12 from by intro H; kernel_rfl) (F.pleachlaw31_KeysTake.at K))
noncomputable def F.pleachlaw31_KeysTake.j11110100111.B (c0 : (List TEntry) → (Bool) → (Bool) → (Int) → (List TNode) → (List TEdge) → Option (Bool)) (a0 : List TEntry) (x0 : Bool) (x1 : Bool) (x2 : Int) (x3 : List TNode) (x4 : List TEdge) : Option (Bool) :=
    (c0 a0 x0 x1 (w64 (x2 + 1)) x3 x4)
theorem F.pleachlaw31_KeysTake.j11110100111.eq K n0 a0 x0 x1 x2 x3 x4 : F.pleachlaw31_KeysTake.j11110100111 K n0 a0 x0 x1 x2 x3 x4 = F.pleachlaw31_KeysTake.j11110100111.B (F.pleachlaw31_KeysTake.l1111010 K n0) a0 x0 x1 x2 x3 x4 := (F.pleachlaw31_KeysTake.in_eq K [1, 1, 1, 1, 0, 1, 0, 0, 1, 1, 1] [n0] (F.pleachlaw31_KeysTake.j11110100111.st a0 x0 x1 x2 x3 x4)).trans ((show ∀ H, F.pleachlaw31_KeysTake.in K H [1, 1, 1, 1, 0, 1, 0, 0, 1, 1, 1] [n0] (F.pleachlaw31_KeysTake.j11110100111.st a0 x0 x1 x2 x3 x4) = F.pleachlaw31_KeysTake.j11110100111.B (fun a0 x0 x1 x2 x3 x4 => H [1, 1, 1, 1, 0, 1, 0] [n0] (F.pleachlaw31_KeysTake.l1111010.st a0 x0 x1 x2 x3 x4)) a0 x0 x1 x2 x3 x4 from by intro H; kernel_rfl) (F.pleachlaw31_KeysTake.at K))
noncomputable def F.pleachlaw31_KeysTake.j11111111.B (c0 : (List TEntry) → (Bool) → (Bool) → (Int) → (Int) → (List TNode) → (List TEdge) → (List TNode) → (List TEdge) → Option (Bool)) (a0 : List TEntry) (x0 : Bool) (x1 : Bool) (x2 : Int) (x3 : Int) (x4 : List TNode) (x5 : List TEdge) (x6 : List TNode) (x7 : List TEdge) : Option (Bool) :=
    (bif x1 then (c0 a0 x0 x1 x2 x3 x4 x5 x6 ([])) else (c0 a0 x0 x1 x2 x3 x4 x5 x6 x7))
theorem F.pleachlaw31_KeysTake.j11111111.eq K a0 x0 x1 x2 x3 x4 x5 x6 x7 : F.pleachlaw31_KeysTake.j11111111 K a0 x0 x1 x2 x3 x4 x5 x6 x7 = F.pleachlaw31_KeysTake.j11111111.B (F.pleachlaw31_KeysTake.j111111111 K) a0 x0 x1 x2 x3 x4 x5 x6 x7 := (F.pleachlaw31_KeysTake.in_eq K [1, 1, 1, 1, 1, 1, 1, 1] [] (F.pleachlaw31_KeysTake.j11111111.st a0 x0 x1 x2 x3 x4 x5 x6 x7)).trans ((show ∀ H, F.pleachlaw31_KeysTake.in K H [1, 1, 1, 1, 1, 1, 1, 1] [] (F.pleachlaw31_KeysTake.j11111111.st a0 x0 x1 x2 x3 x4 x5 x6 x7) = F.pleachlaw31_KeysTake.j11111111.B (fun a0 x0 x1 x2 x3 x4 x5 x6 x7 => H [1, 1, 1, 1, 1, 1, 1, 1, 1] [] (F.pleachlaw31_KeysTake.j111111111.st a0 x0 x1 x2 x3 x4 x5 x6 x7)) a0 x0 x1 x2 x3 x4 x5 x6 x7 from by intro H; kernel_rfl) (F.pleachlaw31_KeysTake.at K))
noncomputable def F.pleachlaw31_KeysTake.j111111111.B (c0 : (TGraph) → (TGraph) → Option (Bool)) (c1 : Option (Bool)) (a0 : List TEntry) (x0 : Bool) (x1 : Bool) (x2 : Int) (x3 : Int) (x4 : List TNode) (x5 : List TEdge) (x6 : List TNode) (x7 : List TEdge) : Option (Bool) :=
    ((c0 (x4, x5) (x6, x7)).bind fun t6 => (bif t6 then (bif (!((x2 == 0) == x0)) then (bif (!x0) then (bif (!((x3 == 0) == x1)) then (bif (!x1) then ((c1).bind fun t7 => (some t7)) else (bif (x3 == 3) then ((c1).bind fun t8 => (some t8)) else (some false))) else (some false)) else (bif (x2 == 3) then (bif (!((x3 == 0) == x1)) then (bif (!x1) then ((c1).bind fun t9 => (some t9)) else (bif (x3 == 3) then ((c1).bind fun t10 => (some t10)) else (some false))) else (some false)) else (some false))) else (some false)) else (some false)))
theorem F.pleachlaw31_KeysTake.j111111111.eq K a0 x0 x1 x2 x3 x4 x5 x6 x7 : F.pleachlaw31_KeysTake.j111111111 K a0 x0 x1 x2 x3 x4 x5 x6 x7 = F.pleachlaw31_KeysTake.j111111111.B (F.pleachref26_Same K) (F.pleachlaw31_awake K) a0 x0 x1 x2 x3 x4 x5 x6 x7 := (F.pleachlaw31_KeysTake.in_eq K [1, 1, 1, 1, 1, 1, 1, 1, 1] [] (F.pleachlaw31_KeysTake.j111111111.st a0 x0 x1 x2 x3 x4 x5 x6 x7)).trans ((show ∀ H, F.pleachlaw31_KeysTake.in K H [1, 1, 1, 1, 1, 1, 1, 1, 1] [] (F.pleachlaw31_KeysTake.j111111111.st a0 x0 x1 x2 x3 x4 x5 x6 x7) = F.pleachlaw31_KeysTake.j111111111.B (F.pleachref26_Same K) (F.pleachlaw31_awake K) a0 x0 x1 x2 x3 x4 x5 x6 x7 from by intro H; kernel_rfl) (F.pleachlaw31_KeysTake.at K))
noncomputable def F.pleachlaw31_KeysTake.B (c0 : (List TEntry) → (Int) → Option (Bool)) (c1 : Option (Bool)) (c2 : (List TEntry) → (Bool) → (Bool) → (Int) → (List TNode) → (List TEdge) → Option (Bool)) (a0 : List TEntry) : Option (Bool) :=
    ((c0 a0 60).bind fun t0 => (bif (!t0) then ((c1).bind fun t1 => (some t1)) else (c2 a0 false false 0 ([]) ([]))))
theorem F.pleachlaw31_KeysTake.eq K a0 : F.pleachlaw31_KeysTake (K + 1) a0 = F.pleachlaw31_KeysTake.B (F.pleachref20_Few K) (F.pleachlaw31_awake K) (F.pleachlaw31_KeysTake.l1111010 K K) a0 := (F.pleachlaw31_KeysTake.in_main K a0).trans ((show ∀ H, F.pleachlaw31_KeysTake.in K H [] [] ⟨slots [.sc (.list sEntry a0 false)] 0, []⟩ = F.pleachlaw31_KeysTake.B (F.pleachref20_Few K) (F.pleachlaw31_awake K) (fun a0 x0 x1 x2 x3 x4 => H [1, 1, 1, 1, 0, 1, 0] [K] (F.pleachlaw31_KeysTake.l1111010.st a0 x0 x1 x2 x3 x4)) a0 from by intro H; kernel_rfl) (F.pleachlaw31_KeysTake.at K))
noncomputable def V.pleachlaw31_KeysTake.l1111010 (a0 : List TEntry) (x0 : Bool) (x1 : Bool) (x2 : Int) (x3 : List TNode) (x4 : List TEdge) := lim fun v => F.pleachlaw31_KeysTake.l1111010 (v 0) (v 1) a0 x0 x1 x2 x3 x4
noncomputable def V.pleachlaw31_KeysTake.j1111010011001111 (a0 : List TEntry) (x0 : Bool) (x1 : Bool) (x2 : Int) (x3 : ByteArray) (x4 : List ByteArray) (x5 : List TProp) (x6 : ByteArray) (x7 : ByteArray) (x8 : ByteArray) (x9 : List ByteArray) (x10 : List TProp) (x11 : List TNode) (x12 : List TEdge) := lim fun v => F.pleachlaw31_KeysTake.j1111010011001111 (v 0) (v 1) a0 x0 x1 x2 x3 x4 x5 x6 x7 x8 x9 x10 x11 x12
noncomputable def V.pleachlaw31_KeysTake.j11110100111 (a0 : List TEntry) (x0 : Bool) (x1 : Bool) (x2 : Int) (x3 : List TNode) (x4 : List TEdge) := lim fun v => F.pleachlaw31_KeysTake.j11110100111 (v 0) (v 1) a0 x0 x1 x2 x3 x4
noncomputable def V.pleachlaw31_KeysTake.j11111111 (a0 : List TEntry) (x0 : Bool) (x1 : Bool) (x2 : Int) (x3 : Int) (x4 : List TNode) (x5 : List TEdge) (x6 : List TNode) (x7 : List TEdge) := lim fun v => F.pleachlaw31_KeysTake.j11111111 (v 0) a0 x0 x1 x2 x3 x4 x5 x6 x7
noncomputable def V.pleachlaw31_KeysTake.j111111111 (a0 : List TEntry) (x0 : Bool) (x1 : Bool) (x2 : Int) (x3 : Int) (x4 : List TNode) (x5 : List TEdge) (x6 : List TNode) (x7 : List TEdge) := lim fun v => F.pleachlaw31_KeysTake.j111111111 (v 0) a0 x0 x1 x2 x3 x4 x5 x6 x7
noncomputable def V.pleachlaw31_KeysTake (a0 : List TEntry) := lim fun v => F.pleachlaw31_KeysTake (v 0) a0
theorem V.pleachlaw31_KeysTake.l1111010.of a0 x0 x1 x2 x3 x4 {r} (h : F.pleachlaw31_KeysTake.l1111010.B V.pleachref25_TakeNode V.pleachref25_TakeEdge V.pleachlaw31_KeysTake.j1111010011001111 V.keys_TakeNodes V.keys_TakeEdges V.pleachlaw31_KeysTake.j11111111 a0 x0 x1 x2 x3 x4 = some r) : V.pleachlaw31_KeysTake.l1111010 a0 x0 x1 x2 x3 x4 = some r :=
  App.to (App.step 1 (fun v => F.pleachlaw31_KeysTake.l1111010.eq (v 0) (v 1) a0 x0 x1 x2 x3 x4) (by unfold F.pleachlaw31_KeysTake.l1111010.B; repeat' first | exact App.val | exact App.no | exact App.lim | apply App.cond | apply App.guard | apply App.meet | apply App.ite | refine App.bind ?_ fun _ => ?_)) h
theorem V.pleachlaw31_KeysTake.j1111010011001111.of a0 x0 x1 x2 x3 x4 x5 x6 x7 x8 x9 x10 x11 x12 {r} (h : F.pleachlaw31_KeysTake.j1111010011001111.B V.pleachlaw31_KeysTake.j11110100111 a0 x0 x1 x2 x3 x4 x5 x6 x7 x8 x9 x10 x11 x12 = some r) : V.pleachlaw31_KeysTake.j1111010011001111 a0 x0 x1 x2 x3 x4 x5 x6 x7 x8 x9 x10 x11 x12 = some r :=
  App.to (App.same (fun v => F.pleachlaw31_KeysTake.j1111010011001111.eq (v 0) (v 1) a0 x0 x1 x2 x3 x4 x5 x6 x7 x8 x9 x10 x11 x12) (by unfold F.pleachlaw31_KeysTake.j1111010011001111.B; repeat' first | exact App.val | exact App.no | exact App.lim | apply App.cond | apply App.guard | apply App.meet | apply App.ite | refine App.bind ?_ fun _ => ?_)) h
theorem V.pleachlaw31_KeysTake.j11110100111.of a0 x0 x1 x2 x3 x4 {r} (h : F.pleachlaw31_KeysTake.j11110100111.B V.pleachlaw31_KeysTake.l1111010 a0 x0 x1 x2 x3 x4 = some r) : V.pleachlaw31_KeysTake.j11110100111 a0 x0 x1 x2 x3 x4 = some r :=
  App.to (App.same (fun v => F.pleachlaw31_KeysTake.j11110100111.eq (v 0) (v 1) a0 x0 x1 x2 x3 x4) (by unfold F.pleachlaw31_KeysTake.j11110100111.B; repeat' first | exact App.val | exact App.no | exact App.lim | apply App.cond | apply App.guard | apply App.meet | apply App.ite | refine App.bind ?_ fun _ => ?_)) h
theorem V.pleachlaw31_KeysTake.j11111111.of a0 x0 x1 x2 x3 x4 x5 x6 x7 {r} (h : F.pleachlaw31_KeysTake.j11111111.B V.pleachlaw31_KeysTake.j111111111 a0 x0 x1 x2 x3 x4 x5 x6 x7 = some r) : V.pleachlaw31_KeysTake.j11111111 a0 x0 x1 x2 x3 x4 x5 x6 x7 = some r :=
  App.to (App.same (fun v => F.pleachlaw31_KeysTake.j11111111.eq (v 0) a0 x0 x1 x2 x3 x4 x5 x6 x7) (by unfold F.pleachlaw31_KeysTake.j11111111.B; repeat' first | exact App.val | exact App.no | exact App.lim | apply App.cond | apply App.guard | apply App.meet | apply App.ite | refine App.bind ?_ fun _ => ?_)) h
theorem V.pleachlaw31_KeysTake.j111111111.of a0 x0 x1 x2 x3 x4 x5 x6 x7 {r} (h : F.pleachlaw31_KeysTake.j111111111.B V.pleachref26_Same V.pleachlaw31_awake a0 x0 x1 x2 x3 x4 x5 x6 x7 = some r) : V.pleachlaw31_KeysTake.j111111111 a0 x0 x1 x2 x3 x4 x5 x6 x7 = some r :=
  App.to (App.same (fun v => F.pleachlaw31_KeysTake.j111111111.eq (v 0) a0 x0 x1 x2 x3 x4 x5 x6 x7) (by unfold F.pleachlaw31_KeysTake.j111111111.B; repeat' first | exact App.val | exact App.no | exact App.lim | apply App.cond | apply App.guard | apply App.meet | apply App.ite | refine App.bind ?_ fun _ => ?_)) h
theorem V.pleachlaw31_KeysTake.of a0 {r} (h : F.pleachlaw31_KeysTake.B V.pleachref20_Few V.pleachlaw31_awake V.pleachlaw31_KeysTake.l1111010 a0 = some r) : V.pleachlaw31_KeysTake a0 = some r :=
  App.to (App.step 0 (fun v => F.pleachlaw31_KeysTake.eq (v 0) a0) (by unfold F.pleachlaw31_KeysTake.B; repeat' first | exact App.val | exact App.no | exact App.lim | exact (App.enter 1 App.lim) | apply App.cond | apply App.guard | apply App.meet | apply App.ite | refine App.bind ?_ fun _ => ?_)) h
noncomputable def F.pleachlaw25_ElemTakes (K : Nat) (a0 : ByteArray) (a1 : ByteArray) : Option (Bool) := evFn Try.prog sg K 7 [.sc (.val (.string a0)), .sc (.val (.string a1))] []
noncomputable def F.pleachlaw25_ElemTakes.B (c0 : Option (Bool)) (c1 : (ByteArray) → (ByteArray) → Option (TNode × Int)) (c2 : (ByteArray) → (ByteArray) → Option (TNode × Bool)) (c3 : (ByteArray) → (ByteArray) → Option (TEdge × Int)) (c4 : (ByteArray) → (ByteArray) → Option (TEdge × Bool)) (c5 : (TNode) → (TNode) → Option (Bool)) (c6 : (TEdge) → (TEdge) → Option (Bool)) (a0 : ByteArray) (a1 : ByteArray) : Option (Bool) :=
    (bif (decide ((a0.size : Int) > 100)) then ((c0).bind fun t0 => (some t0)) else (bif (decide ((a1.size : Int) > 3000)) then ((c0).bind fun t1 => (some t1)) else ((c1 a0 a1).bind fun t2 => ((c2 a0 a1).bind fun t3 => ((c3 a0 a1).bind fun t4 => ((c4 a0 a1).bind fun t5 => ((c5 (t2.1.1, t2.1.2.1, t2.1.2.2) (t3.1.1, t3.1.2.1, t3.1.2.2)).bind fun t6 => (bif t6 then (bif ((t2.2 == 0) == t3.2) then (bif t3.2 then ((c6 (t4.1.1, t4.1.2.1, t4.1.2.2.1, t4.1.2.2.2.1, t4.1.2.2.2.2) (t5.1.1, t5.1.2.1, t5.1.2.2.1, t5.1.2.2.2.1, t5.1.2.2.2.2)).bind fun t7 => (bif t7 then (bif ((t4.2 == 0) == t5.2) then (bif t5.2 then ((c0).bind fun t8 => (some t8)) else (bif (t4.2 == 3) then ((c0).bind fun t9 => (some t9)) else (some false))) else (some false)) else (some false))) else (bif (t2.2 == 3) then ((c6 (t4.1.1, t4.1.2.1, t4.1.2.2.1, t4.1.2.2.2.1, t4.1.2.2.2.2) (t5.1.1, t5.1.2.1, t5.1.2.2.1, t5.1.2.2.2.1, t5.1.2.2.2.2)).bind fun t10 => (bif t10 then (bif ((t4.2 == 0) == t5.2) then (bif t5.2 then ((c0).bind fun t11 => (some t11)) else (bif (t4.2 == 3) then ((c0).bind fun t12 => (some t12)) else (some false))) else (some false)) else (some false))) else (some false))) else (some false)) else (some false)))))))))
theorem F.pleachlaw25_ElemTakes.eq K a0 a1 : F.pleachlaw25_ElemTakes (K + 1) a0 a1 = F.pleachlaw25_ElemTakes.B (F.pleachlaw25_awake K) (F.elem_TakeNode K) (F.pleachref25_TakeNode K) (F.elem_TakeEdge K) (F.pleachref25_TakeEdge K) (F.pleachref25_SameNode K) (F.pleachref25_SameEdge K) a0 a1 := by kernel_rfl
noncomputable def V.pleachlaw25_ElemTakes (a0 : ByteArray) (a1 : ByteArray) := lim fun v => F.pleachlaw25_ElemTakes (v 0) a0 a1
theorem V.pleachlaw25_ElemTakes.of a0 a1 {r} (h : F.pleachlaw25_ElemTakes.B V.pleachlaw25_awake V.elem_TakeNode V.pleachref25_TakeNode V.elem_TakeEdge V.pleachref25_TakeEdge V.pleachref25_SameNode V.pleachref25_SameEdge a0 a1 = some r) : V.pleachlaw25_ElemTakes a0 a1 = some r :=
  App.to (App.step 0 (fun v => F.pleachlaw25_ElemTakes.eq (v 0) a0 a1) (by unfold F.pleachlaw25_ElemTakes.B; repeat' first | exact App.val | exact App.no | exact App.lim | apply App.cond | apply App.guard | apply App.meet | apply App.ite | refine App.bind ?_ fun _ => ?_)) h
noncomputable def F.pleachlaw25_ElemBack (K : Nat) (a0 : TNode) (a1 : TEdge) (a2 : ByteArray) : Option (Bool) := evFn Try.prog sg K 8 [.agg [.val (.string a0.1), .list .str a0.2.1 false, .list sProp a0.2.2 false], .agg [.val (.string a1.1), .val (.string a1.2.1), .val (.string a1.2.2.1), .list .str a1.2.2.2.1 false, .list sProp a1.2.2.2.2 false], .sc (.val (.string a2))] []
noncomputable def F.pleachlaw25_ElemBack.B (c0 : (List ByteArray) → (List TProp) → Option (Bool)) (c1 : Option (Bool)) (c2 : (TNode) → Option (ByteArray × Int)) (c3 : (ByteArray) → (ByteArray) → Option (TNode × Int)) (c4 : (TNode) → (TNode) → Option (Bool)) (c5 : (TEdge) → Option (ByteArray × Int)) (c6 : (ByteArray) → (ByteArray) → Option (TEdge × Int)) (c7 : (TEdge) → (TEdge) → Option (Bool)) (a0 : TNode) (a1 : TEdge) (a2 : ByteArray) : Option (Bool) :=
    ((c0 a0.2.1 a0.2.2).bind fun t0 => (bif (!t0) then ((c1).bind fun t1 => (some t1)) else ((c0 a1.2.2.2.1 a1.2.2.2.2).bind fun t2 => (bif (!t2) then ((c1).bind fun t3 => (some t3)) else (bif (decide ((a2.size : Int) > 3000)) then ((c1).bind fun t4 => (some t4)) else ((c2 (a0.1, a0.2.1, a0.2.2)).bind fun t5 => (bif (t5.2 == 0) then ((c3 a0.1 t5.1).bind fun t6 => ((c4 (t6.1.1, t6.1.2.1, t6.1.2.2) (a0.1, a0.2.1, a0.2.2)).bind fun t7 => (bif (!t7) then (some false) else (bif (t6.2 != 0) then (some false) else ((c5 (a1.1, a1.2.1, a1.2.2.1, a1.2.2.2.1, a1.2.2.2.2)).bind fun t8 => (bif (t8.2 == 0) then ((c6 a1.1 t8.1).bind fun t9 => ((c7 (a1.1, a1.2.1, a1.2.2.1, a1.2.2.2.1, a1.2.2.2.2) (t9.1.1, t9.1.2.1, t9.1.2.2.1, t9.1.2.2.2.1, t9.1.2.2.2.2)).bind fun t10 => (bif (!t10) then (some false) else (bif (t9.2 != 0) then (some false) else ((c3 (⟨#[97]⟩ : ByteArray) a2).bind fun t11 => (bif (t11.2 == 0) then ((c2 (t11.1.1, t11.1.2.1, t11.1.2.2)).bind fun t12 => (bif (!strEq t12.1 a2) then (some false) else (bif (t12.2 != 0) then (some false) else ((c1).bind fun t13 => (some t13))))) else ((c1).bind fun t14 => (some t14)))))))) else ((c3 (⟨#[97]⟩ : ByteArray) a2).bind fun t15 => (bif (t15.2 == 0) then ((c2 (t15.1.1, t15.1.2.1, t15.1.2.2)).bind fun t16 => (bif (!strEq t16.1 a2) then (some false) else (bif (t16.2 != 0) then (some false) else ((c1).bind fun t17 => (some t17))))) else ((c1).bind fun t18 => (some t18)))))))))) else ((c5 (a1.1, a1.2.1, a1.2.2.1, a1.2.2.2.1, a1.2.2.2.2)).bind fun t19 => (bif (t19.2 == 0) then ((c6 a1.1 t19.1).bind fun t20 => ((c7 (a1.1, a1.2.1, a1.2.2.1, a1.2.2.2.1, a1.2.2.2.2) (t20.1.1, t20.1.2.1, t20.1.2.2.1, t20.1.2.2.2.1, t20.1.2.2.2.2)).bind fun t21 => (bif (!t21) then (some false) else (bif (t20.2 != 0) then (some false) else ((c3 (⟨#[97]⟩ : ByteArray) a2).bind fun t22 => (bif (t22.2 == 0) then ((c2 (t22.1.1, t22.1.2.1, t22.1.2.2)).bind fun t23 => (bif (!strEq t23.1 a2) then (some false) else (bif (t23.2 != 0) then (some false) else ((c1).bind fun t24 => (some t24))))) else ((c1).bind fun t25 => (some t25)))))))) else ((c3 (⟨#[97]⟩ : ByteArray) a2).bind fun t26 => (bif (t26.2 == 0) then ((c2 (t26.1.1, t26.1.2.1, t26.1.2.2)).bind fun t27 => (bif (!strEq t27.1 a2) then (some false) else (bif (t27.2 != 0) then (some false) else ((c1).bind fun t28 => (some t28))))) else ((c1).bind fun t29 => (some t29)))))))))))))
theorem F.pleachlaw25_ElemBack.eq K a0 a1 a2 : F.pleachlaw25_ElemBack (K + 1) a0 a1 a2 = F.pleachlaw25_ElemBack.B (F.pleachlaw25_few K) (F.pleachlaw25_awake K) (F.elem_PutNode K) (F.elem_TakeNode K) (F.pleachref25_SameNode K) (F.elem_PutEdge K) (F.elem_TakeEdge K) (F.pleachref25_SameEdge K) a0 a1 a2 := by kernel_rfl
noncomputable def V.pleachlaw25_ElemBack (a0 : TNode) (a1 : TEdge) (a2 : ByteArray) := lim fun v => F.pleachlaw25_ElemBack (v 0) a0 a1 a2
theorem V.pleachlaw25_ElemBack.of a0 a1 a2 {r} (h : F.pleachlaw25_ElemBack.B V.pleachlaw25_few V.pleachlaw25_awake V.elem_PutNode V.elem_TakeNode V.pleachref25_SameNode V.elem_PutEdge V.elem_TakeEdge V.pleachref25_SameEdge a0 a1 a2 = some r) : V.pleachlaw25_ElemBack a0 a1 a2 = some r :=
  App.to (App.step 0 (fun v => F.pleachlaw25_ElemBack.eq (v 0) a0 a1 a2) (by unfold F.pleachlaw25_ElemBack.B; repeat' first | exact App.val | exact App.no | exact App.lim | apply App.cond | apply App.guard | apply App.meet | apply App.ite | refine App.bind ?_ fun _ => ?_)) h
end Go.Proofs.Ytmnadajjgnniaaa.AE
end
section
set_option linter.unusedVariables false
set_option linter.unusedSimpArgs false
namespace Go.Proofs.Ytmnadajjgnniaaa.AE
open Go

theorem w64_id {x : Int} (h0 : -9223372036854775808 ≤ x) (h1 : x ≤ 9223372036854775807) : w64 x = x := by
  show IntKind.i64.wrap x = x
  simp [IntKind.wrap, IntKind.bits, IntKind.signed]
  omega
theorem u64_id {x : Int} (h0 : 0 ≤ x) (h1 : x ≤ 18446744073709551615) : IntKind.wrap .u64 x = x := by
  have : IntKind.u64.wrap x = x % 18446744073709551616 := by simp [IntKind.wrap, IntKind.bits, IntKind.signed]
  rw [this]; omega
theorem u64_mod (x : Int) : IntKind.wrap .u64 x = x % 18446744073709551616 := by simp [IntKind.wrap, IntKind.bits, IntKind.signed]
theorem u8_mod (x : Int) : IntKind.wrap .u8 x = x % 256 := by simp [IntKind.wrap, IntKind.bits, IntKind.signed]
theorem w64_up {i n : Nat} (h : i < n) (hn : n ≤ 140737488351232) : w64 ((i : Int) + 1) = ((i + 1 : Nat) : Int) := by rw [w64_id (by omega) (by omega)]; omega
theorem w64_dn {i n : Nat} (h : i < n) (hn : n ≤ 140737488351232) (h0 : 0 < i) : w64 ((i : Int) - 1) = ((i - 1 : Nat) : Int) := by rw [w64_id (by omega) (by omega)]; omega

theorem guard_of {α : Type} {g : Bool} {a : Option α} (h : g = true) : guardK g a = a := by rw [h]; rfl
theorem guard_dec {α : Type} {p : Prop} [Decidable p] {a : Option α} (h : p) : guardK (decide p) a = a := guard_of (decide_eq_true h)
/-- Inside a row. -/
theorem guard_in {α : Type} {i n : Nat} {a : Option α} (h : i < n) : guardK (decide (0 ≤ (i : Int)) && decide ((i : Int) < (n : Int))) a = a := guard_of (by simp [h])
theorem if_in {α : Type} {i n : Nat} {a b : α} (h : i < n) : (bif decide ((i : Int) < (n : Int)) then a else b) = a := by simp [h]
theorem if_out {α : Type} {i n : Nat} {a b : α} (h : n ≤ i) : (bif decide ((i : Int) < (n : Int)) then a else b) = b := by simp [Nat.not_lt.2 h]
theorem if_yes {α : Type} {p : Prop} [Decidable p] {a b : α} (h : p) : (bif decide p then a else b) = a := by simp [h]
theorem if_no {α : Type} {p : Prop} [Decidable p] {a b : α} (h : ¬ p) : (bif decide p then a else b) = b := by simp [h]
theorem nat_cast (i : Nat) : ((i : Nat) : Int).toNat = i := rfl
theorem meet_self {α : Type} (a : Option α) : meet a a = a := by unfold meet; simp
theorem data_len (s : ByteArray) : s.data.toList.length = s.size := by rw [Array.length_toList]; rfl
theorem toList_size (s : ByteArray) : s.toList.length = s.size := by rw [ByteArray.toList_eq]; exact data_len s
theorem toList_nil {s : ByteArray} : s.toList = [] ↔ s.size = 0 := by
  rw [← toList_size, List.length_eq_zero_iff]
theorem bytes_ext {s t : ByteArray} (h : s.toList = t.toList) : s = t := by
  rw [ByteArray.toList_eq, ByteArray.toList_eq] at h
  have : s.data = t.data := by rwa [← Array.toList_inj]
  cases s; cases t; simp_all
theorem strEq_iff {s t : ByteArray} : strEq s t = true ↔ s = t := by
  unfold strEq
  rw [beq_iff_eq]
  exact ⟨bytes_ext, fun h => by rw [h]⟩
theorem strEq_self (s : ByteArray) : strEq s s = true := strEq_iff.2 rfl
theorem strEq_no {s t : ByteArray} (h : s ≠ t) : strEq s t = false := by
  cases hb : strEq s t with
  | false => rfl
  | true => exact absurd (strEq_iff.1 hb) h
theorem strEq_dec (s t : ByteArray) : strEq s t = decide (s = t) := by
  by_cases h : s = t
  · rw [h, strEq_self]; simp
  · rw [strEq_no h]; simp [h]
/-! ### The order of texts -/

theorem less_leq : ∀ x y : List UInt8, (Op.bytesLess x y || x == y) = !(Op.bytesLess y x)
  | [], [] => by simp [Op.bytesLess]
  | [], b :: y => by simp [Op.bytesLess]
  | a :: x, [] => by simp [Op.bytesLess]
  | a :: x, b :: y => by
    have ih := less_leq x y
    by_cases h1 : a < b
    · have h2 : ¬ b < a := by simp only [UInt8.lt_iff_toNat_lt] at *; omega
      have h3 : ¬ b = a := by rintro rfl; simp at h1
      simp [Op.bytesLess, h1, h2, h3]
    · by_cases h2 : b < a
      · have h3 : ¬ b = a := by rintro rfl; simp at h2
        have h4 : ¬ a = b := fun h => h3 h.symm
        simp [Op.bytesLess, h1, h2, h4]
      · have h3 : a = b := by
          apply UInt8.toNat_inj.1
          simp only [UInt8.lt_iff_toNat_lt] at *
          omega
        subst h3
        simp [Op.bytesLess, h1] at ih ⊢
        exact ih
/-- Of two texts one is less, or they are the same. -/
theorem lt_or (a b : ByteArray) : (strLt a b || strEq a b) = !strLt b a := less_leq a.toList b.toList
theorem size_zero {s : ByteArray} (h : s.size = 0) : s = (⟨#[]⟩ : ByteArray) := by
  apply bytes_ext
  rw [toList_nil.2 h]
  exact (toList_nil.2 rfl).symm
theorem strEq_nil (s : ByteArray) : strEq s (⟨#[]⟩ : ByteArray) = (s.size == 0) := by
  rw [Bool.eq_iff_iff, strEq_iff]
  simp only [beq_iff_eq]
  exact ⟨fun h => by rw [h]; rfl, size_zero⟩
theorem strOfNums_size (xs : List Int) : (bytesOf xs).size = xs.length := by unfold bytesOf; simp [ByteArray.size]
theorem strOfNums_append (xs ys : List Int) : bytesOf (xs ++ ys) = bytesOf xs ++ bytesOf ys := by
  apply ByteArray.ext
  simp [bytesOf]
theorem bt_data (s : ByteArray) (i : Nat) (h : i < s.size) : byteAt s (i : Int) = ((s.data.toList[i]'(by rw [Array.length_toList]; exact h)).toNat : Int) := by
  show (((s.data.toList.getD (i : Int).toNat 0).toNat : Nat) : Int) = _
  rw [nat_cast, List.getD_eq_getElem?_getD, List.getElem?_eq_getElem (by rw [data_len]; exact h)]
  rfl
theorem extract_size (s : ByteArray) (a b : Nat) : (s.extract a b).size ≤ s.size := by
  rw [ByteArray.size_extract]; omega

theorem rd_get {e : Sh} {l : List (den e)} {i : Nat} (h : i < l.length) : rd e l i = l[i] := by
  simp [rd, List.getD_eq_getElem?_getD, List.getElem?_eq_getElem h]
theorem rd_mem {e : Sh} {l : List (den e)} {i : Nat} (h : i < l.length) : rd e l i ∈ l := by rw [rd_get h]; exact List.getElem_mem h
theorem drop_rd {e : Sh} {l : List (den e)} {i : Nat} (h : i < l.length) : l.drop i = rd e l i :: l.drop (i + 1) := by rw [rd_get h]; exact List.drop_eq_getElem_cons h
theorem take_rd {e : Sh} {l : List (den e)} {i : Nat} (h : i < l.length) : l.take (i + 1) = l.take i ++ [rd e l i] := by
  rw [rd_get h, List.take_add_one, List.getElem?_eq_getElem h]; rfl

/-- A loop that ends at the first place at which the step tells something; else what is told at the end. -/
def scanG {α : Type} (step : Nat → Option α) (fin : α) : Nat → Nat → α
  | 0, _ => fin
  | d + 1, i => match step i with
    | some r => r
    | none => scanG step fin d (i + 1)
abbrev scanI (step : Nat → Option Int) : Nat → Nat → Int := scanG step 0
theorem scanG_succ {α : Type} (step : Nat → Option α) (fin : α) (d i : Nat) : scanG step fin (d + 1) i = (step i).getD (scanG step fin d (i + 1)) := by
  show (match step i with | some r => r | none => scanG step fin d (i + 1)) = _
  cases step i <;> rfl
theorem scanI_succ (step : Nat → Option Int) (d i : Nat) : scanI step (d + 1) i = (step i).getD (scanI step d (i + 1)) := scanG_succ step 0 d i
end Go.Proofs.Ytmnadajjgnniaaa.AE
end
section
set_option linter.unusedVariables false
set_option linter.unusedSimpArgs false
namespace Go.Proofs.Ytmnadajjgnniaaa.AE
open Go

def okc (c : Int) : Bool := (decide (97 ≤ c) && decide (c ≤ 122)) || (decide (48 ≤ c) && decide (c ≤ 57)) || c == 45
theorem name_fits_ok (c : Int) : V.name_fits c = some (okc c) := by
  refine V.name_fits.of _ ?_
  unfold F.name_fits.B okc
  by_cases a1 : c ≥ 97 <;> by_cases a2 : c ≤ 122 <;> by_cases a3 : c ≥ 48 <;> by_cases a4 : c ≤ 57 <;> simp [Bool.cond_eq_ite, a1, a2, a3, a4] <;> omega
/-- From place i on, d bytes, all fit. -/
def okFrom (s : ByteArray) : Nat → Nat → Bool
  | 0, _ => true
  | d + 1, i => okc (byteAt s i) && okFrom s d (i + 1)
def nameB (s : ByteArray) : Bool := decide (1 ≤ s.size) && decide (s.size ≤ 12) && okFrom s s.size 0

theorem name_Check_l (s : ByteArray) (hs : s.size ≤ 140737488351232) : ∀ d i : Nat, i + d = s.size → V.name_Check.l11010 s (i : Int) = some (if okFrom s d i then 0 else 2)
  | 0, i, h => by
    refine V.name_Check.l11010.of _ _ ?_
    unfold F.name_Check.l11010.B
    rw [if_out (by omega)]
    simp [okFrom]
  | d + 1, i, h => by
    refine V.name_Check.l11010.of _ _ ?_
    unfold F.name_Check.l11010.B
    rw [if_in (by omega), guard_in (by omega), name_fits_ok, Option.bind_some, w64_up (show i < s.size by omega) hs, name_Check_l s hs d (i + 1) (by omega)]
    cases hc : okc (byteAt s (i : Int)) <;> simp [okFrom, hc]
theorem name_Check_ok (s : ByteArray) (hs : s.size ≤ 140737488351232) : V.name_Check s = some (if nameB s then 0 else 2) := by
  refine V.name_Check.of _ ?_
  unfold F.name_Check.B
  rw [strEq_nil]
  have := name_Check_l s hs s.size 0 (by omega)
  rw [show (0 : Int) = ((0 : Nat) : Int) from rfl, this]
  by_cases h0 : s.size = 0
  · simp [Bool.cond_eq_ite, h0, nameB]
  · by_cases h2 : s.size ≤ 12
    · have h1 : 1 ≤ s.size := by omega
      have h3 : ¬ (s.size : Int) > 12 := by omega
      simp [Bool.cond_eq_ite, h0, h1, h2, h3, nameB]
    · have h3 : (s.size : Int) > 12 := by omega
      simp [Bool.cond_eq_ite, h0, h2, h3, nameB]

theorem refIs_l (s : ByteArray) (hs : s.size ≤ 140737488351232) : ∀ d i : Nat, i + d = s.size → V.pleachref05_Is.l1010 s (i : Int) = some (okFrom s d i && (decide (1 ≤ s.size) && decide (s.size ≤ 12)))
  | 0, i, h => by
    refine V.pleachref05_Is.l1010.of _ _ ?_
    unfold F.pleachref05_Is.l1010.B
    rw [if_out (by omega)]
    by_cases h1 : 1 ≤ s.size
    · have h2 : (s.size : Int) ≥ 1 := by omega
      simp [okFrom, h1, h2]
      omega
    · have h2 : ¬ (s.size : Int) ≥ 1 := by omega
      simp [okFrom, h1, h2]
  | d + 1, i, h => by
    refine V.pleachref05_Is.l1010.of _ _ ?_
    unfold F.pleachref05_Is.l1010.B
    rw [if_in (by omega)]
    simp only [guard_in (show i < s.size by omega), w64_up (show i < s.size by omega) hs, refIs_l s hs d (i + 1) (by omega), okFrom, okc]
    generalize byteAt s (i : Int) = c
    generalize okFrom s d (i + 1) = b
    by_cases a1 : c ≥ 97 <;> by_cases a2 : c ≤ 122 <;> by_cases a3 : c ≥ 48 <;> by_cases a4 : c ≤ 57 <;> by_cases a5 : c = 45 <;> simp [Bool.cond_eq_ite, a1, a2, a3, a4, a5] <;> omega
theorem refIs_ok (s : ByteArray) (hs : s.size ≤ 140737488351232) : V.pleachref05_Is s = some (nameB s) := by
  refine V.pleachref05_Is.of _ ?_
  unfold F.pleachref05_Is.B
  rw [show (0 : Int) = ((0 : Nat) : Int) from rfl, refIs_l s hs s.size 0 (by omega), nameB, Bool.and_comm]

def valueB (v : TValue) : Bool := (v.1 == 1 && (v.2.1 == 0 || v.2.1 == 1) && v.2.2.size == 0) || (v.1 == 2 && v.2.2.size == 0) || (v.1 == 3 && v.2.1 == 0 && decide (v.2.2.size ≤ 64))
theorem value_Check_ok (v : TValue) : V.value_Check v = some (if valueB v then 0 else 2) := by
  refine V.value_Check.of _ ?_
  obtain ⟨a, b, s⟩ := v
  unfold F.value_Check.B valueB
  simp only [strEq_nil]
  by_cases a1 : a = 1
  · subst a1
    by_cases b0 : b = 0 <;> by_cases b1 : b = 1 <;> by_cases s0 : s.size = 0 <;> simp [Bool.cond_eq_ite, b0, b1, s0]
  · by_cases a2 : a = 2
    · subst a2
      by_cases s0 : s.size = 0 <;> simp [Bool.cond_eq_ite, s0]
    · by_cases a3 : a = 3
      · subst a3
        by_cases b0 : b = 0 <;> by_cases s0 : s.size ≤ 64 <;> simp [Bool.cond_eq_ite, b0, s0] <;> omega
      · simp [Bool.cond_eq_ite, a1, a2, a3]
theorem refVIs_ok (v : TValue) : V.pleachref06_Is v = some (valueB v) := by
  refine V.pleachref06_Is.of _ ?_
  obtain ⟨a, b, s⟩ := v
  unfold F.pleachref06_Is.B valueB
  simp only [strEq_nil]
  by_cases a1 : a = 1
  · subst a1
    by_cases s0 : s.size = 0 <;> by_cases b0 : b ≥ 0 <;> by_cases b1 : b ≤ 1 <;> simp [Bool.cond_eq_ite, b0, b1, s0] <;> omega
  · by_cases a2 : a = 2
    · subst a2
      by_cases s0 : s.size = 0 <;> simp [Bool.cond_eq_ite, s0]
    · by_cases a3 : a = 3
      · subst a3
        by_cases b0 : b = 0 <;> by_cases s0 : s.size ≤ 64 <;> simp [Bool.cond_eq_ite, b0, s0] <;> omega
      · simp [Bool.cond_eq_ite, a1, a2, a3]

/-! ### Rows that rise -/

def okProps (l : List TProp) : Prop := l.length ≤ 140737488351232 ∧ ∀ p ∈ l, p.1.size ≤ 140737488351232 ∧ p.2.2.2.size ≤ 140737488351232 ∧ -9223372036854775808 ≤ p.2.2.1 ∧ p.2.2.1 ≤ 9223372036854775807
def okTexts (l : List ByteArray) : Prop := l.length ≤ 140737488351232 ∧ ∀ s ∈ l, s.size ≤ 140737488351232
def propStep (l : List TProp) (i : Nat) : Option Int :=
  if (nameB (rd sProp l i).1 && valueB (rd sProp l i).2) = false then some 2
  else if 0 < i ∧ strLt (rd sProp l (i - 1)).1 (rd sProp l i).1 = false then some 4 else none
def textStep (l : List ByteArray) (i : Nat) : Option Int :=
  if nameB (rd .str l i) = false then some 2
  else if 0 < i ∧ strLt (rd .str l (i - 1)) (rd .str l i) = false then some 4 else none
def propsN (l : List TProp) : Int := if l.length > 8 then 5 else scanI (propStep l) l.length 0
def rowN (l : List ByteArray) : Int := scanI (textStep l) l.length 0
def restN (labels : List ByteArray) (props : List TProp) : Int := if labels.length > 8 then 5 else if rowN labels = 0 then propsN props else rowN labels

theorem CheckProps_l (l : List TProp) (hl : okProps l) : ∀ d i : Nat, i + d = l.length → V.elem_CheckProps.l11010 l (i : Int) = some (scanI (propStep l) d i)
  | 0, i, h => by
    refine V.elem_CheckProps.l11010.of _ _ ?_
    unfold F.elem_CheckProps.l11010.B
    rw [if_out (by omega)]
    rfl
  | d + 1, i, h => by
    refine V.elem_CheckProps.l11010.of _ _ ?_
    unfold F.elem_CheckProps.l11010.B
    have hi : i < l.length := by omega
    rw [if_in hi, guard_in hi]
    simp only [nat_cast, name_Check_ok _ (hl.2 _ (rd_mem (e := sProp) hi)).1, Option.bind_some, value_Check_ok, w64_up hi hl.1, CheckProps_l l hl d (i + 1) (by omega)]
    rw [scanI_succ]
    unfold propStep
    cases hn : nameB (rd sProp l i).1 with
    | false => simp
    | true =>
      cases hv : valueB (rd sProp l i).2 with
      | false => simp [hv]
      | true =>
        by_cases h0 : 0 < i
        · rw [w64_dn hi hl.1 h0, guard_in (show i - 1 < l.length by omega), nat_cast]
          cases hless : strLt (rd sProp l (i - 1)).1 (rd sProp l i).1 <;> simp [hless, hv, h0]
        · have h0 : i = 0 := by omega
          subst h0
          simp [hv]
theorem CheckProps_ok (l : List TProp) (hl : okProps l) : V.elem_CheckProps l = some (propsN l) := by
  refine V.elem_CheckProps.of _ ?_
  unfold F.elem_CheckProps.B propsN
  have := CheckProps_l l hl l.length 0 (by omega)
  rw [show (0 : Int) = ((0 : Nat) : Int) from rfl, this]
  by_cases h : l.length > 8
  · rw [if_yes (by omega), if_pos h]
  · rw [if_no (by omega), if_neg h]
theorem refProps_l (l : List TProp) (hl : okProps l) : ∀ d i : Nat, i + d = l.length → V.pleachref25_Props.l11010 l (i : Int) = some (scanI (propStep l) d i)
  | 0, i, h => by
    refine V.pleachref25_Props.l11010.of _ _ ?_
    unfold F.pleachref25_Props.l11010.B
    rw [if_out (by omega)]
    rfl
  | d + 1, i, h => by
    refine V.pleachref25_Props.l11010.of _ _ ?_
    unfold F.pleachref25_Props.l11010.B
    have hi : i < l.length := by omega
    rw [if_in hi, guard_in hi]
    simp only [nat_cast, refIs_ok _ (hl.2 _ (rd_mem (e := sProp) hi)).1, Option.bind_some, refVIs_ok, w64_up hi hl.1, refProps_l l hl d (i + 1) (by omega), guard_in hi, lt_or]
    rw [scanI_succ]
    unfold propStep
    cases hn : nameB (rd sProp l i).1 with
    | false => simp
    | true =>
      cases hv : valueB (rd sProp l i).2 with
      | false => simp [hv]
      | true =>
        by_cases h0 : 0 < i
        · rw [w64_dn hi hl.1 h0, guard_in (show i - 1 < l.length by omega), nat_cast]
          cases hless : strLt (rd sProp l (i - 1)).1 (rd sProp l i).1 <;> simp [hless, hv, h0]
        · have h0 : i = 0 := by omega
          subst h0
          simp [hv]
theorem refProps_ok (l : List TProp) (hl : okProps l) : V.pleachref25_Props l = some (propsN l) := by
  refine V.pleachref25_Props.of _ ?_
  unfold F.pleachref25_Props.B propsN
  have := refProps_l l hl l.length 0 (by omega)
  rw [show (0 : Int) = ((0 : Nat) : Int) from rfl, this]
  by_cases h : l.length > 8
  · rw [if_yes (by omega), if_pos h]
  · rw [if_no (by omega), if_neg h]

theorem Row_l (l : List ByteArray) (hl : okTexts l) : ∀ d i : Nat, i + d = l.length → V.name_Row.l1010 l (i : Int) = some (scanI (textStep l) d i)
  | 0, i, h => by
    refine V.name_Row.l1010.of _ _ ?_
    unfold F.name_Row.l1010.B
    rw [if_out (by omega)]
    rfl
  | d + 1, i, h => by
    refine V.name_Row.l1010.of _ _ ?_
    unfold F.name_Row.l1010.B
    have hi : i < l.length := by omega
    rw [if_in hi, guard_in hi]
    simp only [nat_cast, name_Check_ok _ (hl.2 _ (rd_mem (e := .str) hi)), Option.bind_some, w64_up hi hl.1, Row_l l hl d (i + 1) (by omega)]
    rw [scanI_succ]
    unfold textStep
    cases hn : nameB (rd .str l i) with
    | false => simp
    | true =>
      by_cases h0 : 0 < i
      · rw [w64_dn hi hl.1 h0, guard_in (show i - 1 < l.length by omega), nat_cast]
        cases hless : strLt (rd .str l (i - 1)) (rd .str l i) <;> simp [hless, h0]
      · have h0 : i = 0 := by omega
        subst h0
        simp
theorem Row_ok (l : List ByteArray) (hl : okTexts l) : V.name_Row l = some (rowN l) := by
  refine V.name_Row.of _ ?_
  unfold F.name_Row.B rowN
  exact Row_l l hl l.length 0 (by omega)
theorem refRow_l (l : List ByteArray) (hl : okTexts l) : ∀ d i : Nat, i + d = l.length → V.pleachref05_Row.l1010 l (i : Int) = some (scanI (textStep l) d i)
  | 0, i, h => by
    refine V.pleachref05_Row.l1010.of _ _ ?_
    unfold F.pleachref05_Row.l1010.B
    rw [if_out (by omega)]
    rfl
  | d + 1, i, h => by
    refine V.pleachref05_Row.l1010.of _ _ ?_
    unfold F.pleachref05_Row.l1010.B
    have hi : i < l.length := by omega
    rw [if_in hi, guard_in hi]
    simp only [nat_cast, refIs_ok _ (hl.2 _ (rd_mem (e := .str) hi)), Option.bind_some, w64_up hi hl.1, refRow_l l hl d (i + 1) (by omega), guard_in hi, lt_or]
    rw [scanI_succ]
    unfold textStep
    cases hn : nameB (rd .str l i) with
    | false => simp
    | true =>
      by_cases h0 : 0 < i
      · rw [w64_dn hi hl.1 h0, guard_in (show i - 1 < l.length by omega), nat_cast]
        cases hless : strLt (rd .str l (i - 1)) (rd .str l i) <;> simp [hless, h0]
      · have h0 : i = 0 := by omega
        subst h0
        simp
theorem refRow_ok (l : List ByteArray) (hl : okTexts l) : V.pleachref05_Row l = some (rowN l) := by
  refine V.pleachref05_Row.of _ ?_
  unfold F.pleachref05_Row.B rowN
  exact refRow_l l hl l.length 0 (by omega)
theorem rest_ok (a : List ByteArray) (l : List TProp) (ha : okTexts a) (hl : okProps l) : V.elem_rest a l = some (restN a l) := by
  refine V.elem_rest.of _ _ ?_
  unfold F.elem_rest.B restN
  rw [Row_ok a ha, CheckProps_ok l hl]
  by_cases h : a.length > 8
  · rw [if_yes (by omega), if_pos h]
  · rw [if_no (by omega), if_neg h]
    by_cases h0 : rowN a = 0 <;> simp [Bool.cond_eq_ite, h0]
theorem refRest_ok (a : List ByteArray) (l : List TProp) (ha : okTexts a) (hl : okProps l) : V.pleachref25_rest a l = some (restN a l) := by
  refine V.pleachref25_rest.of _ _ ?_
  unfold F.pleachref25_rest.B restN
  rw [refRow_ok a ha, refProps_ok l hl]
  by_cases h : a.length > 8
  · rw [if_yes (by omega), if_pos h]
  · rw [if_no (by omega), if_neg h]
    by_cases h0 : rowN a = 0 <;> simp [Bool.cond_eq_ite, h0]
end Go.Proofs.Ytmnadajjgnniaaa.AE
end
section
set_option linter.unusedVariables false
set_option linter.unusedSimpArgs false
namespace Go.Proofs.Ytmnadajjgnniaaa.AE
open Go

/-- A number's bytes, seven bits a byte, 128 more in all but the last. -/
def vput : Nat → Nat → List Int
  | 0, _ => []
  | f + 1, n => if n < 128 then [(n : Int)] else ((n % 128 + 128 : Nat) : Int) :: vput f (n / 128)
theorem vput_len : ∀ f n : Nat, (vput f n).length ≤ f
  | 0, _ => by simp [vput]
  | f + 1, n => by
    unfold vput
    split
    · simp
    · have := vput_len f (n / 128)
      simp
      omega
theorem vput_pos (f n : Nat) : 0 < (vput (f + 1) n).length := by
  unfold vput
  split <;> simp
def numB (n : Nat) : ByteArray := bytesOf (vput 10 n)
theorem numB_size (n : Nat) : (numB n).size ≤ 10 := by unfold numB; rw [strOfNums_size]; exact vput_len 10 n
/-- The digits to the base 128. -/
def digs : Nat → Nat → List Int
  | 0, _ => []
  | f + 1, n => ((n % 128 : Nat) : Int) :: if n < 128 then [] else digs f (n / 128)
theorem digs_len : ∀ f n : Nat, (digs f n).length ≤ f
  | 0, _ => by simp [digs]
  | f + 1, n => by
    unfold digs
    split
    · simp
    · have := digs_len f (n / 128)
      simp
      omega
theorem div128 (n : Nat) : Int.tdiv (n : Int) 128 = ((n / 128 : Nat) : Int) := by rw [Int.tdiv_eq_ediv_of_nonneg (by omega)]; omega
theorem mod128 (n : Nat) : Int.tmod (n : Int) 128 = ((n % 128 : Nat) : Int) := by rw [Int.tmod_eq_emod_of_nonneg (by omega)]; omega
theorem digits_l (a : Int) : ∀ (f n : Nat) (pre : List Int), n < 128 ^ f → n < 18446744073709551616 → pre.length + f ≤ 100 →
    V.pleachref01_Digits.l11100 a (n : Int) pre = some (pre ++ if n = 0 then [] else digs f n)
  | 0, n, pre, hn, _, _ => by
    have : n = 0 := by simpa using hn
    subst this
    refine V.pleachref01_Digits.l11100.of _ _ _ ?_
    unfold F.pleachref01_Digits.l11100.B
    rw [if_no (by omega)]
    simp
  | f + 1, n, pre, hn, h64, hl => by
    refine V.pleachref01_Digits.l11100.of _ _ _ ?_
    unfold F.pleachref01_Digits.l11100.B
    by_cases h0 : n = 0
    · subst h0
      rw [if_no (by omega)]
      simp
    · rw [if_yes (by omega), guard_dec (by simp [nmax]; omega), div128, mod128, u64_id (by omega) (by omega), w64_id (by omega) (by omega)]
      rw [digits_l a f (n / 128) _ (by rw [Nat.pow_succ] at hn; exact Nat.div_lt_of_lt_mul (by omega)) (by omega) (by simp; omega)]
      rw [if_neg h0]
      have : digs (f + 1) n = ((n % 128 : Nat) : Int) :: if n < 128 then [] else digs f (n / 128) := rfl
      rw [this]
      by_cases hlt : n < 128
      · have : n / 128 = 0 := by omega
        simp [this, hlt]
      · have : ¬ n / 128 = 0 := by omega
        simp [this, hlt]
theorem digits_ok (n : Nat) (h64 : n < 18446744073709551616) : V.pleachref01_Digits (n : Int) = some (digs 10 n) := by
  refine V.pleachref01_Digits.of _ ?_
  unfold F.pleachref01_Digits.B
  rw [div128, mod128, u64_id (by omega) (by omega), w64_id (by omega) (by omega)]
  rw [digits_l (n : Int) 9 (n / 128) _ (by omega) (by omega) (by simp)]
  have : digs 10 n = ((n % 128 : Nat) : Int) :: if n < 128 then [] else digs 9 (n / 128) := rfl
  rw [this]
  by_cases hlt : n < 128
  · have : n / 128 = 0 := by omega
    simp [this, hlt]
  · have : ¬ n / 128 = 0 := by omega
    simp [this, hlt]
theorem digs_at : ∀ (f n i : Nat), n < 128 ^ f → i < (digs f n).length → 0 ≤ (digs f n).getD i 0 ∧ (digs f n).getD i 0 < 128
  | 0, _, _, _, h => by simp [digs] at h
  | f + 1, n, 0, _, _ => by simp [digs]; omega
  | f + 1, n, i + 1, hn, h => by
    unfold digs at h ⊢
    by_cases hlt : n < 128
    · simp [hlt] at h
    · simp only [hlt, if_false] at h ⊢
      have := digs_at f (n / 128) i (by rw [Nat.pow_succ] at hn; exact Nat.div_lt_of_lt_mul (by omega)) (by simpa using h)
      simpa using this
/-- With the marks: all but the last have 128 more. -/
def marks : List Int → List Int
  | [] => []
  | [c] => [c]
  | c :: d :: r => (c + 128) :: marks (d :: r)
theorem marks_digs : ∀ (f n : Nat), n < 128 ^ f → marks (digs f n) = vput f n
  | 0, n, h => by simp [digs, marks, vput]
  | f + 1, n, h => by
    unfold digs vput
    by_cases hlt : n < 128
    · simp [hlt, marks]
      omega
    · simp only [hlt, if_false]
      cases f with
      | zero => simp at h; omega
      | succ f =>
        have ih := marks_digs (f + 1) (n / 128) (by rw [Nat.pow_succ] at h; exact Nat.div_lt_of_lt_mul (by omega))
        rw [show digs (f + 1) (n / 128) = ((n / 128 % 128 : Nat) : Int) :: if n / 128 < 128 then [] else digs f (n / 128 / 128) from rfl] at ih ⊢
        rw [marks, ih]
        simp
theorem one_size (c : Int) : (bytesOf [c]).size = 1 := strOfNums_size [c]
theorem put_l (a : Int) (l : List Int) (hl : l.length ≤ 10) (hd : ∀ i, i < l.length → 0 ≤ l.getD i 0 ∧ l.getD i 0 < 128) : ∀ (d i : Nat) (out : ByteArray), i + d = l.length → out.size ≤ i →
    V.pleachref01_Put.l111010 a out (i : Int) l = some (out ++ bytesOf (marks (l.drop i)))
  | 0, i, out, h, ho => by
    refine V.pleachref01_Put.l111010.of _ _ _ _ ?_
    unfold F.pleachref01_Put.l111010.B
    rw [if_out (by omega), List.drop_eq_nil_of_le (by omega)]
    simp [marks, bytesOf]
    apply ByteArray.ext
    simp
  | d + 1, i, out, h, ho => by
    refine V.pleachref01_Put.l111010.of _ _ _ _ ?_
    unfold F.pleachref01_Put.l111010.B
    have hil : i < l.length := by omega
    have hb := hd i hil
    have hg : l.getD i 0 = l[i] := by simp [List.getD_eq_getElem?_getD, List.getElem?_eq_getElem hil]
    have hr : rd (.int .i64) l i = l[i] := rd_get (e := .int .i64) hil
    have hdr : l.drop i = l[i] :: l.drop (i + 1) := List.drop_eq_getElem_cons hil
    rw [hg] at hb
    rw [if_in hil, guard_in hil, w64_up hil (by omega), nat_cast, hr, w64_id (x := l[i] + 128) (by omega) (by omega), u8_mod, u8_mod]
    rw [guard_dec (by rw [one_size]; simp [i64max]; omega), guard_dec (by rw [one_size]; simp [i64max]; omega)]
    have ih : ∀ c : Int, V.pleachref01_Put.l111010 a (out ++ bytesOf [c]) ((i + 1 : Nat) : Int) l = _ := fun c => put_l a l hl hd d (i + 1) _ (by omega) (by rw [ByteArray.size_append, one_size]; omega)
    rw [ih, ih]
    by_cases hlast : i + 1 < l.length
    · rw [if_in hlast, hdr, List.drop_eq_getElem_cons hlast, marks, ← List.drop_eq_getElem_cons hlast]
      rw [ByteArray.append_assoc, ← strOfNums_append]
      have : (l[i] + 128) % 256 = l[i] + 128 := by omega
      rw [this]
      rfl
    · rw [if_out (by omega)]
      have hnil : l.drop (i + 1) = [] := List.drop_eq_nil_of_le (by omega)
      rw [hdr, hnil, marks]
      have : l[i] % 256 = l[i] := by omega
      rw [this, ByteArray.append_assoc, ← strOfNums_append]
      rfl
theorem refPut_ok (n : Nat) (h64 : n < 18446744073709551616) : V.pleachref01_Put (n : Int) = some (numB n) := by
  refine V.pleachref01_Put.of _ ?_
  unfold F.pleachref01_Put.B
  rw [digits_ok n h64, Option.bind_some]
  have hn : n < 128 ^ 10 := by omega
  have := put_l (n : Int) (digs 10 n) (digs_len 10 n) (fun i hi => digs_at 10 n i hn hi) (digs 10 n).length 0 ⟨#[]⟩ (by omega) (by simp [ByteArray.size])
  rw [show (0 : Int) = ((0 : Nat) : Int) from rfl, this, List.drop_zero, marks_digs 10 n hn]
  congr 1
theorem xor_zero (x : Int) (h0 : 0 ≤ x) (h1 : x < 18446744073709551616) : (((BitVec.ofInt 64 x ^^^ BitVec.ofInt 64 0).toNat : Nat) : Int) = x := by
  obtain ⟨n, rfl⟩ := Int.eq_ofNat_of_zero_le h0
  have e2 : (BitVec.ofInt 64 (n : Int) ^^^ BitVec.ofInt 64 0).toNat = n := by
    have : BitVec.ofInt 64 0 = 0#64 := rfl
    rw [this, BitVec.xor_zero, BitVec.toNat_ofInt]
    omega
  rw [e2]
/-- A number's place among 0, -1, 1, -2, 2. -/
def zig (a : Int) : Int := if 0 ≤ a then 2 * a else -2 * a - 1
theorem zig_bound {a : Int} (h0 : -9223372036854775808 ≤ a) (h1 : a ≤ 9223372036854775807) : 0 ≤ zig a ∧ zig a < 18446744073709551616 := by unfold zig; split <;> omega
theorem refZig_ok {a : Int} (h0 : -9223372036854775808 ≤ a) (h1 : a ≤ 9223372036854775807) : V.pleachref01_Zig a = some (zig a) := by
  refine V.pleachref01_Zig.of _ ?_
  unfold F.pleachref01_Zig.B zig
  by_cases h : a ≥ 0
  · rw [if_yes h, if_pos (by omega), u64_id (x := a) (by omega) (by omega), u64_id (by omega) (by omega)]
    congr 1
    omega
  · rw [if_no h, if_neg (by omega), w64_id (x := a + 1) (by omega) (by omega), w64_id (by omega) (by omega), u64_id (x := 0 - (a + 1)) (by omega) (by omega), u64_id (x := (0 - (a + 1)) * 2) (by omega) (by omega), u64_id (by omega) (by omega)]
    congr 1
    omega

/-- A text's bytes: how many it has, and these. -/
def textB (s : ByteArray) : ByteArray := numB s.size ++ s
theorem textB_size (s : ByteArray) : (textB s).size ≤ 10 + s.size := by
  unfold textB
  rw [ByteArray.size_append]
  have := numB_size s.size
  omega
theorem refPutText_ok (s : ByteArray) (hs : s.size ≤ 140737488351232) : V.pleachref04_PutText s = some (textB s) := by
  refine V.pleachref04_PutText.of _ ?_
  unfold F.pleachref04_PutText.B
  have := numB_size s.size
  rw [u64_id (by omega) (by omega), refPut_ok _ (by omega), Option.bind_some, guard_dec (by simp [i64max]; omega)]
  rfl
theorem refPutNum_ok (n : Nat) (h : n ≤ 140737488351232) : V.pleachref04_PutNum (n : Int) = some (numB n) := by
  refine V.pleachref04_PutNum.of _ ?_
  unfold F.pleachref04_PutNum.B
  rw [if_no (by omega), u64_id (by omega) (by omega), refPut_ok _ (by omega), Option.bind_some]

/-- A value's bytes. -/
def valB (v : TValue) : ByteArray :=
  if valueB v = true then
    (if v.1 = 1 then bytesOf [1, v.2.1] else if v.1 = 2 then bytesOf [2] ++ numB (zig v.2.1).toNat else bytesOf [3] ++ textB v.2.2)
  else ⟨#[]⟩
theorem valB_size (v : TValue) : (valB v).size ≤ 80 := by
  unfold valB
  split
  · rename_i hv
    split
    · simp [strOfNums_size]
    · split
      · rw [ByteArray.size_append, strOfNums_size]
        have := numB_size (zig v.2.1).toNat
        simp; omega
      · rename_i a1 a2
        rw [ByteArray.size_append, strOfNums_size]
        have := textB_size v.2.2
        have h64 : v.2.2.size ≤ 64 := by
          unfold valueB at hv
          simp [a1, a2] at hv
          exact hv.2
        simp; omega
  · simp [ByteArray.size]
theorem lit_one (n : UInt8) (c : Int) (h : UInt8.ofNat c.toNat = n) : (⟨#[n]⟩ : ByteArray) = bytesOf [c] := by
  unfold bytesOf; simp [h]
theorem refVPut_ok (v : TValue) (hb : -9223372036854775808 ≤ v.2.1 ∧ v.2.1 ≤ 9223372036854775807) : V.pleachref06_Put v = some (valB v) := by
  refine V.pleachref06_Put.of _ ?_
  obtain ⟨a, b, s⟩ := v
  unfold F.pleachref06_Put.B
  simp only at hb ⊢
  rw [refVIs_ok, Option.bind_some]
  unfold valB
  cases hv : valueB (a, b, s) with
  | false => simp
  | true =>
    simp only [if_true]
    unfold valueB at hv
    by_cases a1 : a = 1
    · subst a1
      simp at hv
      have hb2 : b % 256 = b := by omega
      simp [u8_mod, hb2]
    · by_cases a2 : a = 2
      · subst a2
        have hz := zig_bound hb.1 hb.2
        have := numB_size (zig b).toNat
        rw [refZig_ok hb.1 hb.2]
        obtain ⟨z, ez⟩ := Int.eq_ofNat_of_zero_le hz.1
        simp only [Option.bind_some]
        rw [ez, refPut_ok z (by omega), Option.bind_some, guard_dec (p := _ ≤ _) (a := some ((⟨#[2]⟩ : ByteArray) ++ numB z)) (by have e : (⟨#[2]⟩ : ByteArray).size = 1 := rfl; rw [e]; have := numB_size z; unfold i64max; omega), lit_one 2 2 rfl]
        simp
      · have a3 : a = 3 := by simp [a1, a2] at hv; exact hv.1.1
        have h64 : s.size ≤ 64 := by simp [a1, a2] at hv; exact hv.2
        subst a3
        have := textB_size s
        rw [refPutText_ok s (by omega), Option.bind_some, guard_dec (p := _ ≤ _) (a := some ((⟨#[3]⟩ : ByteArray) ++ textB s)) (by have e : (⟨#[3]⟩ : ByteArray).size = 1 := rfl; rw [e]; unfold i64max; omega), lit_one 3 3 rfl]
        simp
end Go.Proofs.Ytmnadajjgnniaaa.AE
end
