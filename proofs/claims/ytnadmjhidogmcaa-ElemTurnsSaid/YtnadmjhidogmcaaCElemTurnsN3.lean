/- The evaluator of the program's form, its soundness, the functions of the given program as it evaluates them, and laws on these. Conditions: as each theorem says. -/
import Derived.Test.YtnadmjhidogmcaaCElemTurnsN2
import Derived.Test.YtnadmjhidogmcaaProg
import Derived.Test.YtnadmjhidogmcaaRows
import Derived.WalkKit
import Derived.ProofKit
import Derived.OpenShut
import Derived.ShutString
import Derived.ChangeOld
import Derived.Below
import Derived.SizedLaws
section
set_option linter.unusedVariables false
set_option maxRecDepth 100000
namespace Go.Proofs.Ytnadmjhidogmcaa.AE
open Go
abbrev TValue : Type := Int × Int × ByteArray
abbrev sValue : Sh := (.prod (.int .i64) (.prod (.int .i64) .str))
abbrev TProp : Type := ByteArray × TValue
abbrev sProp : Sh := (.prod .str sValue)
abbrev TNode : Type := ByteArray × (List ByteArray) × List TProp
abbrev sNode : Sh := (.prod .str (.prod (.list .str) (.list sProp)))
abbrev TEdge : Type := ByteArray × ByteArray × TNode
abbrev TGraph : Type := (List TNode) × List TEdge
def sgT : List (Nat × Sig) := [
  (3, { ps := [(.sc (.list .str)), (.sc (.list sProp)), .raw, (.agg sValue)], vals := [.sc .bool] }),
  (6, { ps := [(.sc (.list .str)), (.sc (.list sProp))], vals := [.sc .bool] }),
  (7, { ps := [(.sc (.list .str))], vals := [.sc .bool] }),
  (8, { ps := [(.sc (.list sProp))], vals := [.sc (.int .i64)] }),
  (9, { vals := [.sc .bool] }),
  (10, { ps := [(.sc (.list sProp)), .raw, (.agg sValue)], tup := true, vals := [.own sProp, .sc (.int .i64)] }),
  (11, { ps := [(.sc (.list sProp)), .raw, (.agg sValue)], tup := true, vals := [.own sProp, .sc (.int .i64)], coer := [(8, (.own sProp))] }),
  (12, { ps := [(.sc (.list sProp)), .raw], tup := true, vals := [.own sProp, .sc (.int .i64)] }),
  (13, { ps := [(.sc (.list sProp)), .raw], tup := true, vals := [.own sProp, .sc (.int .i64)] }),
  (14, { ps := [(.sc (.list sProp)), .raw], tup := true, vals := [.agg sValue, .sc .bool] }),
  (15, { ps := [(.sc (.list sProp)), .raw], tup := true, vals := [.agg sValue, .sc .bool] }),
  (16, { ps := [(.sc (.list sProp)), (.sc (.list sProp))], vals := [.sc .bool] }),
  (17, { ps := [(.sc (.list .str)), .raw], tup := true, vals := [.own .str, .sc (.int .i64)] }),
  (18, { ps := [(.sc (.list .str)), .raw], tup := true, vals := [.sc (.list .str), .sc (.int .i64)] }),
  (19, { ps := [(.sc (.list .str)), .raw], tup := true, vals := [.own .str, .sc (.int .i64)] }),
  (20, { ps := [(.sc (.list .str)), .raw], tup := true, vals := [.own .str, .sc (.int .i64)] }),
  (21, { ps := [(.sc (.list .str)), (.sc (.list .str))], vals := [.sc .bool] }),
  (33, { ps := [(.sc (.list .str))], vals := [.sc (.int .i64)] }),
  (34, { vals := [.sc .bool] }),
  (35, { ps := [(.agg sValue)], vals := [.sc .bool] }),
  (36, { ps := [(.agg sNode)], tup := true, vals := [.sc .str, .sc (.int .i64)] }),
  (37, { vals := [.sc (.int .i64)] }),
  (38, { ps := [(.agg sValue)], vals := [.sc (.int .i64)] }),
  (39, { ps := [(.sc (.list sProp))], vals := [.own sProp] }),
  (40, { ps := [(.sc (.list sProp)), .raw], tup := true, vals := [.sc (.int .i64), .sc .bool] }),
  (41, insSig sProp),
  (42, { ps := [(.sc (.list sProp)), .raw], vals := [.sc (.int .i64)] }),
  (43, { ps := [(.own sProp), .raw, .raw], vals := [.own sProp], excl := [(5, [0])] }),
  (44, { ps := [(.sc (.list .str)), .raw], tup := true, vals := [.own .str, .sc .bool] }),
  (45, { ps := [(.sc (.list .str)), .raw], vals := [.sc .bool] }),
  (46, { ps := [(.sc (.list .str)), .raw], vals := [.sc (.list .str)] }),
  (47, { ps := [(.sc (.list .str)), .raw], tup := true, vals := [.own .str, .sc .bool] }),
  (48, { ps := [(.sc (.list .str)), (.sc (.list .str))], vals := [.own .str], coer := [(5, (.own .str))] }),
  (64, { ps := [(.agg sNode)], vals := [.sc (.int .i64)] }),
  (65, { ps := [(.sc (.list .str)), (.sc (.list sProp))], vals := [.sc .str] }),
  (66, { vals := [.sc .bool] }),
  (67, { ps := [(.sc (.list sProp)), .raw, .raw], tup := true, vals := [.sc (.int .i64), .sc .bool] }),
  (68, { ps := [(.agg sProp), .raw], vals := [.sc (.int .i64)] }),
  (69, { vals := [.sc (.int .i64)] }),
  (72, { ps := [(.sc (.list .str)), .raw], tup := true, vals := [.sc (.int .i64), .sc .bool] }),
  (73, { ps := [(.sc (.list .str))], vals := [.own .str] }),
  (74, insSig .str),
  (75, { ps := [(.sc (.list .str)), .raw], vals := [.sc (.int .i64)] }),
  (76, { ps := [(.own .str), .raw, .raw], vals := [.own .str], excl := [(5, [0])] }),
  (89, { ps := [(.sc (.list .str)), (.sc (.list sProp))], vals := [.sc (.int .i64)] }),
  (90, { vals := [.sc .str] }),
  (91, { vals := [.sc .str] }),
  (92, { ps := [(.agg sValue)], tup := true, vals := [.sc .str, .sc (.int .i64)] }),
  (93, { vals := [.sc .bool] }),
  (95, { ps := [(.sc (.list .str)), .raw], tup := true, vals := [.sc (.int .i64), .sc .bool] }),
  (110, { ps := [(.sc (.list .str))], vals := [.sc (.int .i64)] }),
  (111, { ps := [(.sc (.list sProp))], vals := [.sc (.int .i64)] }),
  (112, { vals := [.sc .str] }),
  (113, { vals := [.sc .str] }),
  (115, { vals := [.sc .bool] }),
  (116, { vals := [.sc .bool] }),
  (124, { vals := [.sc .str] }),
  (131, { vals := [.sc (.int .u64)] })]
abbrev sg : FuncId → Sig := sigOf sgT
noncomputable def F.pleachplain_Bytes (K : Nat) (a0 : List ByteArray) : Option (Int) := evFn Try.prog sg K 33 [.sc (.list .str a0 false)] []
noncomputable def F.pleachplain_Bytes.at (K : Nat) (p ns : List Nat) (s : St) : Option (Int) := atFn Try.prog sg K 33 0 p ns s
noncomputable def F.pleachplain_Bytes.in (K : Nat) (H : List Nat → List Nat → St → Option (Int)) (p ns : List Nat) (s : St) : Option (Int) := inFn Try.prog sg K 33 0 [] H p ns s
theorem F.pleachplain_Bytes.in_eq K p ns s : F.pleachplain_Bytes.at K p ns s = F.pleachplain_Bytes.in K (F.pleachplain_Bytes.at K) p ns s := atFn_eq (P := Try.prog) (sg := sg) (K := K) (f := 33) (m := 0) [] p ns s
theorem F.pleachplain_Bytes.in_main K a0 : F.pleachplain_Bytes (K + 1) a0 = F.pleachplain_Bytes.in K (F.pleachplain_Bytes.at K) [] [] ⟨slots [.sc (.list .str a0 false)] 0, []⟩ := evFn_eq (P := Try.prog) (sg := sg) (K := K) (f := 33) (args := [.sc (.list .str a0 false)]) (σ := []) [] (by kernel_rfl)
def F.pleachplain_Bytes.l11010.st (a0 : List ByteArray) (x0 : Int) (x1 : Int) : St := ⟨[(3, vI x0), (6, vL .str a0), (7, vI (a0.length : Int)), (8, vI x1)], []⟩
noncomputable def F.pleachplain_Bytes.l11010 (K n0 : Nat) (a0 : List ByteArray) (x0 : Int) (x1 : Int) := F.pleachplain_Bytes.at K [1, 1, 0, 1, 0] [n0] (F.pleachplain_Bytes.l11010.st a0 x0 x1)
noncomputable def F.pleachplain_Bytes.l11010.B (c0 : (List ByteArray) → (Int) → (Int) → Option (Int)) (a0 : List ByteArray) (x0 : Int) (x1 : Int) : Option (Int) :=
    (bif (decide (x1 < (a0.length : Int))) then (guardK (decide (0 ≤ x1) && decide (x1 < (a0.length : Int))) (bif (decide ((w64 (x0 + (if 1000000 < ((rd .str a0 x1.toNat).size : Int) then 1000000 else ((rd .str a0 x1.toNat).size : Int)))) ≥ 1000000)) then (some (w64 (x0 + (if 1000000 < ((rd .str a0 x1.toNat).size : Int) then 1000000 else ((rd .str a0 x1.toNat).size : Int))))) else (c0 a0 (w64 (x0 + (if 1000000 < ((rd .str a0 x1.toNat).size : Int) then 1000000 else ((rd .str a0 x1.toNat).size : Int)))) (w64 (x1 + 1))))) else (some x0))
theorem F.pleachplain_Bytes.l11010.eq K n0 a0 x0 x1 : F.pleachplain_Bytes.l11010 K (n0 + 1) a0 x0 x1 = F.pleachplain_Bytes.l11010.B (F.pleachplain_Bytes.l11010 K n0) a0 x0 x1 := (F.pleachplain_Bytes.in_eq K [1, 1, 0, 1, 0] [n0 + 1] (F.pleachplain_Bytes.l11010.st a0 x0 x1)).trans ((show ∀ H, F.pleachplain_Bytes.in K H [1, 1, 0, 1, 0] [n0 + 1] (F.pleachplain_Bytes.l11010.st a0 x0 x1) = F.pleachplain_Bytes.l11010.B (fun a0 x0 x1 => H [1, 1, 0, 1, 0] [n0] (F.pleachplain_Bytes.l11010.st a0 x0 x1)) a0 x0 x1 from by intro H; kernel_rfl) (F.pleachplain_Bytes.at K))
noncomputable def F.pleachplain_Bytes.B (c0 : (List ByteArray) → (Int) → (Int) → Option (Int)) (a0 : List ByteArray) : Option (Int) :=
    (c0 a0 0 0)
theorem F.pleachplain_Bytes.eq K a0 : F.pleachplain_Bytes (K + 1) a0 = F.pleachplain_Bytes.B (F.pleachplain_Bytes.l11010 K K) a0 := (F.pleachplain_Bytes.in_main K a0).trans ((show ∀ H, F.pleachplain_Bytes.in K H [] [] ⟨slots [.sc (.list .str a0 false)] 0, []⟩ = F.pleachplain_Bytes.B (fun a0 x0 x1 => H [1, 1, 0, 1, 0] [K] (F.pleachplain_Bytes.l11010.st a0 x0 x1)) a0 from by intro H; kernel_rfl) (F.pleachplain_Bytes.at K))
noncomputable def V.pleachplain_Bytes.l11010 (a0 : List ByteArray) (x0 : Int) (x1 : Int) := lim fun v => F.pleachplain_Bytes.l11010 (v 0) (v 1) a0 x0 x1
noncomputable def V.pleachplain_Bytes (a0 : List ByteArray) := lim fun v => F.pleachplain_Bytes (v 0) a0
theorem V.pleachplain_Bytes.l11010.of a0 x0 x1 {r} (h : F.pleachplain_Bytes.l11010.B V.pleachplain_Bytes.l11010 a0 x0 x1 = some r) : V.pleachplain_Bytes.l11010 a0 x0 x1 = some r :=
  App.to (App.step 1 (fun v => F.pleachplain_Bytes.l11010.eq (v 0) (v 1) a0 x0 x1) (by unfold F.pleachplain_Bytes.l11010.B; repeat' first | exact App.val | exact App.no | exact App.lim | apply App.cond | apply App.guard | apply App.meet | apply App.ite | refine App.bind ?_ fun _ => ?_)) h
theorem V.pleachplain_Bytes.of a0 {r} (h : F.pleachplain_Bytes.B V.pleachplain_Bytes.l11010 a0 = some r) : V.pleachplain_Bytes a0 = some r :=
  App.to (App.step 0 (fun v => F.pleachplain_Bytes.eq (v 0) a0) (by unfold F.pleachplain_Bytes.B; repeat' first | exact App.val | exact App.no | exact App.lim | exact (App.enter 1 App.lim) | apply App.cond | apply App.guard | apply App.meet | apply App.ite | refine App.bind ?_ fun _ => ?_)) h
noncomputable def F.pleachlaw25_few (K : Nat) (a0 : List ByteArray) (a1 : List TProp) : Option (Bool) := evFn Try.prog sg K 6 [.sc (.list .str a0 false), .sc (.list sProp a1 false)] []
noncomputable def F.pleachlaw25_few.at (K : Nat) (p ns : List Nat) (s : St) : Option (Bool) := atFn Try.prog sg K 6 0 p ns s
noncomputable def F.pleachlaw25_few.in (K : Nat) (H : List Nat → List Nat → St → Option (Bool)) (p ns : List Nat) (s : St) : Option (Bool) := inFn Try.prog sg K 6 0 [] H p ns s
theorem F.pleachlaw25_few.in_eq K p ns s : F.pleachlaw25_few.at K p ns s = F.pleachlaw25_few.in K (F.pleachlaw25_few.at K) p ns s := atFn_eq (P := Try.prog) (sg := sg) (K := K) (f := 6) (m := 0) [] p ns s
theorem F.pleachlaw25_few.in_main K a0 a1 : F.pleachlaw25_few (K + 1) a0 a1 = F.pleachlaw25_few.in K (F.pleachlaw25_few.at K) [] [] ⟨slots [.sc (.list .str a0 false), .sc (.list sProp a1 false)] 0, []⟩ := evFn_eq (P := Try.prog) (sg := sg) (K := K) (f := 6) (args := [.sc (.list .str a0 false), .sc (.list sProp a1 false)]) (σ := []) [] (by kernel_rfl)
def F.pleachlaw25_few.l11010.st (a0 : List ByteArray) (a1 : List TProp) (x0 : Int) (x1 : Int) : St := ⟨[(0, vL .str a0), (1, vL sProp a1), (5, vI x0), (6, vI x1)], []⟩
noncomputable def F.pleachlaw25_few.l11010 (K n0 : Nat) (a0 : List ByteArray) (a1 : List TProp) (x0 : Int) (x1 : Int) := F.pleachlaw25_few.at K [1, 1, 0, 1, 0] [n0] (F.pleachlaw25_few.l11010.st a0 a1 x0 x1)
noncomputable def F.pleachlaw25_few.l11010.B (c0 : (List ByteArray) → (List TProp) → (Int) → (Int) → Option (Bool)) (c1 : (List ByteArray) → Option (Int)) (a0 : List ByteArray) (a1 : List TProp) (x0 : Int) (x1 : Int) : Option (Bool) :=
    (bif (decide (x1 < (a1.length : Int))) then (bif (decide (x1 ≤ 20)) then (guardK (decide (0 ≤ x1) && decide (x1 < (a1.length : Int))) (guardK (decide (0 ≤ x1) && decide (x1 < (a1.length : Int))) (c0 a0 a1 (w64 (x0 + (w64 ((if 10000 < (((rd sProp a1 x1.toNat).1).size : Int) then 10000 else (((rd sProp a1 x1.toNat).1).size : Int)) + (if 10000 < (((((rd sProp a1 x1.toNat).2).2).2).size : Int) then 10000 else (((((rd sProp a1 x1.toNat).2).2).2).size : Int)))))) (w64 (x1 + 1))))) else (bif (decide ((a1.length : Int) ≤ 20)) then (bif (decide (x0 ≤ 3000)) then (bif (decide ((a0.length : Int) ≤ 20)) then ((c1 a0).bind fun t0 => (some (decide (t0 ≤ 2000)))) else (some false)) else (some false)) else (some false))) else (bif (decide ((a1.length : Int) ≤ 20)) then (bif (decide (x0 ≤ 3000)) then (bif (decide ((a0.length : Int) ≤ 20)) then ((c1 a0).bind fun t1 => (some (decide (t1 ≤ 2000)))) else (some false)) else (some false)) else (some false)))
theorem F.pleachlaw25_few.l11010.eq K n0 a0 a1 x0 x1 : F.pleachlaw25_few.l11010 K (n0 + 1) a0 a1 x0 x1 = F.pleachlaw25_few.l11010.B (F.pleachlaw25_few.l11010 K n0) (F.pleachplain_Bytes K) a0 a1 x0 x1 := (F.pleachlaw25_few.in_eq K [1, 1, 0, 1, 0] [n0 + 1] (F.pleachlaw25_few.l11010.st a0 a1 x0 x1)).trans ((show ∀ H, F.pleachlaw25_few.in K H [1, 1, 0, 1, 0] [n0 + 1] (F.pleachlaw25_few.l11010.st a0 a1 x0 x1) = F.pleachlaw25_few.l11010.B (fun a0 a1 x0 x1 => H [1, 1, 0, 1, 0] [n0] (F.pleachlaw25_few.l11010.st a0 a1 x0 x1)) (F.pleachplain_Bytes K) a0 a1 x0 x1 from by intro H; kernel_rfl) (F.pleachlaw25_few.at K))
noncomputable def F.pleachlaw25_few.B (c0 : (List ByteArray) → (List TProp) → (Int) → (Int) → Option (Bool)) (a0 : List ByteArray) (a1 : List TProp) : Option (Bool) :=
    (c0 a0 a1 0 0)
theorem F.pleachlaw25_few.eq K a0 a1 : F.pleachlaw25_few (K + 1) a0 a1 = F.pleachlaw25_few.B (F.pleachlaw25_few.l11010 K K) a0 a1 := (F.pleachlaw25_few.in_main K a0 a1).trans ((show ∀ H, F.pleachlaw25_few.in K H [] [] ⟨slots [.sc (.list .str a0 false), .sc (.list sProp a1 false)] 0, []⟩ = F.pleachlaw25_few.B (fun a0 a1 x0 x1 => H [1, 1, 0, 1, 0] [K] (F.pleachlaw25_few.l11010.st a0 a1 x0 x1)) a0 a1 from by intro H; kernel_rfl) (F.pleachlaw25_few.at K))
noncomputable def V.pleachlaw25_few.l11010 (a0 : List ByteArray) (a1 : List TProp) (x0 : Int) (x1 : Int) := lim fun v => F.pleachlaw25_few.l11010 (v 0) (v 1) a0 a1 x0 x1
noncomputable def V.pleachlaw25_few (a0 : List ByteArray) (a1 : List TProp) := lim fun v => F.pleachlaw25_few (v 0) a0 a1
theorem V.pleachlaw25_few.l11010.of a0 a1 x0 x1 {r} (h : F.pleachlaw25_few.l11010.B V.pleachlaw25_few.l11010 V.pleachplain_Bytes a0 a1 x0 x1 = some r) : V.pleachlaw25_few.l11010 a0 a1 x0 x1 = some r :=
  App.to (App.step 1 (fun v => F.pleachlaw25_few.l11010.eq (v 0) (v 1) a0 a1 x0 x1) (by unfold F.pleachlaw25_few.l11010.B; repeat' first | exact App.val | exact App.no | exact App.lim | apply App.cond | apply App.guard | apply App.meet | apply App.ite | refine App.bind ?_ fun _ => ?_)) h
theorem V.pleachlaw25_few.of a0 a1 {r} (h : F.pleachlaw25_few.B V.pleachlaw25_few.l11010 a0 a1 = some r) : V.pleachlaw25_few a0 a1 = some r :=
  App.to (App.step 0 (fun v => F.pleachlaw25_few.eq (v 0) a0 a1) (by unfold F.pleachlaw25_few.B; repeat' first | exact App.val | exact App.no | exact App.lim | exact (App.enter 1 App.lim) | apply App.cond | apply App.guard | apply App.meet | apply App.ite | refine App.bind ?_ fun _ => ?_)) h
noncomputable def F.name_fits (K : Nat) (a0 : Int) : Option (Bool) := evFn Try.prog sg K 66 [.sc (.val (.int .u8 a0))] []
noncomputable def F.name_fits.B (a0 : Int) : Option (Bool) :=
    (bif (decide (a0 ≥ 97)) then (bif (decide (a0 ≤ 122)) then (some true) else (bif (decide (a0 ≥ 48)) then (bif (decide (a0 ≤ 57)) then (some true) else (some (a0 == 45))) else (some (a0 == 45)))) else (bif (decide (a0 ≥ 48)) then (bif (decide (a0 ≤ 57)) then (some true) else (some (a0 == 45))) else (some (a0 == 45))))
theorem F.name_fits.eq K a0 : F.name_fits (K + 1) a0 = F.name_fits.B a0 := by kernel_rfl
noncomputable def V.name_fits (a0 : Int) := lim fun v => F.name_fits (v 0) a0
theorem V.name_fits.of a0 {r} (h : F.name_fits.B a0 = some r) : V.name_fits a0 = some r :=
  App.to (App.step 0 (fun v => F.name_fits.eq (v 0) a0) (by unfold F.name_fits.B; repeat' first | exact App.val | exact App.no | exact App.lim | apply App.cond | apply App.guard | apply App.meet | apply App.ite | refine App.bind ?_ fun _ => ?_)) h
noncomputable def F.name_Check (K : Nat) (a0 : ByteArray) : Option (Int) := evFn Try.prog sg K 37 [.sc (.val (.string a0))] []
noncomputable def F.name_Check.at (K : Nat) (p ns : List Nat) (s : St) : Option (Int) := atFn Try.prog sg K 37 0 p ns s
noncomputable def F.name_Check.in (K : Nat) (H : List Nat → List Nat → St → Option (Int)) (p ns : List Nat) (s : St) : Option (Int) := inFn Try.prog sg K 37 0 [] H p ns s
theorem F.name_Check.in_eq K p ns s : F.name_Check.at K p ns s = F.name_Check.in K (F.name_Check.at K) p ns s := atFn_eq (P := Try.prog) (sg := sg) (K := K) (f := 37) (m := 0) [] p ns s
theorem F.name_Check.in_main K a0 : F.name_Check (K + 1) a0 = F.name_Check.in K (F.name_Check.at K) [] [] ⟨slots [.sc (.val (.string a0))] 0, []⟩ := evFn_eq (P := Try.prog) (sg := sg) (K := K) (f := 37) (args := [.sc (.val (.string a0))]) (σ := []) [] (by kernel_rfl)
def F.name_Check.l11010.st (a0 : ByteArray) (x0 : Int) : St := ⟨[(0, vS a0), (12, vI (a0.size : Int)), (13, vI x0)], []⟩
noncomputable def F.name_Check.l11010 (K n0 : Nat) (a0 : ByteArray) (x0 : Int) := F.name_Check.at K [1, 1, 0, 1, 0] [n0] (F.name_Check.l11010.st a0 x0)
noncomputable def F.name_Check.l11010.B (c0 : (Int) → Option (Bool)) (c1 : (ByteArray) → (Int) → Option (Int)) (a0 : ByteArray) (x0 : Int) : Option (Int) :=
    (bif (decide (x0 < (a0.size : Int))) then (guardK (decide (0 ≤ x0) && decide (x0 < (a0.size : Int))) ((c0 (byteAt a0 x0)).bind fun t0 => (bif (!t0) then (some 2) else (c1 a0 (w64 (x0 + 1)))))) else (some 0))
theorem F.name_Check.l11010.eq K n0 a0 x0 : F.name_Check.l11010 K (n0 + 1) a0 x0 = F.name_Check.l11010.B (F.name_fits K) (F.name_Check.l11010 K n0) a0 x0 := (F.name_Check.in_eq K [1, 1, 0, 1, 0] [n0 + 1] (F.name_Check.l11010.st a0 x0)).trans ((show ∀ H, F.name_Check.in K H [1, 1, 0, 1, 0] [n0 + 1] (F.name_Check.l11010.st a0 x0) = F.name_Check.l11010.B (F.name_fits K) (fun a0 x0 => H [1, 1, 0, 1, 0] [n0] (F.name_Check.l11010.st a0 x0)) a0 x0 from by intro H; kernel_rfl) (F.name_Check.at K))
noncomputable def F.name_Check.B (c0 : (ByteArray) → (Int) → Option (Int)) (a0 : ByteArray) : Option (Int) :=
    (bif (strEq a0 (⟨#[]⟩ : ByteArray)) then (some 2) else (bif (decide ((a0.size : Int) > 12)) then (some 2) else (c0 a0 0)))
theorem F.name_Check.eq K a0 : F.name_Check (K + 1) a0 = F.name_Check.B (F.name_Check.l11010 K K) a0 := (F.name_Check.in_main K a0).trans ((show ∀ H, F.name_Check.in K H [] [] ⟨slots [.sc (.val (.string a0))] 0, []⟩ = F.name_Check.B (fun a0 x0 => H [1, 1, 0, 1, 0] [K] (F.name_Check.l11010.st a0 x0)) a0 from by intro H; kernel_rfl) (F.name_Check.at K))
noncomputable def V.name_Check.l11010 (a0 : ByteArray) (x0 : Int) := lim fun v => F.name_Check.l11010 (v 0) (v 1) a0 x0
noncomputable def V.name_Check (a0 : ByteArray) := lim fun v => F.name_Check (v 0) a0
theorem V.name_Check.l11010.of a0 x0 {r} (h : F.name_Check.l11010.B V.name_fits V.name_Check.l11010 a0 x0 = some r) : V.name_Check.l11010 a0 x0 = some r :=
  App.to (App.step 1 (fun v => F.name_Check.l11010.eq (v 0) (v 1) a0 x0) (by unfold F.name_Check.l11010.B; repeat' first | exact App.val | exact App.no | exact App.lim | apply App.cond | apply App.guard | apply App.meet | apply App.ite | refine App.bind ?_ fun _ => ?_)) h
theorem V.name_Check.of a0 {r} (h : F.name_Check.B V.name_Check.l11010 a0 = some r) : V.name_Check a0 = some r :=
  App.to (App.step 0 (fun v => F.name_Check.eq (v 0) a0) (by unfold F.name_Check.B; repeat' first | exact App.val | exact App.no | exact App.lim | exact (App.enter 1 App.lim) | apply App.cond | apply App.guard | apply App.meet | apply App.ite | refine App.bind ?_ fun _ => ?_)) h
noncomputable def F.name_Row (K : Nat) (a0 : List ByteArray) : Option (Int) := evFn Try.prog sg K 110 [.sc (.list .str a0 false)] []
noncomputable def F.name_Row.at (K : Nat) (p ns : List Nat) (s : St) : Option (Int) := atFn Try.prog sg K 110 0 p ns s
noncomputable def F.name_Row.in (K : Nat) (H : List Nat → List Nat → St → Option (Int)) (p ns : List Nat) (s : St) : Option (Int) := inFn Try.prog sg K 110 0 [] H p ns s
theorem F.name_Row.in_eq K p ns s : F.name_Row.at K p ns s = F.name_Row.in K (F.name_Row.at K) p ns s := atFn_eq (P := Try.prog) (sg := sg) (K := K) (f := 110) (m := 0) [] p ns s
theorem F.name_Row.in_main K a0 : F.name_Row (K + 1) a0 = F.name_Row.in K (F.name_Row.at K) [] [] ⟨slots [.sc (.list .str a0 false)] 0, []⟩ := evFn_eq (P := Try.prog) (sg := sg) (K := K) (f := 110) (args := [.sc (.list .str a0 false)]) (σ := []) [] (by kernel_rfl)
def F.name_Row.l1010.st (a0 : List ByteArray) (x0 : Int) : St := ⟨[(0, vL .str a0), (6, vL .str a0), (7, vI (a0.length : Int)), (8, vI x0)], []⟩
noncomputable def F.name_Row.l1010 (K n0 : Nat) (a0 : List ByteArray) (x0 : Int) := F.name_Row.at K [1, 0, 1, 0] [n0] (F.name_Row.l1010.st a0 x0)
noncomputable def F.name_Row.l1010.B (c0 : (ByteArray) → Option (Int)) (c1 : (List ByteArray) → (Int) → Option (Int)) (a0 : List ByteArray) (x0 : Int) : Option (Int) :=
    (bif (decide (x0 < (a0.length : Int))) then (guardK (decide (0 ≤ x0) && decide (x0 < (a0.length : Int))) ((c0 (rd .str a0 x0.toNat)).bind fun t0 => (bif (t0 != 0) then (some t0) else (bif (decide (x0 > 0)) then (guardK (decide (0 ≤ (w64 (x0 - 1))) && decide ((w64 (x0 - 1)) < (a0.length : Int))) (bif (!strLt (rd .str a0 ((w64 (x0 - 1)).toNat)) (rd .str a0 x0.toNat)) then (some 4) else (c1 a0 (w64 (x0 + 1))))) else (c1 a0 (w64 (x0 + 1))))))) else (some 0))
theorem F.name_Row.l1010.eq K n0 a0 x0 : F.name_Row.l1010 K (n0 + 1) a0 x0 = F.name_Row.l1010.B (F.name_Check K) (F.name_Row.l1010 K n0) a0 x0 := (F.name_Row.in_eq K [1, 0, 1, 0] [n0 + 1] (F.name_Row.l1010.st a0 x0)).trans ((show ∀ H, F.name_Row.in K H [1, 0, 1, 0] [n0 + 1] (F.name_Row.l1010.st a0 x0) = F.name_Row.l1010.B (F.name_Check K) (fun a0 x0 => H [1, 0, 1, 0] [n0] (F.name_Row.l1010.st a0 x0)) a0 x0 from by intro H; kernel_rfl) (F.name_Row.at K))
noncomputable def F.name_Row.B (c0 : (List ByteArray) → (Int) → Option (Int)) (a0 : List ByteArray) : Option (Int) :=
    (c0 a0 0)
theorem F.name_Row.eq K a0 : F.name_Row (K + 1) a0 = F.name_Row.B (F.name_Row.l1010 K K) a0 := (F.name_Row.in_main K a0).trans ((show ∀ H, F.name_Row.in K H [] [] ⟨slots [.sc (.list .str a0 false)] 0, []⟩ = F.name_Row.B (fun a0 x0 => H [1, 0, 1, 0] [K] (F.name_Row.l1010.st a0 x0)) a0 from by intro H; kernel_rfl) (F.name_Row.at K))
noncomputable def V.name_Row.l1010 (a0 : List ByteArray) (x0 : Int) := lim fun v => F.name_Row.l1010 (v 0) (v 1) a0 x0
noncomputable def V.name_Row (a0 : List ByteArray) := lim fun v => F.name_Row (v 0) a0
theorem V.name_Row.l1010.of a0 x0 {r} (h : F.name_Row.l1010.B V.name_Check V.name_Row.l1010 a0 x0 = some r) : V.name_Row.l1010 a0 x0 = some r :=
  App.to (App.step 1 (fun v => F.name_Row.l1010.eq (v 0) (v 1) a0 x0) (by unfold F.name_Row.l1010.B; repeat' first | exact App.val | exact App.no | exact App.lim | apply App.cond | apply App.guard | apply App.meet | apply App.ite | refine App.bind ?_ fun _ => ?_)) h
theorem V.name_Row.of a0 {r} (h : F.name_Row.B V.name_Row.l1010 a0 = some r) : V.name_Row a0 = some r :=
  App.to (App.step 0 (fun v => F.name_Row.eq (v 0) a0) (by unfold F.name_Row.B; repeat' first | exact App.val | exact App.no | exact App.lim | exact (App.enter 1 App.lim) | apply App.cond | apply App.guard | apply App.meet | apply App.ite | refine App.bind ?_ fun _ => ?_)) h
noncomputable def F.value_Check (K : Nat) (a0 : TValue) : Option (Int) := evFn Try.prog sg K 38 [.agg [.val (.int .i64 a0.1), .val (.int .i64 a0.2.1), .val (.string a0.2.2)]] []
noncomputable def F.value_Check.B (a0 : TValue) : Option (Int) :=
    (bif (a0.1 == 1) then (bif (a0.2.1 == 0) then (bif (!(strEq a0.2.2 (⟨#[]⟩ : ByteArray))) then (some 2) else (some 0)) else (bif (a0.2.1 == 1) then (bif (!(strEq a0.2.2 (⟨#[]⟩ : ByteArray))) then (some 2) else (some 0)) else (some 2))) else (bif (a0.1 == 2) then (bif (!(strEq a0.2.2 (⟨#[]⟩ : ByteArray))) then (some 2) else (some 0)) else (bif (a0.1 == 3) then (bif (a0.2.1 == 0) then (bif (!(decide ((a0.2.2.size : Int) ≤ 64))) then (some 2) else (some 0)) else (some 2)) else (some 2))))
theorem F.value_Check.eq K a0 : F.value_Check (K + 1) a0 = F.value_Check.B a0 := by kernel_rfl
noncomputable def V.value_Check (a0 : TValue) := lim fun v => F.value_Check (v 0) a0
theorem V.value_Check.of a0 {r} (h : F.value_Check.B a0 = some r) : V.value_Check a0 = some r :=
  App.to (App.step 0 (fun v => F.value_Check.eq (v 0) a0) (by unfold F.value_Check.B; repeat' first | exact App.val | exact App.no | exact App.lim | apply App.cond | apply App.guard | apply App.meet | apply App.ite | refine App.bind ?_ fun _ => ?_)) h
noncomputable def F.elem_CheckProps (K : Nat) (a0 : List TProp) : Option (Int) := evFn Try.prog sg K 111 [.sc (.list sProp a0 false)] []
noncomputable def F.elem_CheckProps.at (K : Nat) (p ns : List Nat) (s : St) : Option (Int) := atFn Try.prog sg K 111 0 p ns s
noncomputable def F.elem_CheckProps.in (K : Nat) (H : List Nat → List Nat → St → Option (Int)) (p ns : List Nat) (s : St) : Option (Int) := inFn Try.prog sg K 111 0 [] H p ns s
theorem F.elem_CheckProps.in_eq K p ns s : F.elem_CheckProps.at K p ns s = F.elem_CheckProps.in K (F.elem_CheckProps.at K) p ns s := atFn_eq (P := Try.prog) (sg := sg) (K := K) (f := 111) (m := 0) [] p ns s
theorem F.elem_CheckProps.in_main K a0 : F.elem_CheckProps (K + 1) a0 = F.elem_CheckProps.in K (F.elem_CheckProps.at K) [] [] ⟨slots [.sc (.list sProp a0 false)] 0, []⟩ := evFn_eq (P := Try.prog) (sg := sg) (K := K) (f := 111) (args := [.sc (.list sProp a0 false)]) (σ := []) [] (by kernel_rfl)
def F.elem_CheckProps.l11010.st (a0 : List TProp) (x0 : Int) : St := ⟨[(0, vL sProp a0), (8, vL sProp a0), (9, vI (a0.length : Int)), (10, vI x0)], []⟩
noncomputable def F.elem_CheckProps.l11010 (K n0 : Nat) (a0 : List TProp) (x0 : Int) := F.elem_CheckProps.at K [1, 1, 0, 1, 0] [n0] (F.elem_CheckProps.l11010.st a0 x0)
noncomputable def F.elem_CheckProps.l11010.B (c0 : (ByteArray) → Option (Int)) (c1 : (TValue) → Option (Int)) (c2 : (List TProp) → (Int) → Option (Int)) (a0 : List TProp) (x0 : Int) : Option (Int) :=
    (bif (decide (x0 < (a0.length : Int))) then (guardK (decide (0 ≤ x0) && decide (x0 < (a0.length : Int))) ((c0 ((rd sProp a0 x0.toNat).1)).bind fun t0 => (bif (t0 != 0) then (some 2) else ((c1 (((rd sProp a0 x0.toNat).2).1, (((rd sProp a0 x0.toNat).2).2).1, (((rd sProp a0 x0.toNat).2).2).2)).bind fun t1 => (bif (t1 != 0) then (some 2) else (bif (decide (x0 > 0)) then (guardK (decide (0 ≤ (w64 (x0 - 1))) && decide ((w64 (x0 - 1)) < (a0.length : Int))) (bif (!strLt ((rd sProp a0 ((w64 (x0 - 1)).toNat)).1) ((rd sProp a0 x0.toNat).1)) then (some 4) else (c2 a0 (w64 (x0 + 1))))) else (c2 a0 (w64 (x0 + 1))))))))) else (some 0))
theorem F.elem_CheckProps.l11010.eq K n0 a0 x0 : F.elem_CheckProps.l11010 K (n0 + 1) a0 x0 = F.elem_CheckProps.l11010.B (F.name_Check K) (F.value_Check K) (F.elem_CheckProps.l11010 K n0) a0 x0 := (F.elem_CheckProps.in_eq K [1, 1, 0, 1, 0] [n0 + 1] (F.elem_CheckProps.l11010.st a0 x0)).trans ((show ∀ H, F.elem_CheckProps.in K H [1, 1, 0, 1, 0] [n0 + 1] (F.elem_CheckProps.l11010.st a0 x0) = F.elem_CheckProps.l11010.B (F.name_Check K) (F.value_Check K) (fun a0 x0 => H [1, 1, 0, 1, 0] [n0] (F.elem_CheckProps.l11010.st a0 x0)) a0 x0 from by intro H; kernel_rfl) (F.elem_CheckProps.at K))
noncomputable def F.elem_CheckProps.B (c0 : (List TProp) → (Int) → Option (Int)) (a0 : List TProp) : Option (Int) :=
    (bif (decide ((a0.length : Int) > 8)) then (some 5) else (c0 a0 0))
theorem F.elem_CheckProps.eq K a0 : F.elem_CheckProps (K + 1) a0 = F.elem_CheckProps.B (F.elem_CheckProps.l11010 K K) a0 := (F.elem_CheckProps.in_main K a0).trans ((show ∀ H, F.elem_CheckProps.in K H [] [] ⟨slots [.sc (.list sProp a0 false)] 0, []⟩ = F.elem_CheckProps.B (fun a0 x0 => H [1, 1, 0, 1, 0] [K] (F.elem_CheckProps.l11010.st a0 x0)) a0 from by intro H; kernel_rfl) (F.elem_CheckProps.at K))
noncomputable def V.elem_CheckProps.l11010 (a0 : List TProp) (x0 : Int) := lim fun v => F.elem_CheckProps.l11010 (v 0) (v 1) a0 x0
noncomputable def V.elem_CheckProps (a0 : List TProp) := lim fun v => F.elem_CheckProps (v 0) a0
theorem V.elem_CheckProps.l11010.of a0 x0 {r} (h : F.elem_CheckProps.l11010.B V.name_Check V.value_Check V.elem_CheckProps.l11010 a0 x0 = some r) : V.elem_CheckProps.l11010 a0 x0 = some r :=
  App.to (App.step 1 (fun v => F.elem_CheckProps.l11010.eq (v 0) (v 1) a0 x0) (by unfold F.elem_CheckProps.l11010.B; repeat' first | exact App.val | exact App.no | exact App.lim | apply App.cond | apply App.guard | apply App.meet | apply App.ite | refine App.bind ?_ fun _ => ?_)) h
theorem V.elem_CheckProps.of a0 {r} (h : F.elem_CheckProps.B V.elem_CheckProps.l11010 a0 = some r) : V.elem_CheckProps a0 = some r :=
  App.to (App.step 0 (fun v => F.elem_CheckProps.eq (v 0) a0) (by unfold F.elem_CheckProps.B; repeat' first | exact App.val | exact App.no | exact App.lim | exact (App.enter 1 App.lim) | apply App.cond | apply App.guard | apply App.meet | apply App.ite | refine App.bind ?_ fun _ => ?_)) h
noncomputable def F.elem_rest (K : Nat) (a0 : List ByteArray) (a1 : List TProp) : Option (Int) := evFn Try.prog sg K 89 [.sc (.list .str a0 false), .sc (.list sProp a1 false)] []
noncomputable def F.elem_rest.B (c0 : (List ByteArray) → Option (Int)) (c1 : (List TProp) → Option (Int)) (a0 : List ByteArray) (a1 : List TProp) : Option (Int) :=
    (bif (decide ((a0.length : Int) > 8)) then (some 5) else ((c0 a0).bind fun t0 => (bif (t0 != 0) then (some t0) else ((c1 a1).bind fun t1 => (some t1)))))
theorem F.elem_rest.eq K a0 a1 : F.elem_rest (K + 1) a0 a1 = F.elem_rest.B (F.name_Row K) (F.elem_CheckProps K) a0 a1 := by kernel_rfl
noncomputable def V.elem_rest (a0 : List ByteArray) (a1 : List TProp) := lim fun v => F.elem_rest (v 0) a0 a1
theorem V.elem_rest.of a0 a1 {r} (h : F.elem_rest.B V.name_Row V.elem_CheckProps a0 a1 = some r) : V.elem_rest a0 a1 = some r :=
  App.to (App.step 0 (fun v => F.elem_rest.eq (v 0) a0 a1) (by unfold F.elem_rest.B; repeat' first | exact App.val | exact App.no | exact App.lim | apply App.cond | apply App.guard | apply App.meet | apply App.ite | refine App.bind ?_ fun _ => ?_)) h
noncomputable def F.elem_CheckNode (K : Nat) (a0 : TNode) : Option (Int) := evFn Try.prog sg K 64 [.agg [.val (.string a0.1), .list .str a0.2.1 false, .list sProp a0.2.2 false]] []
noncomputable def F.elem_CheckNode.B (c0 : (ByteArray) → Option (Int)) (c1 : (List ByteArray) → (List TProp) → Option (Int)) (a0 : TNode) : Option (Int) :=
    ((c0 a0.1).bind fun t0 => (bif (t0 != 0) then (some t0) else ((c1 a0.2.1 a0.2.2).bind fun t1 => (some t1))))
theorem F.elem_CheckNode.eq K a0 : F.elem_CheckNode (K + 1) a0 = F.elem_CheckNode.B (F.name_Check K) (F.elem_rest K) a0 := by kernel_rfl
noncomputable def V.elem_CheckNode (a0 : TNode) := lim fun v => F.elem_CheckNode (v 0) a0
theorem V.elem_CheckNode.of a0 {r} (h : F.elem_CheckNode.B V.name_Check V.elem_rest a0 = some r) : V.elem_CheckNode a0 = some r :=
  App.to (App.step 0 (fun v => F.elem_CheckNode.eq (v 0) a0) (by unfold F.elem_CheckNode.B; repeat' first | exact App.val | exact App.no | exact App.lim | apply App.cond | apply App.guard | apply App.meet | apply App.ite | refine App.bind ?_ fun _ => ?_)) h
noncomputable def F.varint_Put (K : Nat) (a0 : Int) : Option (ByteArray) := evFn Try.prog sg K 112 [.sc (.val (.int .u64 a0))] []
noncomputable def F.varint_Put.at (K : Nat) (p ns : List Nat) (s : St) : Option (ByteArray) := atFn Try.prog sg K 112 0 p ns s
noncomputable def F.varint_Put.in (K : Nat) (H : List Nat → List Nat → St → Option (ByteArray)) (p ns : List Nat) (s : St) : Option (ByteArray) := inFn Try.prog sg K 112 0 [] H p ns s
theorem F.varint_Put.in_eq K p ns s : F.varint_Put.at K p ns s = F.varint_Put.in K (F.varint_Put.at K) p ns s := atFn_eq (P := Try.prog) (sg := sg) (K := K) (f := 112) (m := 0) [] p ns s
theorem F.varint_Put.in_main K a0 : F.varint_Put (K + 1) a0 = F.varint_Put.in K (F.varint_Put.at K) [] [] ⟨slots [.sc (.val (.int .u64 a0))] 0, []⟩ := evFn_eq (P := Try.prog) (sg := sg) (K := K) (f := 112) (args := [.sc (.val (.int .u64 a0))]) (σ := []) [] (by kernel_rfl)
def F.varint_Put.l11100.st (a0 : Int) (x0 : Int) (x1 : Int) (x2 : List Int) : St := ⟨[(0, .one (.sc (.val (.int .u64 x0)))), (3, .one (.sc (.eref 0 0 0))), (4, vI x1)], [.elems (.int .u8) x2]⟩
noncomputable def F.varint_Put.l11100 (K n0 : Nat) (a0 : Int) (x0 : Int) (x1 : Int) (x2 : List Int) := F.varint_Put.at K [1, 1, 1, 0, 0] [n0] (F.varint_Put.l11100.st a0 x0 x1 x2)
noncomputable def F.varint_Put.l11100.B (c0 : (Int) → (Int) → (Int) → (List Int) → Option (ByteArray)) (a0 : Int) (x0 : Int) (x1 : Int) (x2 : List Int) : Option (ByteArray) :=
    (bif (decide (x0 ≥ 128)) then (guardK (decide (0 ≤ x1) && decide (x1 < 10) && decide (x1 < (x2.length : Int))) (c0 a0 (Int.fdiv x0 (2 ^ 7)) (w64 (x1 + 1)) (x2.set x1.toNat (IntKind.wrap .u8 ((BitVec.ofInt 8 (IntKind.wrap .u8 x0) ||| BitVec.ofInt 8 128).toNat : Int))))) else (guardK (decide (0 ≤ x1) && decide (x1 < 10) && decide (x1 < (x2.length : Int))) (guardK (decide (0 ≤ (w64 (x1 + 1))) && decide ((w64 (x1 + 1)) ≤ 10) && decide (10 = (x2.set x1.toNat (IntKind.wrap .u8 x0)).length)) (some (bytesOf (((x2.set x1.toNat (IntKind.wrap .u8 x0)).take ((w64 (x1 + 1)).toNat)).drop 0))))))
theorem F.varint_Put.l11100.eq K n0 a0 x0 x1 x2 : F.varint_Put.l11100 K (n0 + 1) a0 x0 x1 x2 = F.varint_Put.l11100.B (F.varint_Put.l11100 K n0) a0 x0 x1 x2 := (F.varint_Put.in_eq K [1, 1, 1, 0, 0] [n0 + 1] (F.varint_Put.l11100.st a0 x0 x1 x2)).trans ((show ∀ H, F.varint_Put.in K H [1, 1, 1, 0, 0] [n0 + 1] (F.varint_Put.l11100.st a0 x0 x1 x2) = F.varint_Put.l11100.B (fun a0 x0 x1 x2 => H [1, 1, 1, 0, 0] [n0] (F.varint_Put.l11100.st a0 x0 x1 x2)) a0 x0 x1 x2 from by intro H; kernel_rfl) (F.varint_Put.at K))
noncomputable def F.varint_Put.B (c0 : (Int) → (Int) → (Int) → (List Int) → Option (ByteArray)) (a0 : Int) : Option (ByteArray) :=
    (c0 a0 a0 0 (repl 10 0))
theorem F.varint_Put.eq K a0 : F.varint_Put (K + 1) a0 = F.varint_Put.B (F.varint_Put.l11100 K K) a0 := (F.varint_Put.in_main K a0).trans ((show ∀ H, F.varint_Put.in K H [] [] ⟨slots [.sc (.val (.int .u64 a0))] 0, []⟩ = F.varint_Put.B (fun a0 x0 x1 x2 => H [1, 1, 1, 0, 0] [K] (F.varint_Put.l11100.st a0 x0 x1 x2)) a0 from by intro H; kernel_rfl) (F.varint_Put.at K))
noncomputable def V.varint_Put.l11100 (a0 : Int) (x0 : Int) (x1 : Int) (x2 : List Int) := lim fun v => F.varint_Put.l11100 (v 0) (v 1) a0 x0 x1 x2
noncomputable def V.varint_Put (a0 : Int) := lim fun v => F.varint_Put (v 0) a0
theorem V.varint_Put.l11100.of a0 x0 x1 x2 {r} (h : F.varint_Put.l11100.B V.varint_Put.l11100 a0 x0 x1 x2 = some r) : V.varint_Put.l11100 a0 x0 x1 x2 = some r :=
  App.to (App.step 1 (fun v => F.varint_Put.l11100.eq (v 0) (v 1) a0 x0 x1 x2) (by unfold F.varint_Put.l11100.B; repeat' first | exact App.val | exact App.no | exact App.lim | apply App.cond | apply App.guard | apply App.meet | apply App.ite | refine App.bind ?_ fun _ => ?_)) h
theorem V.varint_Put.of a0 {r} (h : F.varint_Put.B V.varint_Put.l11100 a0 = some r) : V.varint_Put a0 = some r :=
  App.to (App.step 0 (fun v => F.varint_Put.eq (v 0) a0) (by unfold F.varint_Put.B; repeat' first | exact App.val | exact App.no | exact App.lim | exact (App.enter 1 App.lim) | apply App.cond | apply App.guard | apply App.meet | apply App.ite | refine App.bind ?_ fun _ => ?_)) h
noncomputable def F.scan_PutNum (K : Nat) (a0 : Int) : Option (ByteArray) := evFn Try.prog sg K 90 [.sc (.val (.int .i64 a0))] []
noncomputable def F.scan_PutNum.B (c0 : (Int) → Option (ByteArray)) (a0 : Int) : Option (ByteArray) :=
    ((c0 (IntKind.wrap .u64 (if a0 < 0 then 0 else a0))).bind fun t0 => (some t0))
theorem F.scan_PutNum.eq K a0 : F.scan_PutNum (K + 1) a0 = F.scan_PutNum.B (F.varint_Put K) a0 := by kernel_rfl
noncomputable def V.scan_PutNum (a0 : Int) := lim fun v => F.scan_PutNum (v 0) a0
theorem V.scan_PutNum.of a0 {r} (h : F.scan_PutNum.B V.varint_Put a0 = some r) : V.scan_PutNum a0 = some r :=
  App.to (App.step 0 (fun v => F.scan_PutNum.eq (v 0) a0) (by unfold F.scan_PutNum.B; repeat' first | exact App.val | exact App.no | exact App.lim | apply App.cond | apply App.guard | apply App.meet | apply App.ite | refine App.bind ?_ fun _ => ?_)) h
noncomputable def F.scan_PutText (K : Nat) (a0 : ByteArray) : Option (ByteArray) := evFn Try.prog sg K 91 [.sc (.val (.string a0))] []
noncomputable def F.scan_PutText.B (c0 : (Int) → Option (ByteArray)) (a0 : ByteArray) : Option (ByteArray) :=
    ((c0 (IntKind.wrap .u64 (a0.size : Int))).bind fun t0 => (guardK (decide (t0.size + a0.size ≤ i64max)) (some (t0 ++ a0))))
theorem F.scan_PutText.eq K a0 : F.scan_PutText (K + 1) a0 = F.scan_PutText.B (F.varint_Put K) a0 := by kernel_rfl
noncomputable def V.scan_PutText (a0 : ByteArray) := lim fun v => F.scan_PutText (v 0) a0
theorem V.scan_PutText.of a0 {r} (h : F.scan_PutText.B V.varint_Put a0 = some r) : V.scan_PutText a0 = some r :=
  App.to (App.step 0 (fun v => F.scan_PutText.eq (v 0) a0) (by unfold F.scan_PutText.B; repeat' first | exact App.val | exact App.no | exact App.lim | apply App.cond | apply App.guard | apply App.meet | apply App.ite | refine App.bind ?_ fun _ => ?_)) h
noncomputable def F.varint_Zig (K : Nat) (a0 : Int) : Option (Int) := evFn Try.prog sg K 131 [.sc (.val (.int .i64 a0))] []
noncomputable def F.varint_Zig.B (a0 : Int) : Option (Int) :=
    (some (IntKind.wrap .u64 ((BitVec.ofInt 64 (IntKind.wrap .u64 ((IntKind.wrap .u64 a0) * 2 ^ 1)) ^^^ BitVec.ofInt 64 (IntKind.wrap .u64 (Int.fdiv a0 (2 ^ 63)))).toNat : Int)))
theorem F.varint_Zig.eq K a0 : F.varint_Zig (K + 1) a0 = F.varint_Zig.B a0 := by kernel_rfl
noncomputable def V.varint_Zig (a0 : Int) := lim fun v => F.varint_Zig (v 0) a0
theorem V.varint_Zig.of a0 {r} (h : F.varint_Zig.B a0 = some r) : V.varint_Zig a0 = some r :=
  App.to (App.step 0 (fun v => F.varint_Zig.eq (v 0) a0) (by unfold F.varint_Zig.B; repeat' first | exact App.val | exact App.no | exact App.lim | apply App.cond | apply App.guard | apply App.meet | apply App.ite | refine App.bind ?_ fun _ => ?_)) h
noncomputable def F.varint_Int (K : Nat) (a0 : Int) : Option (ByteArray) := evFn Try.prog sg K 124 [.sc (.val (.int .i64 a0))] []
noncomputable def F.varint_Int.B (c0 : (Int) → Option (Int)) (c1 : (Int) → Option (ByteArray)) (a0 : Int) : Option (ByteArray) :=
    ((c0 a0).bind fun t0 => ((c1 t0).bind fun t1 => (some t1)))
theorem F.varint_Int.eq K a0 : F.varint_Int (K + 1) a0 = F.varint_Int.B (F.varint_Zig K) (F.varint_Put K) a0 := by kernel_rfl
noncomputable def V.varint_Int (a0 : Int) := lim fun v => F.varint_Int (v 0) a0
theorem V.varint_Int.of a0 {r} (h : F.varint_Int.B V.varint_Zig V.varint_Put a0 = some r) : V.varint_Int a0 = some r :=
  App.to (App.step 0 (fun v => F.varint_Int.eq (v 0) a0) (by unfold F.varint_Int.B; repeat' first | exact App.val | exact App.no | exact App.lim | apply App.cond | apply App.guard | apply App.meet | apply App.ite | refine App.bind ?_ fun _ => ?_)) h
noncomputable def F.scan_PutInt (K : Nat) (a0 : Int) : Option (ByteArray) := evFn Try.prog sg K 113 [.sc (.val (.int .i64 a0))] []
noncomputable def F.scan_PutInt.B (c0 : (Int) → Option (ByteArray)) (a0 : Int) : Option (ByteArray) :=
    ((c0 a0).bind fun t0 => (some t0))
theorem F.scan_PutInt.eq K a0 : F.scan_PutInt (K + 1) a0 = F.scan_PutInt.B (F.varint_Int K) a0 := by kernel_rfl
noncomputable def V.scan_PutInt (a0 : Int) := lim fun v => F.scan_PutInt (v 0) a0
theorem V.scan_PutInt.of a0 {r} (h : F.scan_PutInt.B V.varint_Int a0 = some r) : V.scan_PutInt a0 = some r :=
  App.to (App.step 0 (fun v => F.scan_PutInt.eq (v 0) a0) (by unfold F.scan_PutInt.B; repeat' first | exact App.val | exact App.no | exact App.lim | apply App.cond | apply App.guard | apply App.meet | apply App.ite | refine App.bind ?_ fun _ => ?_)) h
noncomputable def F.value_Put (K : Nat) (a0 : TValue) : Option (ByteArray × Int) := evFn Try.prog sg K 92 [.agg [.val (.int .i64 a0.1), .val (.int .i64 a0.2.1), .val (.string a0.2.2)]] []
noncomputable def F.value_Put.B (c0 : (TValue) → Option (Int)) (c1 : (Int) → Option (ByteArray)) (c2 : (ByteArray) → Option (ByteArray)) (a0 : TValue) : Option (ByteArray × Int) :=
    ((c0 (a0.1, a0.2.1, a0.2.2)).bind fun t0 => (bif (t0 != 0) then (some ((⟨#[]⟩ : ByteArray), t0)) else (bif (a0.1 == 1) then (guardK (decide ((bytesOf ([(IntKind.wrap .u8 a0.1)])).size + (bytesOf ([(IntKind.wrap .u8 a0.2.1)])).size ≤ i64max)) (some (((bytesOf ([(IntKind.wrap .u8 a0.1)])) ++ (bytesOf ([(IntKind.wrap .u8 a0.2.1)]))), 0))) else (bif (a0.1 == 2) then ((c1 a0.2.1).bind fun t1 => (guardK (decide ((bytesOf ([(IntKind.wrap .u8 a0.1)])).size + t1.size ≤ i64max)) (some (((bytesOf ([(IntKind.wrap .u8 a0.1)])) ++ t1), 0)))) else ((c2 a0.2.2).bind fun t2 => (guardK (decide ((bytesOf ([(IntKind.wrap .u8 a0.1)])).size + t2.size ≤ i64max)) (some (((bytesOf ([(IntKind.wrap .u8 a0.1)])) ++ t2), 0))))))))
theorem F.value_Put.eq K a0 : F.value_Put (K + 1) a0 = F.value_Put.B (F.value_Check K) (F.scan_PutInt K) (F.scan_PutText K) a0 := by kernel_rfl
noncomputable def V.value_Put (a0 : TValue) := lim fun v => F.value_Put (v 0) a0
theorem V.value_Put.of a0 {r} (h : F.value_Put.B V.value_Check V.scan_PutInt V.scan_PutText a0 = some r) : V.value_Put a0 = some r :=
  App.to (App.step 0 (fun v => F.value_Put.eq (v 0) a0) (by unfold F.value_Put.B; repeat' first | exact App.val | exact App.no | exact App.lim | apply App.cond | apply App.guard | apply App.meet | apply App.ite | refine App.bind ?_ fun _ => ?_)) h
noncomputable def F.elem_put (K : Nat) (a0 : List ByteArray) (a1 : List TProp) : Option (ByteArray) := evFn Try.prog sg K 65 [.sc (.list .str a0 false), .sc (.list sProp a1 false)] []
noncomputable def F.elem_put.at (K : Nat) (p ns : List Nat) (s : St) : Option (ByteArray) := atFn Try.prog sg K 65 0 p ns s
noncomputable def F.elem_put.in (K : Nat) (H : List Nat → List Nat → St → Option (ByteArray)) (p ns : List Nat) (s : St) : Option (ByteArray) := inFn Try.prog sg K 65 0 [] H p ns s
theorem F.elem_put.in_eq K p ns s : F.elem_put.at K p ns s = F.elem_put.in K (F.elem_put.at K) p ns s := atFn_eq (P := Try.prog) (sg := sg) (K := K) (f := 65) (m := 0) [] p ns s
theorem F.elem_put.in_main K a0 a1 : F.elem_put (K + 1) a0 a1 = F.elem_put.in K (F.elem_put.at K) [] [] ⟨slots [.sc (.list .str a0 false), .sc (.list sProp a1 false)] 0, []⟩ := evFn_eq (P := Try.prog) (sg := sg) (K := K) (f := 65) (args := [.sc (.list .str a0 false), .sc (.list sProp a1 false)]) (σ := []) [] (by kernel_rfl)
def F.elem_put.l11010.st (a0 : List ByteArray) (a1 : List TProp) (x0 : ByteArray) (x1 : Int) : St := ⟨[(1, vL sProp a1), (5, vS x0), (15, vL .str a0), (16, vI (a0.length : Int)), (17, vI x1)], []⟩
noncomputable def F.elem_put.l11010 (K n0 : Nat) (a0 : List ByteArray) (a1 : List TProp) (x0 : ByteArray) (x1 : Int) := F.elem_put.at K [1, 1, 0, 1, 0] [n0] (F.elem_put.l11010.st a0 a1 x0 x1)
def F.elem_put.l1111010.st (a0 : List ByteArray) (a1 : List TProp) (x0 : ByteArray) (x1 : Int) : St := ⟨[(5, vS x0), (31, vL sProp a1), (32, vI (a1.length : Int)), (33, vI x1)], []⟩
noncomputable def F.elem_put.l1111010 (K n0 : Nat) (a0 : List ByteArray) (a1 : List TProp) (x0 : ByteArray) (x1 : Int) := F.elem_put.at K [1, 1, 1, 1, 0, 1, 0] [n0] (F.elem_put.l1111010.st a0 a1 x0 x1)
noncomputable def F.elem_put.l11010.B (c0 : (ByteArray) → Option (ByteArray)) (c1 : (List ByteArray) → (List TProp) → (ByteArray) → (Int) → Option (ByteArray)) (c2 : (Int) → Option (ByteArray)) (c3 : (List ByteArray) → (List TProp) → (ByteArray) → (Int) → Option (ByteArray)) (a0 : List ByteArray) (a1 : List TProp) (x0 : ByteArray) (x1 : Int) : Option (ByteArray) :=
    (bif (decide (x1 < (a0.length : Int))) then (guardK (decide (0 ≤ x1) && decide (x1 < (a0.length : Int))) ((c0 (rd .str a0 x1.toNat)).bind fun t1 => (guardK (decide (x0.size + t1.size ≤ i64max)) (c1 a0 a1 (x0 ++ t1) (w64 (x1 + 1)))))) else ((c2 (a1.length : Int)).bind fun t2 => (guardK (decide (x0.size + t2.size ≤ i64max)) (c3 a0 a1 (x0 ++ t2) 0))))
theorem F.elem_put.l11010.eq K n0 a0 a1 x0 x1 : F.elem_put.l11010 K (n0 + 1) a0 a1 x0 x1 = F.elem_put.l11010.B (F.scan_PutText K) (F.elem_put.l11010 K n0) (F.scan_PutNum K) (F.elem_put.l1111010 K K) a0 a1 x0 x1 := (F.elem_put.in_eq K [1, 1, 0, 1, 0] [n0 + 1] (F.elem_put.l11010.st a0 a1 x0 x1)).trans ((show ∀ H, F.elem_put.in K H [1, 1, 0, 1, 0] [n0 + 1] (F.elem_put.l11010.st a0 a1 x0 x1) = F.elem_put.l11010.B (F.scan_PutText K) (fun a0 a1 x0 x1 => H [1, 1, 0, 1, 0] [n0] (F.elem_put.l11010.st a0 a1 x0 x1)) (F.scan_PutNum K) (fun a0 a1 x0 x1 => H [1, 1, 1, 1, 0, 1, 0] [K] (F.elem_put.l1111010.st a0 a1 x0 x1)) a0 a1 x0 x1 from by intro H; kernel_rfl) (F.elem_put.at K))
noncomputable def F.elem_put.l1111010.B (c0 : (TValue) → Option (ByteArray × Int)) (c1 : (ByteArray) → Option (ByteArray)) (c2 : (List ByteArray) → (List TProp) → (ByteArray) → (Int) → Option (ByteArray)) (a0 : List ByteArray) (a1 : List TProp) (x0 : ByteArray) (x1 : Int) : Option (ByteArray) :=
    (bif (decide (x1 < (a1.length : Int))) then (guardK (decide (0 ≤ x1) && decide (x1 < (a1.length : Int))) ((c0 (((rd sProp a1 x1.toNat).2).1, (((rd sProp a1 x1.toNat).2).2).1, (((rd sProp a1 x1.toNat).2).2).2)).bind fun t3 => ((c1 ((rd sProp a1 x1.toNat).1)).bind fun t4 => (guardK (decide (t4.size + t3.1.size ≤ i64max)) (guardK (decide (x0.size + (t4 ++ t3.1).size ≤ i64max)) (c2 a0 a1 (x0 ++ (t4 ++ t3.1)) (w64 (x1 + 1)))))))) else (some x0))
theorem F.elem_put.l1111010.eq K n0 a0 a1 x0 x1 : F.elem_put.l1111010 K (n0 + 1) a0 a1 x0 x1 = F.elem_put.l1111010.B (F.value_Put K) (F.scan_PutText K) (F.elem_put.l1111010 K n0) a0 a1 x0 x1 := (F.elem_put.in_eq K [1, 1, 1, 1, 0, 1, 0] [n0 + 1] (F.elem_put.l1111010.st a0 a1 x0 x1)).trans ((show ∀ H, F.elem_put.in K H [1, 1, 1, 1, 0, 1, 0] [n0 + 1] (F.elem_put.l1111010.st a0 a1 x0 x1) = F.elem_put.l1111010.B (F.value_Put K) (F.scan_PutText K) (fun a0 a1 x0 x1 => H [1, 1, 1, 1, 0, 1, 0] [n0] (F.elem_put.l1111010.st a0 a1 x0 x1)) a0 a1 x0 x1 from by intro H; kernel_rfl) (F.elem_put.at K))
noncomputable def F.elem_put.B (c0 : (Int) → Option (ByteArray)) (c1 : (List ByteArray) → (List TProp) → (ByteArray) → (Int) → Option (ByteArray)) (a0 : List ByteArray) (a1 : List TProp) : Option (ByteArray) :=
    ((c0 (a0.length : Int)).bind fun t0 => (c1 a0 a1 t0 0))
theorem F.elem_put.eq K a0 a1 : F.elem_put (K + 1) a0 a1 = F.elem_put.B (F.scan_PutNum K) (F.elem_put.l11010 K K) a0 a1 := (F.elem_put.in_main K a0 a1).trans ((show ∀ H, F.elem_put.in K H [] [] ⟨slots [.sc (.list .str a0 false), .sc (.list sProp a1 false)] 0, []⟩ = F.elem_put.B (F.scan_PutNum K) (fun a0 a1 x0 x1 => H [1, 1, 0, 1, 0] [K] (F.elem_put.l11010.st a0 a1 x0 x1)) a0 a1 from by intro H; kernel_rfl) (F.elem_put.at K))
noncomputable def V.elem_put.l11010 (a0 : List ByteArray) (a1 : List TProp) (x0 : ByteArray) (x1 : Int) := lim fun v => F.elem_put.l11010 (v 0) (v 1) a0 a1 x0 x1
noncomputable def V.elem_put.l1111010 (a0 : List ByteArray) (a1 : List TProp) (x0 : ByteArray) (x1 : Int) := lim fun v => F.elem_put.l1111010 (v 0) (v 1) a0 a1 x0 x1
noncomputable def V.elem_put (a0 : List ByteArray) (a1 : List TProp) := lim fun v => F.elem_put (v 0) a0 a1
theorem V.elem_put.l11010.of a0 a1 x0 x1 {r} (h : F.elem_put.l11010.B V.scan_PutText V.elem_put.l11010 V.scan_PutNum V.elem_put.l1111010 a0 a1 x0 x1 = some r) : V.elem_put.l11010 a0 a1 x0 x1 = some r :=
  App.to (App.step 1 (fun v => F.elem_put.l11010.eq (v 0) (v 1) a0 a1 x0 x1) (by unfold F.elem_put.l11010.B; repeat' first | exact App.val | exact App.no | exact App.lim | exact (App.enter 1 App.lim) | apply App.cond | apply App.guard | apply App.meet | apply App.ite | refine App.bind ?_ fun _ => ?_)) h
theorem V.elem_put.l1111010.of a0 a1 x0 x1 {r} (h : F.elem_put.l1111010.B V.value_Put V.scan_PutText V.elem_put.l1111010 a0 a1 x0 x1 = some r) : V.elem_put.l1111010 a0 a1 x0 x1 = some r :=
  App.to (App.step 1 (fun v => F.elem_put.l1111010.eq (v 0) (v 1) a0 a1 x0 x1) (by unfold F.elem_put.l1111010.B; repeat' first | exact App.val | exact App.no | exact App.lim | apply App.cond | apply App.guard | apply App.meet | apply App.ite | refine App.bind ?_ fun _ => ?_)) h
theorem V.elem_put.of a0 a1 {r} (h : F.elem_put.B V.scan_PutNum V.elem_put.l11010 a0 a1 = some r) : V.elem_put a0 a1 = some r :=
  App.to (App.step 0 (fun v => F.elem_put.eq (v 0) a0 a1) (by unfold F.elem_put.B; repeat' first | exact App.val | exact App.no | exact App.lim | exact (App.enter 1 App.lim) | apply App.cond | apply App.guard | apply App.meet | apply App.ite | refine App.bind ?_ fun _ => ?_)) h
noncomputable def F.elem_PutNode (K : Nat) (a0 : TNode) : Option (ByteArray × Int) := evFn Try.prog sg K 36 [.agg [.val (.string a0.1), .list .str a0.2.1 false, .list sProp a0.2.2 false]] []
noncomputable def F.elem_PutNode.B (c0 : (TNode) → Option (Int)) (c1 : (List ByteArray) → (List TProp) → Option (ByteArray)) (a0 : TNode) : Option (ByteArray × Int) :=
    ((c0 (a0.1, a0.2.1, a0.2.2)).bind fun t0 => (bif (t0 != 0) then (some ((⟨#[]⟩ : ByteArray), t0)) else ((c1 a0.2.1 a0.2.2).bind fun t1 => (some (t1, 0)))))
theorem F.elem_PutNode.eq K a0 : F.elem_PutNode (K + 1) a0 = F.elem_PutNode.B (F.elem_CheckNode K) (F.elem_put K) a0 := by kernel_rfl
noncomputable def V.elem_PutNode (a0 : TNode) := lim fun v => F.elem_PutNode (v 0) a0
theorem V.elem_PutNode.of a0 {r} (h : F.elem_PutNode.B V.elem_CheckNode V.elem_put a0 = some r) : V.elem_PutNode a0 = some r :=
  App.to (App.step 0 (fun v => F.elem_PutNode.eq (v 0) a0) (by unfold F.elem_PutNode.B; repeat' first | exact App.val | exact App.no | exact App.lim | apply App.cond | apply App.guard | apply App.meet | apply App.ite | refine App.bind ?_ fun _ => ?_)) h
noncomputable def F.pleachlaw25_awake (K : Nat) : Option (Bool) := evFn Try.prog sg K 9 [] []
noncomputable def F.pleachlaw25_awake.B (c0 : (TNode) → Option (ByteArray × Int)) : Option (Bool) :=
    ((c0 ((⟨#[97]⟩ : ByteArray), [], [])).bind fun t0 => (bif (strEq t0.1 (⟨#[0, 0]⟩ : ByteArray)) then (some (t0.2 == 0)) else (some false)))
theorem F.pleachlaw25_awake.eq K : F.pleachlaw25_awake (K + 1) = F.pleachlaw25_awake.B (F.elem_PutNode K) := by kernel_rfl
noncomputable def V.pleachlaw25_awake := lim fun v => F.pleachlaw25_awake (v 0)
theorem V.pleachlaw25_awake.of {r} (h : F.pleachlaw25_awake.B V.elem_PutNode = some r) : V.pleachlaw25_awake = some r :=
  App.to (App.step 0 (fun v => F.pleachlaw25_awake.eq (v 0)) (by unfold F.pleachlaw25_awake.B; repeat' first | exact App.val | exact App.no | exact App.lim | apply App.cond | apply App.guard | apply App.meet | apply App.ite | refine App.bind ?_ fun _ => ?_)) h
noncomputable def F.pleachref05_Rises (K : Nat) (a0 : List ByteArray) : Option (Bool) := evFn Try.prog sg K 7 [.sc (.list .str a0 false)] []
noncomputable def F.pleachref05_Rises.at (K : Nat) (p ns : List Nat) (s : St) : Option (Bool) := atFn Try.prog sg K 7 0 p ns s
noncomputable def F.pleachref05_Rises.in (K : Nat) (H : List Nat → List Nat → St → Option (Bool)) (p ns : List Nat) (s : St) : Option (Bool) := inFn Try.prog sg K 7 0 [] H p ns s
theorem F.pleachref05_Rises.in_eq K p ns s : F.pleachref05_Rises.at K p ns s = F.pleachref05_Rises.in K (F.pleachref05_Rises.at K) p ns s := atFn_eq (P := Try.prog) (sg := sg) (K := K) (f := 7) (m := 0) [] p ns s
theorem F.pleachref05_Rises.in_main K a0 : F.pleachref05_Rises (K + 1) a0 = F.pleachref05_Rises.in K (F.pleachref05_Rises.at K) [] [] ⟨slots [.sc (.list .str a0 false)] 0, []⟩ := evFn_eq (P := Try.prog) (sg := sg) (K := K) (f := 7) (args := [.sc (.list .str a0 false)]) (σ := []) [] (by kernel_rfl)
def F.pleachref05_Rises.l1010.st (a0 : List ByteArray) (x0 : Int) : St := ⟨[(0, vL .str a0), (3, vI x0)], []⟩
noncomputable def F.pleachref05_Rises.l1010 (K n0 : Nat) (a0 : List ByteArray) (x0 : Int) := F.pleachref05_Rises.at K [1, 0, 1, 0] [n0] (F.pleachref05_Rises.l1010.st a0 x0)
noncomputable def F.pleachref05_Rises.l1010.B (c0 : (List ByteArray) → (Int) → Option (Bool)) (a0 : List ByteArray) (x0 : Int) : Option (Bool) :=
    (bif (decide (x0 < (a0.length : Int))) then (guardK (decide (0 ≤ x0) && decide (x0 < (a0.length : Int))) (guardK (decide (0 ≤ (w64 (x0 - 1))) && decide ((w64 (x0 - 1)) < (a0.length : Int))) (bif (strLt (rd .str a0 x0.toNat) (rd .str a0 ((w64 (x0 - 1)).toNat)) || strEq (rd .str a0 x0.toNat) (rd .str a0 ((w64 (x0 - 1)).toNat))) then (some false) else (c0 a0 (w64 (x0 + 1)))))) else (some true))
theorem F.pleachref05_Rises.l1010.eq K n0 a0 x0 : F.pleachref05_Rises.l1010 K (n0 + 1) a0 x0 = F.pleachref05_Rises.l1010.B (F.pleachref05_Rises.l1010 K n0) a0 x0 := (F.pleachref05_Rises.in_eq K [1, 0, 1, 0] [n0 + 1] (F.pleachref05_Rises.l1010.st a0 x0)).trans ((show ∀ H, F.pleachref05_Rises.in K H [1, 0, 1, 0] [n0 + 1] (F.pleachref05_Rises.l1010.st a0 x0) = F.pleachref05_Rises.l1010.B (fun a0 x0 => H [1, 0, 1, 0] [n0] (F.pleachref05_Rises.l1010.st a0 x0)) a0 x0 from by intro H; kernel_rfl) (F.pleachref05_Rises.at K))
noncomputable def F.pleachref05_Rises.B (c0 : (List ByteArray) → (Int) → Option (Bool)) (a0 : List ByteArray) : Option (Bool) :=
    (c0 a0 1)
theorem F.pleachref05_Rises.eq K a0 : F.pleachref05_Rises (K + 1) a0 = F.pleachref05_Rises.B (F.pleachref05_Rises.l1010 K K) a0 := (F.pleachref05_Rises.in_main K a0).trans ((show ∀ H, F.pleachref05_Rises.in K H [] [] ⟨slots [.sc (.list .str a0 false)] 0, []⟩ = F.pleachref05_Rises.B (fun a0 x0 => H [1, 0, 1, 0] [K] (F.pleachref05_Rises.l1010.st a0 x0)) a0 from by intro H; kernel_rfl) (F.pleachref05_Rises.at K))
noncomputable def V.pleachref05_Rises.l1010 (a0 : List ByteArray) (x0 : Int) := lim fun v => F.pleachref05_Rises.l1010 (v 0) (v 1) a0 x0
noncomputable def V.pleachref05_Rises (a0 : List ByteArray) := lim fun v => F.pleachref05_Rises (v 0) a0
theorem V.pleachref05_Rises.l1010.of a0 x0 {r} (h : F.pleachref05_Rises.l1010.B V.pleachref05_Rises.l1010 a0 x0 = some r) : V.pleachref05_Rises.l1010 a0 x0 = some r :=
  App.to (App.step 1 (fun v => F.pleachref05_Rises.l1010.eq (v 0) (v 1) a0 x0) (by unfold F.pleachref05_Rises.l1010.B; repeat' first | exact App.val | exact App.no | exact App.lim | apply App.cond | apply App.guard | apply App.meet | apply App.ite | refine App.bind ?_ fun _ => ?_)) h
theorem V.pleachref05_Rises.of a0 {r} (h : F.pleachref05_Rises.B V.pleachref05_Rises.l1010 a0 = some r) : V.pleachref05_Rises a0 = some r :=
  App.to (App.step 0 (fun v => F.pleachref05_Rises.eq (v 0) a0) (by unfold F.pleachref05_Rises.B; repeat' first | exact App.val | exact App.no | exact App.lim | exact (App.enter 1 App.lim) | apply App.cond | apply App.guard | apply App.meet | apply App.ite | refine App.bind ?_ fun _ => ?_)) h
noncomputable def F.pleachref05_Is (K : Nat) (a0 : ByteArray) : Option (Bool) := evFn Try.prog sg K 34 [.sc (.val (.string a0))] []
noncomputable def F.pleachref05_Is.at (K : Nat) (p ns : List Nat) (s : St) : Option (Bool) := atFn Try.prog sg K 34 0 p ns s
noncomputable def F.pleachref05_Is.in (K : Nat) (H : List Nat → List Nat → St → Option (Bool)) (p ns : List Nat) (s : St) : Option (Bool) := inFn Try.prog sg K 34 0 [] H p ns s
theorem F.pleachref05_Is.in_eq K p ns s : F.pleachref05_Is.at K p ns s = F.pleachref05_Is.in K (F.pleachref05_Is.at K) p ns s := atFn_eq (P := Try.prog) (sg := sg) (K := K) (f := 34) (m := 0) [] p ns s
theorem F.pleachref05_Is.in_main K a0 : F.pleachref05_Is (K + 1) a0 = F.pleachref05_Is.in K (F.pleachref05_Is.at K) [] [] ⟨slots [.sc (.val (.string a0))] 0, []⟩ := evFn_eq (P := Try.prog) (sg := sg) (K := K) (f := 34) (args := [.sc (.val (.string a0))]) (σ := []) [] (by kernel_rfl)
def F.pleachref05_Is.l1010.st (a0 : ByteArray) (x0 : Int) : St := ⟨[(0, vS a0), (3, vI x0)], []⟩
noncomputable def F.pleachref05_Is.l1010 (K n0 : Nat) (a0 : ByteArray) (x0 : Int) := F.pleachref05_Is.at K [1, 0, 1, 0] [n0] (F.pleachref05_Is.l1010.st a0 x0)
noncomputable def F.pleachref05_Is.l1010.B (c0 : (ByteArray) → (Int) → Option (Bool)) (a0 : ByteArray) (x0 : Int) : Option (Bool) :=
    (bif (decide (x0 < (a0.size : Int))) then (guardK (decide (0 ≤ x0) && decide (x0 < (a0.size : Int))) (bif (decide ((byteAt a0 x0) ≥ 97)) then (guardK (decide (0 ≤ x0) && decide (x0 < (a0.size : Int))) (guardK (decide (0 ≤ x0) && decide (x0 < (a0.size : Int))) (bif (decide ((byteAt a0 x0) ≥ 48)) then (guardK (decide (0 ≤ x0) && decide (x0 < (a0.size : Int))) (bif (!(decide ((byteAt a0 x0) ≤ 122))) then (bif (!(decide ((byteAt a0 x0) ≤ 57))) then (guardK (decide (0 ≤ x0) && decide (x0 < (a0.size : Int))) (bif ((byteAt a0 x0) != 45) then (some false) else (c0 a0 (w64 (x0 + 1))))) else (c0 a0 (w64 (x0 + 1)))) else (c0 a0 (w64 (x0 + 1))))) else (bif (!(decide ((byteAt a0 x0) ≤ 122))) then (guardK (decide (0 ≤ x0) && decide (x0 < (a0.size : Int))) (bif ((byteAt a0 x0) != 45) then (some false) else (c0 a0 (w64 (x0 + 1))))) else (c0 a0 (w64 (x0 + 1))))))) else (guardK (decide (0 ≤ x0) && decide (x0 < (a0.size : Int))) (bif (decide ((byteAt a0 x0) ≥ 48)) then (guardK (decide (0 ≤ x0) && decide (x0 < (a0.size : Int))) (bif (!(decide ((byteAt a0 x0) ≤ 57))) then (guardK (decide (0 ≤ x0) && decide (x0 < (a0.size : Int))) (bif ((byteAt a0 x0) != 45) then (some false) else (c0 a0 (w64 (x0 + 1))))) else (c0 a0 (w64 (x0 + 1))))) else (guardK (decide (0 ≤ x0) && decide (x0 < (a0.size : Int))) (bif ((byteAt a0 x0) != 45) then (some false) else (c0 a0 (w64 (x0 + 1))))))))) else (bif (decide ((a0.size : Int) ≥ 1)) then (some (decide ((a0.size : Int) ≤ 12))) else (some false)))
theorem F.pleachref05_Is.l1010.eq K n0 a0 x0 : F.pleachref05_Is.l1010 K (n0 + 1) a0 x0 = F.pleachref05_Is.l1010.B (F.pleachref05_Is.l1010 K n0) a0 x0 := (F.pleachref05_Is.in_eq K [1, 0, 1, 0] [n0 + 1] (F.pleachref05_Is.l1010.st a0 x0)).trans ((show ∀ H, F.pleachref05_Is.in K H [1, 0, 1, 0] [n0 + 1] (F.pleachref05_Is.l1010.st a0 x0) = F.pleachref05_Is.l1010.B (fun a0 x0 => H [1, 0, 1, 0] [n0] (F.pleachref05_Is.l1010.st a0 x0)) a0 x0 from by intro H; kernel_rfl) (F.pleachref05_Is.at K))
noncomputable def F.pleachref05_Is.B (c0 : (ByteArray) → (Int) → Option (Bool)) (a0 : ByteArray) : Option (Bool) :=
    (c0 a0 0)
theorem F.pleachref05_Is.eq K a0 : F.pleachref05_Is (K + 1) a0 = F.pleachref05_Is.B (F.pleachref05_Is.l1010 K K) a0 := (F.pleachref05_Is.in_main K a0).trans ((show ∀ H, F.pleachref05_Is.in K H [] [] ⟨slots [.sc (.val (.string a0))] 0, []⟩ = F.pleachref05_Is.B (fun a0 x0 => H [1, 0, 1, 0] [K] (F.pleachref05_Is.l1010.st a0 x0)) a0 from by intro H; kernel_rfl) (F.pleachref05_Is.at K))
noncomputable def V.pleachref05_Is.l1010 (a0 : ByteArray) (x0 : Int) := lim fun v => F.pleachref05_Is.l1010 (v 0) (v 1) a0 x0
noncomputable def V.pleachref05_Is (a0 : ByteArray) := lim fun v => F.pleachref05_Is (v 0) a0
theorem V.pleachref05_Is.l1010.of a0 x0 {r} (h : F.pleachref05_Is.l1010.B V.pleachref05_Is.l1010 a0 x0 = some r) : V.pleachref05_Is.l1010 a0 x0 = some r :=
  App.to (App.step 1 (fun v => F.pleachref05_Is.l1010.eq (v 0) (v 1) a0 x0) (by unfold F.pleachref05_Is.l1010.B; repeat' first | exact App.val | exact App.no | exact App.lim | apply App.cond | apply App.guard | apply App.meet | apply App.ite | refine App.bind ?_ fun _ => ?_)) h
theorem V.pleachref05_Is.of a0 {r} (h : F.pleachref05_Is.B V.pleachref05_Is.l1010 a0 = some r) : V.pleachref05_Is a0 = some r :=
  App.to (App.step 0 (fun v => F.pleachref05_Is.eq (v 0) a0) (by unfold F.pleachref05_Is.B; repeat' first | exact App.val | exact App.no | exact App.lim | exact (App.enter 1 App.lim) | apply App.cond | apply App.guard | apply App.meet | apply App.ite | refine App.bind ?_ fun _ => ?_)) h
noncomputable def F.pleachref06_Is (K : Nat) (a0 : TValue) : Option (Bool) := evFn Try.prog sg K 35 [.agg [.val (.int .i64 a0.1), .val (.int .i64 a0.2.1), .val (.string a0.2.2)]] []
noncomputable def F.pleachref06_Is.B (a0 : TValue) : Option (Bool) :=
    (bif (a0.1 == 1) then (bif (decide (a0.2.1 ≥ 0)) then (bif (decide (a0.2.1 ≤ 1)) then (some (strEq a0.2.2 (⟨#[]⟩ : ByteArray))) else (some false)) else (some false)) else (bif (a0.1 == 2) then (some (strEq a0.2.2 (⟨#[]⟩ : ByteArray))) else (bif (a0.1 == 3) then (bif (a0.2.1 == 0) then (some (decide ((a0.2.2.size : Int) ≤ 64))) else (some false)) else (some false))))
theorem F.pleachref06_Is.eq K a0 : F.pleachref06_Is (K + 1) a0 = F.pleachref06_Is.B a0 := by kernel_rfl
noncomputable def V.pleachref06_Is (a0 : TValue) := lim fun v => F.pleachref06_Is (v 0) a0
theorem V.pleachref06_Is.of a0 {r} (h : F.pleachref06_Is.B a0 = some r) : V.pleachref06_Is a0 = some r :=
  App.to (App.step 0 (fun v => F.pleachref06_Is.eq (v 0) a0) (by unfold F.pleachref06_Is.B; repeat' first | exact App.val | exact App.no | exact App.lim | apply App.cond | apply App.guard | apply App.meet | apply App.ite | refine App.bind ?_ fun _ => ?_)) h
noncomputable def F.pleachref25_Props (K : Nat) (a0 : List TProp) : Option (Int) := evFn Try.prog sg K 8 [.sc (.list sProp a0 false)] []
noncomputable def F.pleachref25_Props.at (K : Nat) (p ns : List Nat) (s : St) : Option (Int) := atFn Try.prog sg K 8 0 p ns s
noncomputable def F.pleachref25_Props.in (K : Nat) (H : List Nat → List Nat → St → Option (Int)) (p ns : List Nat) (s : St) : Option (Int) := inFn Try.prog sg K 8 0 [] H p ns s
theorem F.pleachref25_Props.in_eq K p ns s : F.pleachref25_Props.at K p ns s = F.pleachref25_Props.in K (F.pleachref25_Props.at K) p ns s := atFn_eq (P := Try.prog) (sg := sg) (K := K) (f := 8) (m := 0) [] p ns s
theorem F.pleachref25_Props.in_main K a0 : F.pleachref25_Props (K + 1) a0 = F.pleachref25_Props.in K (F.pleachref25_Props.at K) [] [] ⟨slots [.sc (.list sProp a0 false)] 0, []⟩ := evFn_eq (P := Try.prog) (sg := sg) (K := K) (f := 8) (args := [.sc (.list sProp a0 false)]) (σ := []) [] (by kernel_rfl)
def F.pleachref25_Props.l11010.st (a0 : List TProp) (x0 : Int) : St := ⟨[(0, vL sProp a0), (3, vI x0)], []⟩
noncomputable def F.pleachref25_Props.l11010 (K n0 : Nat) (a0 : List TProp) (x0 : Int) := F.pleachref25_Props.at K [1, 1, 0, 1, 0] [n0] (F.pleachref25_Props.l11010.st a0 x0)
noncomputable def F.pleachref25_Props.l11010.B (c0 : (ByteArray) → Option (Bool)) (c1 : (TValue) → Option (Bool)) (c2 : (List TProp) → (Int) → Option (Int)) (a0 : List TProp) (x0 : Int) : Option (Int) :=
    (bif (decide (x0 < (a0.length : Int))) then (guardK (decide (0 ≤ x0) && decide (x0 < (a0.length : Int))) ((c0 ((rd sProp a0 x0.toNat).1)).bind fun t0 => (bif (!t0) then (some 2) else (guardK (decide (0 ≤ x0) && decide (x0 < (a0.length : Int))) ((c1 (((rd sProp a0 x0.toNat).2).1, (((rd sProp a0 x0.toNat).2).2).1, (((rd sProp a0 x0.toNat).2).2).2)).bind fun t1 => (bif (!t1) then (some 2) else (bif (decide (x0 > 0)) then (guardK (decide (0 ≤ x0) && decide (x0 < (a0.length : Int))) (guardK (decide (0 ≤ (w64 (x0 - 1))) && decide ((w64 (x0 - 1)) < (a0.length : Int))) (bif (strLt ((rd sProp a0 x0.toNat).1) ((rd sProp a0 ((w64 (x0 - 1)).toNat)).1) || strEq ((rd sProp a0 x0.toNat).1) ((rd sProp a0 ((w64 (x0 - 1)).toNat)).1)) then (some 4) else (c2 a0 (w64 (x0 + 1)))))) else (c2 a0 (w64 (x0 + 1)))))))))) else (some 0))
theorem F.pleachref25_Props.l11010.eq K n0 a0 x0 : F.pleachref25_Props.l11010 K (n0 + 1) a0 x0 = F.pleachref25_Props.l11010.B (F.pleachref05_Is K) (F.pleachref06_Is K) (F.pleachref25_Props.l11010 K n0) a0 x0 := (F.pleachref25_Props.in_eq K [1, 1, 0, 1, 0] [n0 + 1] (F.pleachref25_Props.l11010.st a0 x0)).trans ((show ∀ H, F.pleachref25_Props.in K H [1, 1, 0, 1, 0] [n0 + 1] (F.pleachref25_Props.l11010.st a0 x0) = F.pleachref25_Props.l11010.B (F.pleachref05_Is K) (F.pleachref06_Is K) (fun a0 x0 => H [1, 1, 0, 1, 0] [n0] (F.pleachref25_Props.l11010.st a0 x0)) a0 x0 from by intro H; kernel_rfl) (F.pleachref25_Props.at K))
noncomputable def F.pleachref25_Props.B (c0 : (List TProp) → (Int) → Option (Int)) (a0 : List TProp) : Option (Int) :=
    (bif (decide ((a0.length : Int) > 8)) then (some 5) else (c0 a0 0))
theorem F.pleachref25_Props.eq K a0 : F.pleachref25_Props (K + 1) a0 = F.pleachref25_Props.B (F.pleachref25_Props.l11010 K K) a0 := (F.pleachref25_Props.in_main K a0).trans ((show ∀ H, F.pleachref25_Props.in K H [] [] ⟨slots [.sc (.list sProp a0 false)] 0, []⟩ = F.pleachref25_Props.B (fun a0 x0 => H [1, 1, 0, 1, 0] [K] (F.pleachref25_Props.l11010.st a0 x0)) a0 from by intro H; kernel_rfl) (F.pleachref25_Props.at K))
noncomputable def V.pleachref25_Props.l11010 (a0 : List TProp) (x0 : Int) := lim fun v => F.pleachref25_Props.l11010 (v 0) (v 1) a0 x0
noncomputable def V.pleachref25_Props (a0 : List TProp) := lim fun v => F.pleachref25_Props (v 0) a0
theorem V.pleachref25_Props.l11010.of a0 x0 {r} (h : F.pleachref25_Props.l11010.B V.pleachref05_Is V.pleachref06_Is V.pleachref25_Props.l11010 a0 x0 = some r) : V.pleachref25_Props.l11010 a0 x0 = some r :=
  App.to (App.step 1 (fun v => F.pleachref25_Props.l11010.eq (v 0) (v 1) a0 x0) (by unfold F.pleachref25_Props.l11010.B; repeat' first | exact App.val | exact App.no | exact App.lim | apply App.cond | apply App.guard | apply App.meet | apply App.ite | refine App.bind ?_ fun _ => ?_)) h
theorem V.pleachref25_Props.of a0 {r} (h : F.pleachref25_Props.B V.pleachref25_Props.l11010 a0 = some r) : V.pleachref25_Props a0 = some r :=
  App.to (App.step 0 (fun v => F.pleachref25_Props.eq (v 0) a0) (by unfold F.pleachref25_Props.B; repeat' first | exact App.val | exact App.no | exact App.lim | exact (App.enter 1 App.lim) | apply App.cond | apply App.guard | apply App.meet | apply App.ite | refine App.bind ?_ fun _ => ?_)) h
noncomputable def F.slices_Clone_apiPropapiProp (K : Nat) (a0 : List TProp) : Option ((List TProp)) := evFn Try.prog sg K 39 [.sc (.list sProp a0 false)] []
noncomputable def F.slices_Clone_apiPropapiProp.B (a0 : List TProp) : Option ((List TProp)) :=
    (bif a0.isEmpty then meet (some ([])) (guardK (decide (0 + a0.length ≤ nmax)) (some ([] ++ a0))) else (guardK (decide (0 + a0.length ≤ nmax)) (some ([] ++ a0))))
theorem F.slices_Clone_apiPropapiProp.eq K a0 : F.slices_Clone_apiPropapiProp (K + 1) a0 = F.slices_Clone_apiPropapiProp.B a0 := by kernel_rfl
noncomputable def V.slices_Clone_apiPropapiProp (a0 : List TProp) := lim fun v => F.slices_Clone_apiPropapiProp (v 0) a0
theorem V.slices_Clone_apiPropapiProp.of a0 {r} (h : F.slices_Clone_apiPropapiProp.B a0 = some r) : V.slices_Clone_apiPropapiProp a0 = some r :=
  App.to (App.step 0 (fun v => F.slices_Clone_apiPropapiProp.eq (v 0) a0) (by unfold F.slices_Clone_apiPropapiProp.B; repeat' first | exact App.val | exact App.no | exact App.lim | apply App.cond | apply App.guard | apply App.meet | apply App.ite | refine App.bind ?_ fun _ => ?_)) h
noncomputable def F.cmp_isNaN_string (K : Nat) (a0 : ByteArray) : Option (Bool) := evFn Try.prog sg K 93 [.sc (.val (.string a0))] []
noncomputable def F.cmp_isNaN_string.B (a0 : ByteArray) : Option (Bool) :=
    (some (!strEq a0 a0))
theorem F.cmp_isNaN_string.eq K a0 : F.cmp_isNaN_string (K + 1) a0 = F.cmp_isNaN_string.B a0 := by kernel_rfl
noncomputable def V.cmp_isNaN_string (a0 : ByteArray) := lim fun v => F.cmp_isNaN_string (v 0) a0
theorem V.cmp_isNaN_string.of a0 {r} (h : F.cmp_isNaN_string.B a0 = some r) : V.cmp_isNaN_string a0 = some r :=
  App.to (App.step 0 (fun v => F.cmp_isNaN_string.eq (v 0) a0) (by unfold F.cmp_isNaN_string.B; repeat' first | exact App.val | exact App.no | exact App.lim | apply App.cond | apply App.guard | apply App.meet | apply App.ite | refine App.bind ?_ fun _ => ?_)) h
noncomputable def F.cmp_Compare_string (K : Nat) (a0 : ByteArray) (a1 : ByteArray) : Option (Int) := evFn Try.prog sg K 69 [.sc (.val (.string a0)), .sc (.val (.string a1))] []
noncomputable def F.cmp_Compare_string.B (c0 : (ByteArray) → Option (Bool)) (a0 : ByteArray) (a1 : ByteArray) : Option (Int) :=
    ((c0 a0).bind fun t0 => ((c0 a1).bind fun t1 => (bif t0 then (bif t1 then (some 0) else (some (-1))) else (bif t1 then (some 1) else (bif (strLt a0 a1) then (some (-1)) else (bif (!(strLt a0 a1 || strEq a0 a1)) then (some 1) else (some 0)))))))
theorem F.cmp_Compare_string.eq K a0 a1 : F.cmp_Compare_string (K + 1) a0 a1 = F.cmp_Compare_string.B (F.cmp_isNaN_string K) a0 a1 := by kernel_rfl
noncomputable def V.cmp_Compare_string (a0 : ByteArray) (a1 : ByteArray) := lim fun v => F.cmp_Compare_string (v 0) a0 a1
theorem V.cmp_Compare_string.of a0 a1 {r} (h : F.cmp_Compare_string.B V.cmp_isNaN_string a0 a1 = some r) : V.cmp_Compare_string a0 a1 = some r :=
  App.to (App.step 0 (fun v => F.cmp_Compare_string.eq (v 0) a0 a1) (by unfold F.cmp_Compare_string.B; repeat' first | exact App.val | exact App.no | exact App.lim | apply App.cond | apply App.guard | apply App.meet | apply App.ite | refine App.bind ?_ fun _ => ?_)) h
noncomputable def F.elem_find_1 (K : Nat) (a0 : TProp) (a1 : ByteArray) : Option (Int) := evFn Try.prog sg K 68 [.agg [.val (.string a0.1), .val (.int .i64 a0.2.1), .val (.int .i64 a0.2.2.1), .val (.string a0.2.2.2)], .sc (.val (.string a1))] []
noncomputable def F.elem_find_1.B (c0 : (ByteArray) → (ByteArray) → Option (Int)) (a0 : TProp) (a1 : ByteArray) : Option (Int) :=
    ((c0 a0.1 a1).bind fun t0 => (some t0))
theorem F.elem_find_1.eq K a0 a1 : F.elem_find_1 (K + 1) a0 a1 = F.elem_find_1.B (F.cmp_Compare_string K) a0 a1 := by kernel_rfl
noncomputable def V.elem_find_1 (a0 : TProp) (a1 : ByteArray) := lim fun v => F.elem_find_1 (v 0) a0 a1
theorem V.elem_find_1.of a0 a1 {r} (h : F.elem_find_1.B V.cmp_Compare_string a0 a1 = some r) : V.elem_find_1 a0 a1 = some r :=
  App.to (App.step 0 (fun v => F.elem_find_1.eq (v 0) a0 a1) (by unfold F.elem_find_1.B; repeat' first | exact App.val | exact App.no | exact App.lim | apply App.cond | apply App.guard | apply App.meet | apply App.ite | refine App.bind ?_ fun _ => ?_)) h
noncomputable def F.slices_BinarySearchFunc_apiPropapiPropstring_by_elem_find_1 (K : Nat) (a0 : List TProp) (a1 : ByteArray) : Option (Int × Bool) := evFn Try.prog sg K 67 [.sc (.list sProp a0 false), .sc (.val (.string a1)), .sc (.fn 68 [])] []
noncomputable def F.slices_BinarySearchFunc_apiPropapiPropstring_by_elem_find_1.at (K : Nat) (p ns : List Nat) (s : St) : Option (Int × Bool) := atFn Try.prog sg K 67 0 p ns s
noncomputable def F.slices_BinarySearchFunc_apiPropapiPropstring_by_elem_find_1.in (K : Nat) (H : List Nat → List Nat → St → Option (Int × Bool)) (p ns : List Nat) (s : St) : Option (Int × Bool) := inFn Try.prog sg K 67 0 [] H p ns s
theorem F.slices_BinarySearchFunc_apiPropapiPropstring_by_elem_find_1.in_eq K p ns s : F.slices_BinarySearchFunc_apiPropapiPropstring_by_elem_find_1.at K p ns s = F.slices_BinarySearchFunc_apiPropapiPropstring_by_elem_find_1.in K (F.slices_BinarySearchFunc_apiPropapiPropstring_by_elem_find_1.at K) p ns s := atFn_eq (P := Try.prog) (sg := sg) (K := K) (f := 67) (m := 0) [] p ns s
theorem F.slices_BinarySearchFunc_apiPropapiPropstring_by_elem_find_1.in_main K a0 a1 : F.slices_BinarySearchFunc_apiPropapiPropstring_by_elem_find_1 (K + 1) a0 a1 = F.slices_BinarySearchFunc_apiPropapiPropstring_by_elem_find_1.in K (F.slices_BinarySearchFunc_apiPropapiPropstring_by_elem_find_1.at K) [] [] ⟨slots [.sc (.list sProp a0 false), .sc (.val (.string a1)), .sc (.fn 68 [])] 0, []⟩ := evFn_eq (P := Try.prog) (sg := sg) (K := K) (f := 67) (args := [.sc (.list sProp a0 false), .sc (.val (.string a1)), .sc (.fn 68 [])]) (σ := []) [] (by kernel_rfl)
def F.slices_BinarySearchFunc_apiPropapiPropstring_by_elem_find_1.l11100.st (a0 : List TProp) (a1 : ByteArray) (x0 : Int) (x1 : Int) : St := ⟨[(0, vL sProp a0), (1, vS a1), (2, .one (.sc (.fn 68 []))), (8, vI (a0.length : Int)), (9, vI x0), (10, vI x1)], []⟩
noncomputable def F.slices_BinarySearchFunc_apiPropapiPropstring_by_elem_find_1.l11100 (K n0 : Nat) (a0 : List TProp) (a1 : ByteArray) (x0 : Int) (x1 : Int) := F.slices_BinarySearchFunc_apiPropapiPropstring_by_elem_find_1.at K [1, 1, 1, 0, 0] [n0] (F.slices_BinarySearchFunc_apiPropapiPropstring_by_elem_find_1.l11100.st a0 a1 x0 x1)
noncomputable def F.slices_BinarySearchFunc_apiPropapiPropstring_by_elem_find_1.l11100.B (c0 : (TProp) → (ByteArray) → Option (Int)) (c1 : (List TProp) → (ByteArray) → (Int) → (Int) → Option (Int × Bool)) (a0 : List TProp) (a1 : ByteArray) (x0 : Int) (x1 : Int) : Option (Int × Bool) :=
    (bif (decide (x0 < x1)) then (guardK (decide (0 ≤ (w64 (Int.fdiv (IntKind.wrap .u64 (w64 (x0 + x1))) (2 ^ 1)))) && decide ((w64 (Int.fdiv (IntKind.wrap .u64 (w64 (x0 + x1))) (2 ^ 1))) < (a0.length : Int))) ((c0 ((rd sProp a0 ((w64 (Int.fdiv (IntKind.wrap .u64 (w64 (x0 + x1))) (2 ^ 1))).toNat)).1, ((rd sProp a0 ((w64 (Int.fdiv (IntKind.wrap .u64 (w64 (x0 + x1))) (2 ^ 1))).toNat)).2).1, (((rd sProp a0 ((w64 (Int.fdiv (IntKind.wrap .u64 (w64 (x0 + x1))) (2 ^ 1))).toNat)).2).2).1, (((rd sProp a0 ((w64 (Int.fdiv (IntKind.wrap .u64 (w64 (x0 + x1))) (2 ^ 1))).toNat)).2).2).2) a1).bind fun t0 => (bif (decide (t0 < 0)) then (c1 a0 a1 (w64 ((w64 (Int.fdiv (IntKind.wrap .u64 (w64 (x0 + x1))) (2 ^ 1))) + 1)) x1) else (c1 a0 a1 x0 (w64 (Int.fdiv (IntKind.wrap .u64 (w64 (x0 + x1))) (2 ^ 1))))))) else (bif (decide (x0 < (a0.length : Int))) then (guardK (decide (0 ≤ x0) && decide (x0 < (a0.length : Int))) ((c0 ((rd sProp a0 x0.toNat).1, ((rd sProp a0 x0.toNat).2).1, (((rd sProp a0 x0.toNat).2).2).1, (((rd sProp a0 x0.toNat).2).2).2) a1).bind fun t1 => (some (x0, (t1 == 0))))) else (some (x0, false))))
theorem F.slices_BinarySearchFunc_apiPropapiPropstring_by_elem_find_1.l11100.eq K n0 a0 a1 x0 x1 : F.slices_BinarySearchFunc_apiPropapiPropstring_by_elem_find_1.l11100 K (n0 + 1) a0 a1 x0 x1 = F.slices_BinarySearchFunc_apiPropapiPropstring_by_elem_find_1.l11100.B (F.elem_find_1 K) (F.slices_BinarySearchFunc_apiPropapiPropstring_by_elem_find_1.l11100 K n0) a0 a1 x0 x1 := (F.slices_BinarySearchFunc_apiPropapiPropstring_by_elem_find_1.in_eq K [1, 1, 1, 0, 0] [n0 + 1] (F.slices_BinarySearchFunc_apiPropapiPropstring_by_elem_find_1.l11100.st a0 a1 x0 x1)).trans ((show ∀ H, F.slices_BinarySearchFunc_apiPropapiPropstring_by_elem_find_1.in K H [1, 1, 1, 0, 0] [n0 + 1] (F.slices_BinarySearchFunc_apiPropapiPropstring_by_elem_find_1.l11100.st a0 a1 x0 x1) = F.slices_BinarySearchFunc_apiPropapiPropstring_by_elem_find_1.l11100.B (F.elem_find_1 K) (fun a0 a1 x0 x1 => H [1, 1, 1, 0, 0] [n0] (F.slices_BinarySearchFunc_apiPropapiPropstring_by_elem_find_1.l11100.st a0 a1 x0 x1)) a0 a1 x0 x1 from by intro H; kernel_rfl) (F.slices_BinarySearchFunc_apiPropapiPropstring_by_elem_find_1.at K))
noncomputable def F.slices_BinarySearchFunc_apiPropapiPropstring_by_elem_find_1.B (c0 : (List TProp) → (ByteArray) → (Int) → (Int) → Option (Int × Bool)) (a0 : List TProp) (a1 : ByteArray) : Option (Int × Bool) :=
    (c0 a0 a1 0 (a0.length : Int))
theorem F.slices_BinarySearchFunc_apiPropapiPropstring_by_elem_find_1.eq K a0 a1 : F.slices_BinarySearchFunc_apiPropapiPropstring_by_elem_find_1 (K + 1) a0 a1 = F.slices_BinarySearchFunc_apiPropapiPropstring_by_elem_find_1.B (F.slices_BinarySearchFunc_apiPropapiPropstring_by_elem_find_1.l11100 K K) a0 a1 := (F.slices_BinarySearchFunc_apiPropapiPropstring_by_elem_find_1.in_main K a0 a1).trans ((show ∀ H, F.slices_BinarySearchFunc_apiPropapiPropstring_by_elem_find_1.in K H [] [] ⟨slots [.sc (.list sProp a0 false), .sc (.val (.string a1)), .sc (.fn 68 [])] 0, []⟩ = F.slices_BinarySearchFunc_apiPropapiPropstring_by_elem_find_1.B (fun a0 a1 x0 x1 => H [1, 1, 1, 0, 0] [K] (F.slices_BinarySearchFunc_apiPropapiPropstring_by_elem_find_1.l11100.st a0 a1 x0 x1)) a0 a1 from by intro H; kernel_rfl) (F.slices_BinarySearchFunc_apiPropapiPropstring_by_elem_find_1.at K))
noncomputable def V.slices_BinarySearchFunc_apiPropapiPropstring_by_elem_find_1.l11100 (a0 : List TProp) (a1 : ByteArray) (x0 : Int) (x1 : Int) := lim fun v => F.slices_BinarySearchFunc_apiPropapiPropstring_by_elem_find_1.l11100 (v 0) (v 1) a0 a1 x0 x1
noncomputable def V.slices_BinarySearchFunc_apiPropapiPropstring_by_elem_find_1 (a0 : List TProp) (a1 : ByteArray) := lim fun v => F.slices_BinarySearchFunc_apiPropapiPropstring_by_elem_find_1 (v 0) a0 a1
theorem V.slices_BinarySearchFunc_apiPropapiPropstring_by_elem_find_1.l11100.of a0 a1 x0 x1 {r} (h : F.slices_BinarySearchFunc_apiPropapiPropstring_by_elem_find_1.l11100.B V.elem_find_1 V.slices_BinarySearchFunc_apiPropapiPropstring_by_elem_find_1.l11100 a0 a1 x0 x1 = some r) : V.slices_BinarySearchFunc_apiPropapiPropstring_by_elem_find_1.l11100 a0 a1 x0 x1 = some r :=
  App.to (App.step 1 (fun v => F.slices_BinarySearchFunc_apiPropapiPropstring_by_elem_find_1.l11100.eq (v 0) (v 1) a0 a1 x0 x1) (by unfold F.slices_BinarySearchFunc_apiPropapiPropstring_by_elem_find_1.l11100.B; repeat' first | exact App.val | exact App.no | exact App.lim | apply App.cond | apply App.guard | apply App.meet | apply App.ite | refine App.bind ?_ fun _ => ?_)) h
theorem V.slices_BinarySearchFunc_apiPropapiPropstring_by_elem_find_1.of a0 a1 {r} (h : F.slices_BinarySearchFunc_apiPropapiPropstring_by_elem_find_1.B V.slices_BinarySearchFunc_apiPropapiPropstring_by_elem_find_1.l11100 a0 a1 = some r) : V.slices_BinarySearchFunc_apiPropapiPropstring_by_elem_find_1 a0 a1 = some r :=
  App.to (App.step 0 (fun v => F.slices_BinarySearchFunc_apiPropapiPropstring_by_elem_find_1.eq (v 0) a0 a1) (by unfold F.slices_BinarySearchFunc_apiPropapiPropstring_by_elem_find_1.B; repeat' first | exact App.val | exact App.no | exact App.lim | exact (App.enter 1 App.lim) | apply App.cond | apply App.guard | apply App.meet | apply App.ite | refine App.bind ?_ fun _ => ?_)) h
noncomputable def F.elem_find (K : Nat) (a0 : List TProp) (a1 : ByteArray) : Option (Int × Bool) := evFn Try.prog sg K 40 [.sc (.list sProp a0 false), .sc (.val (.string a1))] []
noncomputable def F.elem_find.B (c0 : (List TProp) → (ByteArray) → Option (Int × Bool)) (a0 : List TProp) (a1 : ByteArray) : Option (Int × Bool) :=
    ((c0 a0 a1).bind fun t0 => (some (t0.1, t0.2)))
theorem F.elem_find.eq K a0 a1 : F.elem_find (K + 1) a0 a1 = F.elem_find.B (F.slices_BinarySearchFunc_apiPropapiPropstring_by_elem_find_1 K) a0 a1 := by kernel_rfl
noncomputable def V.elem_find (a0 : List TProp) (a1 : ByteArray) := lim fun v => F.elem_find (v 0) a0 a1
theorem V.elem_find.of a0 a1 {r} (h : F.elem_find.B V.slices_BinarySearchFunc_apiPropapiPropstring_by_elem_find_1 a0 a1 = some r) : V.elem_find a0 a1 = some r :=
  App.to (App.step 0 (fun v => F.elem_find.eq (v 0) a0 a1) (by unfold F.elem_find.B; repeat' first | exact App.val | exact App.no | exact App.lim | apply App.cond | apply App.guard | apply App.meet | apply App.ite | refine App.bind ?_ fun _ => ?_)) h
noncomputable def F.slices_Insert_apiPropapiProp (K : Nat) (a0 : List TProp) (a1 : Int) (a2 : List TProp) : Option (List TProp) := evFn Try.prog sg K 41 [.sc (.own 0 none), .sc (.val (.int .i64 a1)), .sc (.own 1 none)] [.elems sProp a0, .elems sProp a2]
noncomputable def F.slices_Insert_apiPropapiProp.B (a0 : List TProp) (a1 : Int) (a2 : List TProp) : Option (List TProp) :=
    (insB a0 a1 a2)
theorem F.slices_Insert_apiPropapiProp.eq K a0 a1 a2 : F.slices_Insert_apiPropapiProp (K + 1) a0 a1 a2 = F.slices_Insert_apiPropapiProp.B a0 a1 a2 := by kernel_rfl
noncomputable def V.slices_Insert_apiPropapiProp (a0 : List TProp) (a1 : Int) (a2 : List TProp) := lim fun v => F.slices_Insert_apiPropapiProp (v 0) a0 a1 a2
theorem V.slices_Insert_apiPropapiProp.of a0 a1 a2 {r} (h : F.slices_Insert_apiPropapiProp.B a0 a1 a2 = some r) : V.slices_Insert_apiPropapiProp a0 a1 a2 = some r :=
  App.to (App.step 0 (fun v => F.slices_Insert_apiPropapiProp.eq (v 0) a0 a1 a2) App.const) h
noncomputable def F.elem_Set (K : Nat) (a0 : List TProp) (a1 : ByteArray) (a2 : TValue) : Option ((List TProp) × Int) := evFn Try.prog sg K 10 [.sc (.list sProp a0 false), .sc (.val (.string a1)), .agg [.val (.int .i64 a2.1), .val (.int .i64 a2.2.1), .val (.string a2.2.2)]] []
noncomputable def F.elem_Set.B (c0 : (ByteArray) → Option (Int)) (c1 : (TValue) → Option (Int)) (c2 : (List TProp) → Option ((List TProp))) (c3 : (List TProp) → (ByteArray) → Option (Int × Bool)) (c4 : (List TProp) → (Int) → (List TProp) → Option ((List TProp))) (a0 : List TProp) (a1 : ByteArray) (a2 : TValue) : Option ((List TProp) × Int) :=
    ((c0 a1).bind fun t0 => (bif (t0 != 0) then (some ([], 2)) else ((c1 (a2.1, a2.2.1, a2.2.2)).bind fun t1 => (bif (t1 != 0) then (some ([], 2)) else ((c2 a0).bind fun t2 => ((c3 a0 a1).bind fun t3 => (bif t3.2 then (guardK (decide (0 ≤ t3.1) && decide (t3.1 < (t2.length : Int))) (some ((t2.set t3.1.toNat ((rd sProp t2 t3.1.toNat).1, a2.1, a2.2.1, a2.2.2)), 0))) else (bif (decide ((a0.length : Int) ≥ 8)) then (some ([], 5)) else ((c4 t2 t3.1 ([(a1, a2.1, a2.2.1, a2.2.2)])).bind fun t4 => (some (t4, 0)))))))))))
theorem F.elem_Set.eq K a0 a1 a2 : F.elem_Set (K + 1) a0 a1 a2 = F.elem_Set.B (F.name_Check K) (F.value_Check K) (F.slices_Clone_apiPropapiProp K) (F.elem_find K) (F.slices_Insert_apiPropapiProp K) a0 a1 a2 := by kernel_rfl
noncomputable def V.elem_Set (a0 : List TProp) (a1 : ByteArray) (a2 : TValue) := lim fun v => F.elem_Set (v 0) a0 a1 a2
theorem V.elem_Set.of a0 a1 a2 {r} (h : F.elem_Set.B V.name_Check V.value_Check V.slices_Clone_apiPropapiProp V.elem_find V.slices_Insert_apiPropapiProp a0 a1 a2 = some r) : V.elem_Set a0 a1 a2 = some r :=
  App.to (App.step 0 (fun v => F.elem_Set.eq (v 0) a0 a1 a2) (by unfold F.elem_Set.B; repeat' first | exact App.val | exact App.no | exact App.lim | apply App.cond | apply App.guard | apply App.meet | apply App.ite | refine App.bind ?_ fun _ => ?_)) h
noncomputable def F.pleachref25_at (K : Nat) (a0 : List TProp) (a1 : ByteArray) : Option (Int) := evFn Try.prog sg K 42 [.sc (.list sProp a0 false), .sc (.val (.string a1))] []
noncomputable def F.pleachref25_at.at (K : Nat) (p ns : List Nat) (s : St) : Option (Int) := atFn Try.prog sg K 42 0 p ns s
noncomputable def F.pleachref25_at.in (K : Nat) (H : List Nat → List Nat → St → Option (Int)) (p ns : List Nat) (s : St) : Option (Int) := inFn Try.prog sg K 42 0 [] H p ns s
theorem F.pleachref25_at.in_eq K p ns s : F.pleachref25_at.at K p ns s = F.pleachref25_at.in K (F.pleachref25_at.at K) p ns s := atFn_eq (P := Try.prog) (sg := sg) (K := K) (f := 42) (m := 0) [] p ns s
theorem F.pleachref25_at.in_main K a0 a1 : F.pleachref25_at (K + 1) a0 a1 = F.pleachref25_at.in K (F.pleachref25_at.at K) [] [] ⟨slots [.sc (.list sProp a0 false), .sc (.val (.string a1))] 0, []⟩ := evFn_eq (P := Try.prog) (sg := sg) (K := K) (f := 42) (args := [.sc (.list sProp a0 false), .sc (.val (.string a1))]) (σ := []) [] (by kernel_rfl)
def F.pleachref25_at.l1010.st (a0 : List TProp) (a1 : ByteArray) (x0 : Int) : St := ⟨[(0, vL sProp a0), (1, vS a1), (5, vI x0)], []⟩
noncomputable def F.pleachref25_at.l1010 (K n0 : Nat) (a0 : List TProp) (a1 : ByteArray) (x0 : Int) := F.pleachref25_at.at K [1, 0, 1, 0] [n0] (F.pleachref25_at.l1010.st a0 a1 x0)
noncomputable def F.pleachref25_at.l1010.B (c0 : (List TProp) → (ByteArray) → (Int) → Option (Int)) (a0 : List TProp) (a1 : ByteArray) (x0 : Int) : Option (Int) :=
    (bif (decide (x0 < (a0.length : Int))) then (guardK (decide (0 ≤ x0) && decide (x0 < (a0.length : Int))) (bif (strEq ((rd sProp a0 x0.toNat).1) a1) then (some x0) else (c0 a0 a1 (w64 (x0 + 1))))) else (some (-1)))
theorem F.pleachref25_at.l1010.eq K n0 a0 a1 x0 : F.pleachref25_at.l1010 K (n0 + 1) a0 a1 x0 = F.pleachref25_at.l1010.B (F.pleachref25_at.l1010 K n0) a0 a1 x0 := (F.pleachref25_at.in_eq K [1, 0, 1, 0] [n0 + 1] (F.pleachref25_at.l1010.st a0 a1 x0)).trans ((show ∀ H, F.pleachref25_at.in K H [1, 0, 1, 0] [n0 + 1] (F.pleachref25_at.l1010.st a0 a1 x0) = F.pleachref25_at.l1010.B (fun a0 a1 x0 => H [1, 0, 1, 0] [n0] (F.pleachref25_at.l1010.st a0 a1 x0)) a0 a1 x0 from by intro H; kernel_rfl) (F.pleachref25_at.at K))
noncomputable def F.pleachref25_at.B (c0 : (List TProp) → (ByteArray) → (Int) → Option (Int)) (a0 : List TProp) (a1 : ByteArray) : Option (Int) :=
    (c0 a0 a1 0)
theorem F.pleachref25_at.eq K a0 a1 : F.pleachref25_at (K + 1) a0 a1 = F.pleachref25_at.B (F.pleachref25_at.l1010 K K) a0 a1 := (F.pleachref25_at.in_main K a0 a1).trans ((show ∀ H, F.pleachref25_at.in K H [] [] ⟨slots [.sc (.list sProp a0 false), .sc (.val (.string a1))] 0, []⟩ = F.pleachref25_at.B (fun a0 a1 x0 => H [1, 0, 1, 0] [K] (F.pleachref25_at.l1010.st a0 a1 x0)) a0 a1 from by intro H; kernel_rfl) (F.pleachref25_at.at K))
noncomputable def V.pleachref25_at.l1010 (a0 : List TProp) (a1 : ByteArray) (x0 : Int) := lim fun v => F.pleachref25_at.l1010 (v 0) (v 1) a0 a1 x0
noncomputable def V.pleachref25_at (a0 : List TProp) (a1 : ByteArray) := lim fun v => F.pleachref25_at (v 0) a0 a1
theorem V.pleachref25_at.l1010.of a0 a1 x0 {r} (h : F.pleachref25_at.l1010.B V.pleachref25_at.l1010 a0 a1 x0 = some r) : V.pleachref25_at.l1010 a0 a1 x0 = some r :=
  App.to (App.step 1 (fun v => F.pleachref25_at.l1010.eq (v 0) (v 1) a0 a1 x0) (by unfold F.pleachref25_at.l1010.B; repeat' first | exact App.val | exact App.no | exact App.lim | apply App.cond | apply App.guard | apply App.meet | apply App.ite | refine App.bind ?_ fun _ => ?_)) h
theorem V.pleachref25_at.of a0 a1 {r} (h : F.pleachref25_at.B V.pleachref25_at.l1010 a0 a1 = some r) : V.pleachref25_at a0 a1 = some r :=
  App.to (App.step 0 (fun v => F.pleachref25_at.eq (v 0) a0 a1) (by unfold F.pleachref25_at.B; repeat' first | exact App.val | exact App.no | exact App.lim | exact (App.enter 1 App.lim) | apply App.cond | apply App.guard | apply App.meet | apply App.ite | refine App.bind ?_ fun _ => ?_)) h
noncomputable def F.pleachref25_Set (K : Nat) (a0 : List TProp) (a1 : ByteArray) (a2 : TValue) : Option ((List TProp) × Int) := evFn Try.prog sg K 11 [.sc (.list sProp a0 false), .sc (.val (.string a1)), .agg [.val (.int .i64 a2.1), .val (.int .i64 a2.2.1), .val (.string a2.2.2)]] []
noncomputable def F.pleachref25_Set.at (K : Nat) (p ns : List Nat) (s : St) : Option ((List TProp) × Int) := atFn Try.prog sg K 11 0 p ns s
noncomputable def F.pleachref25_Set.in (K : Nat) (H : List Nat → List Nat → St → Option ((List TProp) × Int)) (p ns : List Nat) (s : St) : Option ((List TProp) × Int) := inFn Try.prog sg K 11 0 [] H p ns s
theorem F.pleachref25_Set.in_eq K p ns s : F.pleachref25_Set.at K p ns s = F.pleachref25_Set.in K (F.pleachref25_Set.at K) p ns s := atFn_eq (P := Try.prog) (sg := sg) (K := K) (f := 11) (m := 0) [] p ns s
theorem F.pleachref25_Set.in_main K a0 a1 a2 : F.pleachref25_Set (K + 1) a0 a1 a2 = F.pleachref25_Set.in K (F.pleachref25_Set.at K) [] [] ⟨slots [.sc (.list sProp a0 false), .sc (.val (.string a1)), .agg [.val (.int .i64 a2.1), .val (.int .i64 a2.2.1), .val (.string a2.2.2)]] 0, []⟩ := evFn_eq (P := Try.prog) (sg := sg) (K := K) (f := 11) (args := [.sc (.list sProp a0 false), .sc (.val (.string a1)), .agg [.val (.int .i64 a2.1), .val (.int .i64 a2.2.1), .val (.string a2.2.2)]]) (σ := []) [] (by kernel_rfl)
def F.pleachref25_Set.l1111010.st (a0 : List TProp) (a1 : ByteArray) (a2 : TValue) (x0 : Int) (x1 : List TProp) : St := ⟨[(0, vL sProp a0), (1, vS a1), (5, .one (.sc (.ref 0 0))), (8, .one (.sc (.own 1 none))), (9, vI x0)], [.cells 25 [.val (.int .i64 a2.1), .val (.int .i64 a2.2.1), .val (.string a2.2.2)], .elems sProp x1]⟩
noncomputable def F.pleachref25_Set.l1111010 (K n0 : Nat) (a0 : List TProp) (a1 : ByteArray) (a2 : TValue) (x0 : Int) (x1 : List TProp) := F.pleachref25_Set.at K [1, 1, 1, 1, 0, 1, 0] [n0] (F.pleachref25_Set.l1111010.st a0 a1 a2 x0 x1)
def F.pleachref25_Set.l111111010.st (a0 : List TProp) (a1 : ByteArray) (a2 : TValue) (x0 : Int) (x1 : List TProp) : St := ⟨[(0, vL sProp a0), (1, vS a1), (8, .one (.sc (.own 0 none))), (10, vI x0)], [.elems sProp x1]⟩
noncomputable def F.pleachref25_Set.l111111010 (K n0 : Nat) (a0 : List TProp) (a1 : ByteArray) (a2 : TValue) (x0 : Int) (x1 : List TProp) := F.pleachref25_Set.at K [1, 1, 1, 1, 1, 1, 0, 1, 0] [n0] (F.pleachref25_Set.l111111010.st a0 a1 a2 x0 x1)
noncomputable def F.pleachref25_Set.l1111010.B (c0 : (List TProp) → (ByteArray) → (TValue) → (Int) → (List TProp) → Option ((List TProp) × Int)) (c1 : (List TProp) → (ByteArray) → (TValue) → (Int) → (List TProp) → Option ((List TProp) × Int)) (a0 : List TProp) (a1 : ByteArray) (a2 : TValue) (x0 : Int) (x1 : List TProp) : Option ((List TProp) × Int) :=
    (bif (decide (x0 < (a0.length : Int))) then (guardK (decide (0 ≤ x0) && decide (x0 < (a0.length : Int))) (bif (strLt ((rd sProp a0 x0.toNat).1) a1) then (guardK (decide (0 ≤ x0) && decide (x0 < (a0.length : Int))) (guardK (decide (x1.length + ([((rd sProp a0 x0.toNat).1, ((rd sProp a0 x0.toNat).2).1, (((rd sProp a0 x0.toNat).2).2).1, (((rd sProp a0 x0.toNat).2).2).2)]).length ≤ nmax)) (c0 a0 a1 a2 (w64 (x0 + 1)) (x1 ++ [((rd sProp a0 x0.toNat).1, ((rd sProp a0 x0.toNat).2).1, (((rd sProp a0 x0.toNat).2).2).1, (((rd sProp a0 x0.toNat).2).2).2)])))) else (c0 a0 a1 a2 (w64 (x0 + 1)) x1))) else (guardK (decide (x1.length + ([(a1, a2.1, a2.2.1, a2.2.2)]).length ≤ nmax)) (c1 a0 a1 a2 0 (x1 ++ [(a1, a2.1, a2.2.1, a2.2.2)]))))
theorem F.pleachref25_Set.l1111010.eq K n0 a0 a1 a2 x0 x1 : F.pleachref25_Set.l1111010 K (n0 + 1) a0 a1 a2 x0 x1 = F.pleachref25_Set.l1111010.B (F.pleachref25_Set.l1111010 K n0) (F.pleachref25_Set.l111111010 K K) a0 a1 a2 x0 x1 := (F.pleachref25_Set.in_eq K [1, 1, 1, 1, 0, 1, 0] [n0 + 1] (F.pleachref25_Set.l1111010.st a0 a1 a2 x0 x1)).trans ((show ∀ H, F.pleachref25_Set.in K H [1, 1, 1, 1, 0, 1, 0] [n0 + 1] (F.pleachref25_Set.l1111010.st a0 a1 a2 x0 x1) = F.pleachref25_Set.l1111010.B (fun a0 a1 a2 x0 x1 => H [1, 1, 1, 1, 0, 1, 0] [n0] (F.pleachref25_Set.l1111010.st a0 a1 a2 x0 x1)) (fun a0 a1 a2 x0 x1 => H [1, 1, 1, 1, 1, 1, 0, 1, 0] [K] (F.pleachref25_Set.l111111010.st a0 a1 a2 x0 x1)) a0 a1 a2 x0 x1 from by intro H; kernel_rfl) (F.pleachref25_Set.at K))
noncomputable def F.pleachref25_Set.l111111010.B (c0 : (List TProp) → (ByteArray) → (TValue) → (Int) → (List TProp) → Option ((List TProp) × Int)) (a0 : List TProp) (a1 : ByteArray) (a2 : TValue) (x0 : Int) (x1 : List TProp) : Option ((List TProp) × Int) :=
    (bif (decide (x0 < (a0.length : Int))) then (guardK (decide (0 ≤ x0) && decide (x0 < (a0.length : Int))) (bif (!(strLt ((rd sProp a0 x0.toNat).1) a1 || strEq ((rd sProp a0 x0.toNat).1) a1)) then (guardK (decide (0 ≤ x0) && decide (x0 < (a0.length : Int))) (guardK (decide (x1.length + ([((rd sProp a0 x0.toNat).1, ((rd sProp a0 x0.toNat).2).1, (((rd sProp a0 x0.toNat).2).2).1, (((rd sProp a0 x0.toNat).2).2).2)]).length ≤ nmax)) (c0 a0 a1 a2 (w64 (x0 + 1)) (x1 ++ [((rd sProp a0 x0.toNat).1, ((rd sProp a0 x0.toNat).2).1, (((rd sProp a0 x0.toNat).2).2).1, (((rd sProp a0 x0.toNat).2).2).2)])))) else (c0 a0 a1 a2 (w64 (x0 + 1)) x1))) else (some (x1, 0)))
theorem F.pleachref25_Set.l111111010.eq K n0 a0 a1 a2 x0 x1 : F.pleachref25_Set.l111111010 K (n0 + 1) a0 a1 a2 x0 x1 = F.pleachref25_Set.l111111010.B (F.pleachref25_Set.l111111010 K n0) a0 a1 a2 x0 x1 := (F.pleachref25_Set.in_eq K [1, 1, 1, 1, 1, 1, 0, 1, 0] [n0 + 1] (F.pleachref25_Set.l111111010.st a0 a1 a2 x0 x1)).trans ((show ∀ H, F.pleachref25_Set.in K H [1, 1, 1, 1, 1, 1, 0, 1, 0] [n0 + 1] (F.pleachref25_Set.l111111010.st a0 a1 a2 x0 x1) = F.pleachref25_Set.l111111010.B (fun a0 a1 a2 x0 x1 => H [1, 1, 1, 1, 1, 1, 0, 1, 0] [n0] (F.pleachref25_Set.l111111010.st a0 a1 a2 x0 x1)) a0 a1 a2 x0 x1 from by intro H; kernel_rfl) (F.pleachref25_Set.at K))
noncomputable def F.pleachref25_Set.B (c0 : (ByteArray) → Option (Bool)) (c1 : (TValue) → Option (Bool)) (c2 : (List TProp) → (ByteArray) → Option (Int)) (c3 : (List TProp) → (ByteArray) → (TValue) → (Int) → (List TProp) → Option ((List TProp) × Int)) (a0 : List TProp) (a1 : ByteArray) (a2 : TValue) : Option ((List TProp) × Int) :=
    ((c0 a1).bind fun t0 => (bif (!t0) then (some ([], 2)) else ((c1 (a2.1, a2.2.1, a2.2.2)).bind fun t1 => (bif (!t1) then (some ([], 2)) else ((c2 a0 a1).bind fun t2 => (bif (decide (t2 < 0)) then (bif (decide ((a0.length : Int) ≥ 8)) then (some ([], 5)) else (c3 a0 a1 a2 0 ([]))) else (c3 a0 a1 a2 0 ([]))))))))
theorem F.pleachref25_Set.eq K a0 a1 a2 : F.pleachref25_Set (K + 1) a0 a1 a2 = F.pleachref25_Set.B (F.pleachref05_Is K) (F.pleachref06_Is K) (F.pleachref25_at K) (F.pleachref25_Set.l1111010 K K) a0 a1 a2 := (F.pleachref25_Set.in_main K a0 a1 a2).trans ((show ∀ H, F.pleachref25_Set.in K H [] [] ⟨slots [.sc (.list sProp a0 false), .sc (.val (.string a1)), .agg [.val (.int .i64 a2.1), .val (.int .i64 a2.2.1), .val (.string a2.2.2)]] 0, []⟩ = F.pleachref25_Set.B (F.pleachref05_Is K) (F.pleachref06_Is K) (F.pleachref25_at K) (fun a0 a1 a2 x0 x1 => H [1, 1, 1, 1, 0, 1, 0] [K] (F.pleachref25_Set.l1111010.st a0 a1 a2 x0 x1)) a0 a1 a2 from by intro H; kernel_rfl) (F.pleachref25_Set.at K))
noncomputable def V.pleachref25_Set.l1111010 (a0 : List TProp) (a1 : ByteArray) (a2 : TValue) (x0 : Int) (x1 : List TProp) := lim fun v => F.pleachref25_Set.l1111010 (v 0) (v 1) a0 a1 a2 x0 x1
noncomputable def V.pleachref25_Set.l111111010 (a0 : List TProp) (a1 : ByteArray) (a2 : TValue) (x0 : Int) (x1 : List TProp) := lim fun v => F.pleachref25_Set.l111111010 (v 0) (v 1) a0 a1 a2 x0 x1
noncomputable def V.pleachref25_Set (a0 : List TProp) (a1 : ByteArray) (a2 : TValue) := lim fun v => F.pleachref25_Set (v 0) a0 a1 a2
theorem V.pleachref25_Set.l1111010.of a0 a1 a2 x0 x1 {r} (h : F.pleachref25_Set.l1111010.B V.pleachref25_Set.l1111010 V.pleachref25_Set.l111111010 a0 a1 a2 x0 x1 = some r) : V.pleachref25_Set.l1111010 a0 a1 a2 x0 x1 = some r :=
  App.to (App.step 1 (fun v => F.pleachref25_Set.l1111010.eq (v 0) (v 1) a0 a1 a2 x0 x1) (by unfold F.pleachref25_Set.l1111010.B; repeat' first | exact App.val | exact App.no | exact App.lim | exact (App.enter 1 App.lim) | apply App.cond | apply App.guard | apply App.meet | apply App.ite | refine App.bind ?_ fun _ => ?_)) h
theorem V.pleachref25_Set.l111111010.of a0 a1 a2 x0 x1 {r} (h : F.pleachref25_Set.l111111010.B V.pleachref25_Set.l111111010 a0 a1 a2 x0 x1 = some r) : V.pleachref25_Set.l111111010 a0 a1 a2 x0 x1 = some r :=
  App.to (App.step 1 (fun v => F.pleachref25_Set.l111111010.eq (v 0) (v 1) a0 a1 a2 x0 x1) (by unfold F.pleachref25_Set.l111111010.B; repeat' first | exact App.val | exact App.no | exact App.lim | apply App.cond | apply App.guard | apply App.meet | apply App.ite | refine App.bind ?_ fun _ => ?_)) h
theorem V.pleachref25_Set.of a0 a1 a2 {r} (h : F.pleachref25_Set.B V.pleachref05_Is V.pleachref06_Is V.pleachref25_at V.pleachref25_Set.l1111010 a0 a1 a2 = some r) : V.pleachref25_Set a0 a1 a2 = some r :=
  App.to (App.step 0 (fun v => F.pleachref25_Set.eq (v 0) a0 a1 a2) (by unfold F.pleachref25_Set.B; repeat' first | exact App.val | exact App.no | exact App.lim | exact (App.enter 1 App.lim) | apply App.cond | apply App.guard | apply App.meet | apply App.ite | refine App.bind ?_ fun _ => ?_)) h
noncomputable def F.slices_Delete_apiPropapiProp (K : Nat) (a0 : List TProp) (a1 : Int) (a2 : Int) : Option ((List TProp)) := evFn Try.prog sg K 43 [.sc (.own 0 none), .sc (.val (.int .i64 a1)), .sc (.val (.int .i64 a2))] [.elems sProp a0]
noncomputable def F.slices_Delete_apiPropapiProp.B (a0 : List TProp) (a1 : Int) (a2 : Int) : Option ((List TProp)) :=
    (guardK (decide (0 ≤ a1) && decide (a1 ≤ a2) && decide (a2 ≤ (a0.length : Int)) && decide ((a0.length : Int) ≤ (a0.length : Int))) (bif (a1 == a2) then (some a0) else (guardK (decide (0 ≤ a1) && decide (a1 ≤ (a0.length : Int))) (guardK (decide (0 ≤ a2) && decide (a2 ≤ (a0.length : Int)) && decide ((a0.length : Int) ≤ (a0.length : Int))) (guardK (decide ((a1.toNat + ((a0.take ((a0.length : Int).toNat)).drop a2.toNat).length) ≤ a0.length)) (guardK (decide (0 ≤ (((a1.toNat + ((a0.take ((a0.length : Int).toNat)).drop a2.toNat).length) - 0 : Nat) : Int)) && decide ((((a1.toNat + ((a0.take ((a0.length : Int).toNat)).drop a2.toNat).length) - 0 : Nat) : Int) ≤ (a0.length : Int)) && decide (0 + (a0.length : Int).toNat ≤ (a0.take a1.toNat ++ ((a0.take ((a0.length : Int).toNat)).drop a2.toNat) ++ a0.drop (a1.toNat + ((a0.take ((a0.length : Int).toNat)).drop a2.toNat).length)).length)) (guardK (decide ((0 + (((a1.toNat + ((a0.take ((a0.length : Int).toNat)).drop a2.toNat).length) - 0 : Nat) : Int).toNat) ≤ (0 + (a0.length : Int).toNat)) && decide ((0 + (a0.length : Int).toNat) ≤ (a0.take a1.toNat ++ ((a0.take ((a0.length : Int).toNat)).drop a2.toNat) ++ a0.drop (a1.toNat + ((a0.take ((a0.length : Int).toNat)).drop a2.toNat).length)).length)) (some (((a0.take a1.toNat ++ ((a0.take ((a0.length : Int).toNat)).drop a2.toNat) ++ a0.drop (a1.toNat + ((a0.take ((a0.length : Int).toNat)).drop a2.toNat).length)).take (0 + (((a1.toNat + ((a0.take ((a0.length : Int).toNat)).drop a2.toNat).length) - 0 : Nat) : Int).toNat) ++ List.replicate ((0 + (a0.length : Int).toNat) - (0 + (((a1.toNat + ((a0.take ((a0.length : Int).toNat)).drop a2.toNat).length) - 0 : Nat) : Int).toNat)) ((⟨#[]⟩ : ByteArray), 0, 0, (⟨#[]⟩ : ByteArray)) ++ (a0.take a1.toNat ++ ((a0.take ((a0.length : Int).toNat)).drop a2.toNat) ++ a0.drop (a1.toNat + ((a0.take ((a0.length : Int).toNat)).drop a2.toNat).length)).drop (0 + (a0.length : Int).toNat)).take (a1.toNat + ((a0.take ((a0.length : Int).toNat)).drop a2.toNat).length))))))))))
theorem F.slices_Delete_apiPropapiProp.eq K a0 a1 a2 : F.slices_Delete_apiPropapiProp (K + 1) a0 a1 a2 = F.slices_Delete_apiPropapiProp.B a0 a1 a2 := by kernel_rfl
noncomputable def V.slices_Delete_apiPropapiProp (a0 : List TProp) (a1 : Int) (a2 : Int) := lim fun v => F.slices_Delete_apiPropapiProp (v 0) a0 a1 a2
theorem V.slices_Delete_apiPropapiProp.of a0 a1 a2 {r} (h : F.slices_Delete_apiPropapiProp.B a0 a1 a2 = some r) : V.slices_Delete_apiPropapiProp a0 a1 a2 = some r :=
  App.to (App.step 0 (fun v => F.slices_Delete_apiPropapiProp.eq (v 0) a0 a1 a2) (by unfold F.slices_Delete_apiPropapiProp.B; repeat' first | exact App.val | exact App.no | exact App.lim | apply App.cond | apply App.guard | apply App.meet | apply App.ite | refine App.bind ?_ fun _ => ?_)) h
noncomputable def F.elem_Unset (K : Nat) (a0 : List TProp) (a1 : ByteArray) : Option ((List TProp) × Int) := evFn Try.prog sg K 12 [.sc (.list sProp a0 false), .sc (.val (.string a1))] []
noncomputable def F.elem_Unset.B (c0 : (List TProp) → (ByteArray) → Option (Int × Bool)) (c1 : (List TProp) → Option ((List TProp))) (c2 : (List TProp) → (Int) → (Int) → Option ((List TProp))) (a0 : List TProp) (a1 : ByteArray) : Option ((List TProp) × Int) :=
    ((c0 a0 a1).bind fun t0 => (bif (!t0.2) then (some ([], 9)) else ((c1 a0).bind fun t1 => ((c2 t1 t0.1 (w64 (t0.1 + 1))).bind fun t2 => (some (t2, 0))))))
theorem F.elem_Unset.eq K a0 a1 : F.elem_Unset (K + 1) a0 a1 = F.elem_Unset.B (F.elem_find K) (F.slices_Clone_apiPropapiProp K) (F.slices_Delete_apiPropapiProp K) a0 a1 := by kernel_rfl
noncomputable def V.elem_Unset (a0 : List TProp) (a1 : ByteArray) := lim fun v => F.elem_Unset (v 0) a0 a1
theorem V.elem_Unset.of a0 a1 {r} (h : F.elem_Unset.B V.elem_find V.slices_Clone_apiPropapiProp V.slices_Delete_apiPropapiProp a0 a1 = some r) : V.elem_Unset a0 a1 = some r :=
  App.to (App.step 0 (fun v => F.elem_Unset.eq (v 0) a0 a1) (by unfold F.elem_Unset.B; repeat' first | exact App.val | exact App.no | exact App.lim | apply App.cond | apply App.guard | apply App.meet | apply App.ite | refine App.bind ?_ fun _ => ?_)) h
noncomputable def F.pleachref25_Unset (K : Nat) (a0 : List TProp) (a1 : ByteArray) : Option ((List TProp) × Int) := evFn Try.prog sg K 13 [.sc (.list sProp a0 false), .sc (.val (.string a1))] []
noncomputable def F.pleachref25_Unset.B (c0 : (List TProp) → (ByteArray) → Option (Int)) (a0 : List TProp) (a1 : ByteArray) : Option ((List TProp) × Int) :=
    ((c0 a0 a1).bind fun t0 => (bif (decide (t0 < 0)) then (some ([], 9)) else (guardK (decide (0 ≤ t0) && decide (t0 ≤ (a0.length : Int))) (guardK (decide (0 ≤ (w64 (t0 + 1))) && decide ((w64 (t0 + 1)) ≤ (a0.length : Int)) && decide ((a0.length : Int) ≤ (a0.length : Int))) (guardK (decide (0 + ((a0.take t0.toNat).drop 0).length ≤ nmax)) (guardK (decide (([] ++ ((a0.take t0.toNat).drop 0)).length + ((a0.take ((a0.length : Int).toNat)).drop ((w64 (t0 + 1)).toNat)).length ≤ nmax)) (some ((([] ++ ((a0.take t0.toNat).drop 0)) ++ ((a0.take ((a0.length : Int).toNat)).drop ((w64 (t0 + 1)).toNat))), 0))))))))
theorem F.pleachref25_Unset.eq K a0 a1 : F.pleachref25_Unset (K + 1) a0 a1 = F.pleachref25_Unset.B (F.pleachref25_at K) a0 a1 := by kernel_rfl
noncomputable def V.pleachref25_Unset (a0 : List TProp) (a1 : ByteArray) := lim fun v => F.pleachref25_Unset (v 0) a0 a1
theorem V.pleachref25_Unset.of a0 a1 {r} (h : F.pleachref25_Unset.B V.pleachref25_at a0 a1 = some r) : V.pleachref25_Unset a0 a1 = some r :=
  App.to (App.step 0 (fun v => F.pleachref25_Unset.eq (v 0) a0 a1) (by unfold F.pleachref25_Unset.B; repeat' first | exact App.val | exact App.no | exact App.lim | apply App.cond | apply App.guard | apply App.meet | apply App.ite | refine App.bind ?_ fun _ => ?_)) h
noncomputable def F.elem_Get (K : Nat) (a0 : List TProp) (a1 : ByteArray) : Option (TValue × Bool) := evFn Try.prog sg K 14 [.sc (.list sProp a0 false), .sc (.val (.string a1))] []
noncomputable def F.elem_Get.B (c0 : (List TProp) → (ByteArray) → Option (Int × Bool)) (a0 : List TProp) (a1 : ByteArray) : Option (TValue × Bool) :=
    ((c0 a0 a1).bind fun t0 => (bif (!t0.2) then (some ((0, 0, (⟨#[]⟩ : ByteArray)), false)) else (guardK (decide (0 ≤ t0.1) && decide (t0.1 < (a0.length : Int))) (some ((((rd sProp a0 t0.1.toNat).2).1, (((rd sProp a0 t0.1.toNat).2).2).1, (((rd sProp a0 t0.1.toNat).2).2).2), true)))))
theorem F.elem_Get.eq K a0 a1 : F.elem_Get (K + 1) a0 a1 = F.elem_Get.B (F.elem_find K) a0 a1 := by kernel_rfl
noncomputable def V.elem_Get (a0 : List TProp) (a1 : ByteArray) := lim fun v => F.elem_Get (v 0) a0 a1
theorem V.elem_Get.of a0 a1 {r} (h : F.elem_Get.B V.elem_find a0 a1 = some r) : V.elem_Get a0 a1 = some r :=
  App.to (App.step 0 (fun v => F.elem_Get.eq (v 0) a0 a1) (by unfold F.elem_Get.B; repeat' first | exact App.val | exact App.no | exact App.lim | apply App.cond | apply App.guard | apply App.meet | apply App.ite | refine App.bind ?_ fun _ => ?_)) h
noncomputable def F.pleachref25_Get (K : Nat) (a0 : List TProp) (a1 : ByteArray) : Option (TValue × Bool) := evFn Try.prog sg K 15 [.sc (.list sProp a0 false), .sc (.val (.string a1))] []
noncomputable def F.pleachref25_Get.B (c0 : (List TProp) → (ByteArray) → Option (Int)) (a0 : List TProp) (a1 : ByteArray) : Option (TValue × Bool) :=
    ((c0 a0 a1).bind fun t0 => (bif (decide (t0 < 0)) then (some ((0, 0, (⟨#[]⟩ : ByteArray)), false)) else (guardK (decide (0 ≤ t0) && decide (t0 < (a0.length : Int))) (some ((((rd sProp a0 t0.toNat).2).1, (((rd sProp a0 t0.toNat).2).2).1, (((rd sProp a0 t0.toNat).2).2).2), true)))))
theorem F.pleachref25_Get.eq K a0 a1 : F.pleachref25_Get (K + 1) a0 a1 = F.pleachref25_Get.B (F.pleachref25_at K) a0 a1 := by kernel_rfl
noncomputable def V.pleachref25_Get (a0 : List TProp) (a1 : ByteArray) := lim fun v => F.pleachref25_Get (v 0) a0 a1
theorem V.pleachref25_Get.of a0 a1 {r} (h : F.pleachref25_Get.B V.pleachref25_at a0 a1 = some r) : V.pleachref25_Get a0 a1 = some r :=
  App.to (App.step 0 (fun v => F.pleachref25_Get.eq (v 0) a0 a1) (by unfold F.pleachref25_Get.B; repeat' first | exact App.val | exact App.no | exact App.lim | apply App.cond | apply App.guard | apply App.meet | apply App.ite | refine App.bind ?_ fun _ => ?_)) h
noncomputable def F.pleachref25_SameProps (K : Nat) (a0 : List TProp) (a1 : List TProp) : Option (Bool) := evFn Try.prog sg K 16 [.sc (.list sProp a0 false), .sc (.list sProp a1 false)] []
noncomputable def F.pleachref25_SameProps.at (K : Nat) (p ns : List Nat) (s : St) : Option (Bool) := atFn Try.prog sg K 16 0 p ns s
noncomputable def F.pleachref25_SameProps.in (K : Nat) (H : List Nat → List Nat → St → Option (Bool)) (p ns : List Nat) (s : St) : Option (Bool) := inFn Try.prog sg K 16 0 [] H p ns s
theorem F.pleachref25_SameProps.in_eq K p ns s : F.pleachref25_SameProps.at K p ns s = F.pleachref25_SameProps.in K (F.pleachref25_SameProps.at K) p ns s := atFn_eq (P := Try.prog) (sg := sg) (K := K) (f := 16) (m := 0) [] p ns s
theorem F.pleachref25_SameProps.in_main K a0 a1 : F.pleachref25_SameProps (K + 1) a0 a1 = F.pleachref25_SameProps.in K (F.pleachref25_SameProps.at K) [] [] ⟨slots [.sc (.list sProp a0 false), .sc (.list sProp a1 false)] 0, []⟩ := evFn_eq (P := Try.prog) (sg := sg) (K := K) (f := 16) (args := [.sc (.list sProp a0 false), .sc (.list sProp a1 false)]) (σ := []) [] (by kernel_rfl)
def F.pleachref25_SameProps.l11010.st (a0 : List TProp) (a1 : List TProp) (x0 : Int) : St := ⟨[(0, vL sProp a0), (1, vL sProp a1), (5, vI x0)], []⟩
noncomputable def F.pleachref25_SameProps.l11010 (K n0 : Nat) (a0 : List TProp) (a1 : List TProp) (x0 : Int) := F.pleachref25_SameProps.at K [1, 1, 0, 1, 0] [n0] (F.pleachref25_SameProps.l11010.st a0 a1 x0)
noncomputable def F.pleachref25_SameProps.l11010.B (c0 : (List TProp) → (List TProp) → (Int) → Option (Bool)) (a0 : List TProp) (a1 : List TProp) (x0 : Int) : Option (Bool) :=
    (bif (decide (x0 < (a0.length : Int))) then (guardK (decide (0 ≤ x0) && decide (x0 < (a0.length : Int))) (guardK (decide (0 ≤ x0) && decide (x0 < (a1.length : Int))) (bif (!((strEq ((rd sProp a0 x0.toNat).1) ((rd sProp a1 x0.toNat).1)) && (((((rd sProp a0 x0.toNat).2).1 == ((rd sProp a1 x0.toNat).2).1) && (((((rd sProp a0 x0.toNat).2).2).1 == (((rd sProp a1 x0.toNat).2).2).1) && ((strEq ((((rd sProp a0 x0.toNat).2).2).2) ((((rd sProp a1 x0.toNat).2).2).2)) && true))) && true))) then (some false) else (c0 a0 a1 (w64 (x0 + 1)))))) else (some true))
theorem F.pleachref25_SameProps.l11010.eq K n0 a0 a1 x0 : F.pleachref25_SameProps.l11010 K (n0 + 1) a0 a1 x0 = F.pleachref25_SameProps.l11010.B (F.pleachref25_SameProps.l11010 K n0) a0 a1 x0 := (F.pleachref25_SameProps.in_eq K [1, 1, 0, 1, 0] [n0 + 1] (F.pleachref25_SameProps.l11010.st a0 a1 x0)).trans ((show ∀ H, F.pleachref25_SameProps.in K H [1, 1, 0, 1, 0] [n0 + 1] (F.pleachref25_SameProps.l11010.st a0 a1 x0) = F.pleachref25_SameProps.l11010.B (fun a0 a1 x0 => H [1, 1, 0, 1, 0] [n0] (F.pleachref25_SameProps.l11010.st a0 a1 x0)) a0 a1 x0 from by intro H; kernel_rfl) (F.pleachref25_SameProps.at K))
noncomputable def F.pleachref25_SameProps.B (c0 : (List TProp) → (List TProp) → (Int) → Option (Bool)) (a0 : List TProp) (a1 : List TProp) : Option (Bool) :=
    (bif ((a0.length : Int) != (a1.length : Int)) then (some false) else (c0 a0 a1 0))
theorem F.pleachref25_SameProps.eq K a0 a1 : F.pleachref25_SameProps (K + 1) a0 a1 = F.pleachref25_SameProps.B (F.pleachref25_SameProps.l11010 K K) a0 a1 := (F.pleachref25_SameProps.in_main K a0 a1).trans ((show ∀ H, F.pleachref25_SameProps.in K H [] [] ⟨slots [.sc (.list sProp a0 false), .sc (.list sProp a1 false)] 0, []⟩ = F.pleachref25_SameProps.B (fun a0 a1 x0 => H [1, 1, 0, 1, 0] [K] (F.pleachref25_SameProps.l11010.st a0 a1 x0)) a0 a1 from by intro H; kernel_rfl) (F.pleachref25_SameProps.at K))
noncomputable def V.pleachref25_SameProps.l11010 (a0 : List TProp) (a1 : List TProp) (x0 : Int) := lim fun v => F.pleachref25_SameProps.l11010 (v 0) (v 1) a0 a1 x0
noncomputable def V.pleachref25_SameProps (a0 : List TProp) (a1 : List TProp) := lim fun v => F.pleachref25_SameProps (v 0) a0 a1
theorem V.pleachref25_SameProps.l11010.of a0 a1 x0 {r} (h : F.pleachref25_SameProps.l11010.B V.pleachref25_SameProps.l11010 a0 a1 x0 = some r) : V.pleachref25_SameProps.l11010 a0 a1 x0 = some r :=
  App.to (App.step 1 (fun v => F.pleachref25_SameProps.l11010.eq (v 0) (v 1) a0 a1 x0) (by unfold F.pleachref25_SameProps.l11010.B; repeat' first | exact App.val | exact App.no | exact App.lim | apply App.cond | apply App.guard | apply App.meet | apply App.ite | refine App.bind ?_ fun _ => ?_)) h
theorem V.pleachref25_SameProps.of a0 a1 {r} (h : F.pleachref25_SameProps.B V.pleachref25_SameProps.l11010 a0 a1 = some r) : V.pleachref25_SameProps a0 a1 = some r :=
  App.to (App.step 0 (fun v => F.pleachref25_SameProps.eq (v 0) a0 a1) (by unfold F.pleachref25_SameProps.B; repeat' first | exact App.val | exact App.no | exact App.lim | exact (App.enter 1 App.lim) | apply App.cond | apply App.guard | apply App.meet | apply App.ite | refine App.bind ?_ fun _ => ?_)) h
noncomputable def F.cmp_Less_string (K : Nat) (a0 : ByteArray) (a1 : ByteArray) : Option (Bool) := evFn Try.prog sg K 115 [.sc (.val (.string a0)), .sc (.val (.string a1))] []
noncomputable def F.cmp_Less_string.B (c0 : (ByteArray) → Option (Bool)) (a0 : ByteArray) (a1 : ByteArray) : Option (Bool) :=
    ((c0 a0).bind fun t0 => (bif t0 then ((c0 a1).bind fun t1 => (bif (!t1) then (some true) else (some (strLt a0 a1)))) else (some (strLt a0 a1))))
theorem F.cmp_Less_string.eq K a0 a1 : F.cmp_Less_string (K + 1) a0 a1 = F.cmp_Less_string.B (F.cmp_isNaN_string K) a0 a1 := by kernel_rfl
noncomputable def V.cmp_Less_string (a0 : ByteArray) (a1 : ByteArray) := lim fun v => F.cmp_Less_string (v 0) a0 a1
theorem V.cmp_Less_string.of a0 a1 {r} (h : F.cmp_Less_string.B V.cmp_isNaN_string a0 a1 = some r) : V.cmp_Less_string a0 a1 = some r :=
  App.to (App.step 0 (fun v => F.cmp_Less_string.eq (v 0) a0 a1) (by unfold F.cmp_Less_string.B; repeat' first | exact App.val | exact App.no | exact App.lim | apply App.cond | apply App.guard | apply App.meet | apply App.ite | refine App.bind ?_ fun _ => ?_)) h
noncomputable def F.slices_isNaN_string (K : Nat) (a0 : ByteArray) : Option (Bool) := evFn Try.prog sg K 116 [.sc (.val (.string a0))] []
noncomputable def F.slices_isNaN_string.B (a0 : ByteArray) : Option (Bool) :=
    (some (!strEq a0 a0))
theorem F.slices_isNaN_string.eq K a0 : F.slices_isNaN_string (K + 1) a0 = F.slices_isNaN_string.B a0 := by kernel_rfl
noncomputable def V.slices_isNaN_string (a0 : ByteArray) := lim fun v => F.slices_isNaN_string (v 0) a0
theorem V.slices_isNaN_string.of a0 {r} (h : F.slices_isNaN_string.B a0 = some r) : V.slices_isNaN_string a0 = some r :=
  App.to (App.step 0 (fun v => F.slices_isNaN_string.eq (v 0) a0) (by unfold F.slices_isNaN_string.B; repeat' first | exact App.val | exact App.no | exact App.lim | apply App.cond | apply App.guard | apply App.meet | apply App.ite | refine App.bind ?_ fun _ => ?_)) h
noncomputable def F.slices_BinarySearch_stringstring (K : Nat) (a0 : List ByteArray) (a1 : ByteArray) : Option (Int × Bool) := evFn Try.prog sg K 95 [.sc (.list .str a0 false), .sc (.val (.string a1))] []
noncomputable def F.slices_BinarySearch_stringstring.at (K : Nat) (p ns : List Nat) (s : St) : Option (Int × Bool) := atFn Try.prog sg K 95 0 p ns s
noncomputable def F.slices_BinarySearch_stringstring.in (K : Nat) (H : List Nat → List Nat → St → Option (Int × Bool)) (p ns : List Nat) (s : St) : Option (Int × Bool) := inFn Try.prog sg K 95 0 [] H p ns s
theorem F.slices_BinarySearch_stringstring.in_eq K p ns s : F.slices_BinarySearch_stringstring.at K p ns s = F.slices_BinarySearch_stringstring.in K (F.slices_BinarySearch_stringstring.at K) p ns s := atFn_eq (P := Try.prog) (sg := sg) (K := K) (f := 95) (m := 0) [] p ns s
theorem F.slices_BinarySearch_stringstring.in_main K a0 a1 : F.slices_BinarySearch_stringstring (K + 1) a0 a1 = F.slices_BinarySearch_stringstring.in K (F.slices_BinarySearch_stringstring.at K) [] [] ⟨slots [.sc (.list .str a0 false), .sc (.val (.string a1))] 0, []⟩ := evFn_eq (P := Try.prog) (sg := sg) (K := K) (f := 95) (args := [.sc (.list .str a0 false), .sc (.val (.string a1))]) (σ := []) [] (by kernel_rfl)
def F.slices_BinarySearch_stringstring.l11100.st (a0 : List ByteArray) (a1 : ByteArray) (x0 : Int) (x1 : Int) : St := ⟨[(0, vL .str a0), (1, vS a1), (6, vI (a0.length : Int)), (7, vI x0), (8, vI x1)], []⟩
noncomputable def F.slices_BinarySearch_stringstring.l11100 (K n0 : Nat) (a0 : List ByteArray) (a1 : ByteArray) (x0 : Int) (x1 : Int) := F.slices_BinarySearch_stringstring.at K [1, 1, 1, 0, 0] [n0] (F.slices_BinarySearch_stringstring.l11100.st a0 a1 x0 x1)
noncomputable def F.slices_BinarySearch_stringstring.l11100.B (c0 : (ByteArray) → (ByteArray) → Option (Bool)) (c1 : (List ByteArray) → (ByteArray) → (Int) → (Int) → Option (Int × Bool)) (c2 : (ByteArray) → Option (Bool)) (a0 : List ByteArray) (a1 : ByteArray) (x0 : Int) (x1 : Int) : Option (Int × Bool) :=
    (bif (decide (x0 < x1)) then (guardK (decide (0 ≤ (w64 (Int.fdiv (IntKind.wrap .u64 (w64 (x0 + x1))) (2 ^ 1)))) && decide ((w64 (Int.fdiv (IntKind.wrap .u64 (w64 (x0 + x1))) (2 ^ 1))) < (a0.length : Int))) ((c0 (rd .str a0 ((w64 (Int.fdiv (IntKind.wrap .u64 (w64 (x0 + x1))) (2 ^ 1))).toNat)) a1).bind fun t0 => (bif t0 then (c1 a0 a1 (w64 ((w64 (Int.fdiv (IntKind.wrap .u64 (w64 (x0 + x1))) (2 ^ 1))) + 1)) x1) else (c1 a0 a1 x0 (w64 (Int.fdiv (IntKind.wrap .u64 (w64 (x0 + x1))) (2 ^ 1))))))) else (bif (decide (x0 < (a0.length : Int))) then (guardK (decide (0 ≤ x0) && decide (x0 < (a0.length : Int))) (bif (strEq (rd .str a0 x0.toNat) a1) then (some (x0, true)) else (guardK (decide (0 ≤ x0) && decide (x0 < (a0.length : Int))) ((c2 (rd .str a0 x0.toNat)).bind fun t1 => (bif t1 then ((c2 a1).bind fun t2 => (some (x0, t2))) else (some (x0, false))))))) else (some (x0, false))))
theorem F.slices_BinarySearch_stringstring.l11100.eq K n0 a0 a1 x0 x1 : F.slices_BinarySearch_stringstring.l11100 K (n0 + 1) a0 a1 x0 x1 = F.slices_BinarySearch_stringstring.l11100.B (F.cmp_Less_string K) (F.slices_BinarySearch_stringstring.l11100 K n0) (F.slices_isNaN_string K) a0 a1 x0 x1 := (F.slices_BinarySearch_stringstring.in_eq K [1, 1, 1, 0, 0] [n0 + 1] (F.slices_BinarySearch_stringstring.l11100.st a0 a1 x0 x1)).trans ((show ∀ H, F.slices_BinarySearch_stringstring.in K H [1, 1, 1, 0, 0] [n0 + 1] (F.slices_BinarySearch_stringstring.l11100.st a0 a1 x0 x1) = F.slices_BinarySearch_stringstring.l11100.B (F.cmp_Less_string K) (fun a0 a1 x0 x1 => H [1, 1, 1, 0, 0] [n0] (F.slices_BinarySearch_stringstring.l11100.st a0 a1 x0 x1)) (F.slices_isNaN_string K) a0 a1 x0 x1 from by intro H; kernel_rfl) (F.slices_BinarySearch_stringstring.at K))
noncomputable def F.slices_BinarySearch_stringstring.B (c0 : (List ByteArray) → (ByteArray) → (Int) → (Int) → Option (Int × Bool)) (a0 : List ByteArray) (a1 : ByteArray) : Option (Int × Bool) :=
    (c0 a0 a1 0 (a0.length : Int))
theorem F.slices_BinarySearch_stringstring.eq K a0 a1 : F.slices_BinarySearch_stringstring (K + 1) a0 a1 = F.slices_BinarySearch_stringstring.B (F.slices_BinarySearch_stringstring.l11100 K K) a0 a1 := (F.slices_BinarySearch_stringstring.in_main K a0 a1).trans ((show ∀ H, F.slices_BinarySearch_stringstring.in K H [] [] ⟨slots [.sc (.list .str a0 false), .sc (.val (.string a1))] 0, []⟩ = F.slices_BinarySearch_stringstring.B (fun a0 a1 x0 x1 => H [1, 1, 1, 0, 0] [K] (F.slices_BinarySearch_stringstring.l11100.st a0 a1 x0 x1)) a0 a1 from by intro H; kernel_rfl) (F.slices_BinarySearch_stringstring.at K))
noncomputable def V.slices_BinarySearch_stringstring.l11100 (a0 : List ByteArray) (a1 : ByteArray) (x0 : Int) (x1 : Int) := lim fun v => F.slices_BinarySearch_stringstring.l11100 (v 0) (v 1) a0 a1 x0 x1
noncomputable def V.slices_BinarySearch_stringstring (a0 : List ByteArray) (a1 : ByteArray) := lim fun v => F.slices_BinarySearch_stringstring (v 0) a0 a1
theorem V.slices_BinarySearch_stringstring.l11100.of a0 a1 x0 x1 {r} (h : F.slices_BinarySearch_stringstring.l11100.B V.cmp_Less_string V.slices_BinarySearch_stringstring.l11100 V.slices_isNaN_string a0 a1 x0 x1 = some r) : V.slices_BinarySearch_stringstring.l11100 a0 a1 x0 x1 = some r :=
  App.to (App.step 1 (fun v => F.slices_BinarySearch_stringstring.l11100.eq (v 0) (v 1) a0 a1 x0 x1) (by unfold F.slices_BinarySearch_stringstring.l11100.B; repeat' first | exact App.val | exact App.no | exact App.lim | apply App.cond | apply App.guard | apply App.meet | apply App.ite | refine App.bind ?_ fun _ => ?_)) h
theorem V.slices_BinarySearch_stringstring.of a0 a1 {r} (h : F.slices_BinarySearch_stringstring.B V.slices_BinarySearch_stringstring.l11100 a0 a1 = some r) : V.slices_BinarySearch_stringstring a0 a1 = some r :=
  App.to (App.step 0 (fun v => F.slices_BinarySearch_stringstring.eq (v 0) a0 a1) (by unfold F.slices_BinarySearch_stringstring.B; repeat' first | exact App.val | exact App.no | exact App.lim | exact (App.enter 1 App.lim) | apply App.cond | apply App.guard | apply App.meet | apply App.ite | refine App.bind ?_ fun _ => ?_)) h
noncomputable def F.name_Find (K : Nat) (a0 : List ByteArray) (a1 : ByteArray) : Option (Int × Bool) := evFn Try.prog sg K 72 [.sc (.list .str a0 false), .sc (.val (.string a1))] []
noncomputable def F.name_Find.B (c0 : (List ByteArray) → (ByteArray) → Option (Int × Bool)) (a0 : List ByteArray) (a1 : ByteArray) : Option (Int × Bool) :=
    ((c0 a0 a1).bind fun t0 => (some (t0.1, t0.2)))
theorem F.name_Find.eq K a0 a1 : F.name_Find (K + 1) a0 a1 = F.name_Find.B (F.slices_BinarySearch_stringstring K) a0 a1 := by kernel_rfl
noncomputable def V.name_Find (a0 : List ByteArray) (a1 : ByteArray) := lim fun v => F.name_Find (v 0) a0 a1
theorem V.name_Find.of a0 a1 {r} (h : F.name_Find.B V.slices_BinarySearch_stringstring a0 a1 = some r) : V.name_Find a0 a1 = some r :=
  App.to (App.step 0 (fun v => F.name_Find.eq (v 0) a0 a1) (by unfold F.name_Find.B; repeat' first | exact App.val | exact App.no | exact App.lim | apply App.cond | apply App.guard | apply App.meet | apply App.ite | refine App.bind ?_ fun _ => ?_)) h
noncomputable def F.slices_Clone_stringstring (K : Nat) (a0 : List ByteArray) : Option ((List ByteArray)) := evFn Try.prog sg K 73 [.sc (.list .str a0 false)] []
noncomputable def F.slices_Clone_stringstring.B (a0 : List ByteArray) : Option ((List ByteArray)) :=
    (bif a0.isEmpty then meet (some ([])) (guardK (decide (0 + a0.length ≤ nmax)) (some ([] ++ a0))) else (guardK (decide (0 + a0.length ≤ nmax)) (some ([] ++ a0))))
theorem F.slices_Clone_stringstring.eq K a0 : F.slices_Clone_stringstring (K + 1) a0 = F.slices_Clone_stringstring.B a0 := by kernel_rfl
noncomputable def V.slices_Clone_stringstring (a0 : List ByteArray) := lim fun v => F.slices_Clone_stringstring (v 0) a0
theorem V.slices_Clone_stringstring.of a0 {r} (h : F.slices_Clone_stringstring.B a0 = some r) : V.slices_Clone_stringstring a0 = some r :=
  App.to (App.step 0 (fun v => F.slices_Clone_stringstring.eq (v 0) a0) (by unfold F.slices_Clone_stringstring.B; repeat' first | exact App.val | exact App.no | exact App.lim | apply App.cond | apply App.guard | apply App.meet | apply App.ite | refine App.bind ?_ fun _ => ?_)) h
noncomputable def F.slices_Insert_stringstring (K : Nat) (a0 : List ByteArray) (a1 : Int) (a2 : List ByteArray) : Option (List ByteArray) := evFn Try.prog sg K 74 [.sc (.own 0 none), .sc (.val (.int .i64 a1)), .sc (.own 1 none)] [.elems .str a0, .elems .str a2]
noncomputable def F.slices_Insert_stringstring.B (a0 : List ByteArray) (a1 : Int) (a2 : List ByteArray) : Option (List ByteArray) :=
    (insB a0 a1 a2)
theorem F.slices_Insert_stringstring.eq K a0 a1 a2 : F.slices_Insert_stringstring (K + 1) a0 a1 a2 = F.slices_Insert_stringstring.B a0 a1 a2 := by kernel_rfl
noncomputable def V.slices_Insert_stringstring (a0 : List ByteArray) (a1 : Int) (a2 : List ByteArray) := lim fun v => F.slices_Insert_stringstring (v 0) a0 a1 a2
theorem V.slices_Insert_stringstring.of a0 a1 a2 {r} (h : F.slices_Insert_stringstring.B a0 a1 a2 = some r) : V.slices_Insert_stringstring a0 a1 a2 = some r :=
  App.to (App.step 0 (fun v => F.slices_Insert_stringstring.eq (v 0) a0 a1 a2) App.const) h
noncomputable def F.name_With (K : Nat) (a0 : List ByteArray) (a1 : ByteArray) : Option ((List ByteArray) × Bool) := evFn Try.prog sg K 44 [.sc (.list .str a0 false), .sc (.val (.string a1))] []
noncomputable def F.name_With.B (c0 : (List ByteArray) → (ByteArray) → Option (Int × Bool)) (c1 : (List ByteArray) → Option ((List ByteArray))) (c2 : (List ByteArray) → (Int) → (List ByteArray) → Option ((List ByteArray))) (a0 : List ByteArray) (a1 : ByteArray) : Option ((List ByteArray) × Bool) :=
    ((c0 a0 a1).bind fun t0 => (bif t0.2 then ((c1 a0).bind fun t1 => (some (t1, false))) else ((c1 a0).bind fun t2 => ((c2 t2 t0.1 ([a1])).bind fun t3 => (some (t3, true))))))
theorem F.name_With.eq K a0 a1 : F.name_With (K + 1) a0 a1 = F.name_With.B (F.name_Find K) (F.slices_Clone_stringstring K) (F.slices_Insert_stringstring K) a0 a1 := by kernel_rfl
noncomputable def V.name_With (a0 : List ByteArray) (a1 : ByteArray) := lim fun v => F.name_With (v 0) a0 a1
theorem V.name_With.of a0 a1 {r} (h : F.name_With.B V.name_Find V.slices_Clone_stringstring V.slices_Insert_stringstring a0 a1 = some r) : V.name_With a0 a1 = some r :=
  App.to (App.step 0 (fun v => F.name_With.eq (v 0) a0 a1) (by unfold F.name_With.B; repeat' first | exact App.val | exact App.no | exact App.lim | apply App.cond | apply App.guard | apply App.meet | apply App.ite | refine App.bind ?_ fun _ => ?_)) h
noncomputable def F.elem_Label (K : Nat) (a0 : List ByteArray) (a1 : ByteArray) : Option ((List ByteArray) × Int) := evFn Try.prog sg K 17 [.sc (.list .str a0 false), .sc (.val (.string a1))] []
noncomputable def F.elem_Label.B (c0 : (ByteArray) → Option (Int)) (c1 : (List ByteArray) → (ByteArray) → Option ((List ByteArray) × Bool)) (a0 : List ByteArray) (a1 : ByteArray) : Option ((List ByteArray) × Int) :=
    ((c0 a1).bind fun t0 => (bif (t0 != 0) then (some ([], t0)) else ((c1 a0 a1).bind fun t1 => (bif (!t1.2) then (some ([], 10)) else (bif (decide ((t1.1.length : Int) > 8)) then (some ([], 5)) else (some (t1.1, 0)))))))
theorem F.elem_Label.eq K a0 a1 : F.elem_Label (K + 1) a0 a1 = F.elem_Label.B (F.name_Check K) (F.name_With K) a0 a1 := by kernel_rfl
noncomputable def V.elem_Label (a0 : List ByteArray) (a1 : ByteArray) := lim fun v => F.elem_Label (v 0) a0 a1
theorem V.elem_Label.of a0 a1 {r} (h : F.elem_Label.B V.name_Check V.name_With a0 a1 = some r) : V.elem_Label a0 a1 = some r :=
  App.to (App.step 0 (fun v => F.elem_Label.eq (v 0) a0 a1) (by unfold F.elem_Label.B; repeat' first | exact App.val | exact App.no | exact App.lim | apply App.cond | apply App.guard | apply App.meet | apply App.ite | refine App.bind ?_ fun _ => ?_)) h
noncomputable def F.pleachref05_In (K : Nat) (a0 : List ByteArray) (a1 : ByteArray) : Option (Bool) := evFn Try.prog sg K 45 [.sc (.list .str a0 false), .sc (.val (.string a1))] []
noncomputable def F.pleachref05_In.at (K : Nat) (p ns : List Nat) (s : St) : Option (Bool) := atFn Try.prog sg K 45 0 p ns s
noncomputable def F.pleachref05_In.in (K : Nat) (H : List Nat → List Nat → St → Option (Bool)) (p ns : List Nat) (s : St) : Option (Bool) := inFn Try.prog sg K 45 0 [] H p ns s
theorem F.pleachref05_In.in_eq K p ns s : F.pleachref05_In.at K p ns s = F.pleachref05_In.in K (F.pleachref05_In.at K) p ns s := atFn_eq (P := Try.prog) (sg := sg) (K := K) (f := 45) (m := 0) [] p ns s
theorem F.pleachref05_In.in_main K a0 a1 : F.pleachref05_In (K + 1) a0 a1 = F.pleachref05_In.in K (F.pleachref05_In.at K) [] [] ⟨slots [.sc (.list .str a0 false), .sc (.val (.string a1))] 0, []⟩ := evFn_eq (P := Try.prog) (sg := sg) (K := K) (f := 45) (args := [.sc (.list .str a0 false), .sc (.val (.string a1))]) (σ := []) [] (by kernel_rfl)
def F.pleachref05_In.l1010.st (a0 : List ByteArray) (a1 : ByteArray) (x0 : Int) : St := ⟨[(0, vL .str a0), (1, vS a1), (5, vI x0)], []⟩
noncomputable def F.pleachref05_In.l1010 (K n0 : Nat) (a0 : List ByteArray) (a1 : ByteArray) (x0 : Int) := F.pleachref05_In.at K [1, 0, 1, 0] [n0] (F.pleachref05_In.l1010.st a0 a1 x0)
noncomputable def F.pleachref05_In.l1010.B (c0 : (List ByteArray) → (ByteArray) → (Int) → Option (Bool)) (a0 : List ByteArray) (a1 : ByteArray) (x0 : Int) : Option (Bool) :=
    (bif (decide (x0 < (a0.length : Int))) then (guardK (decide (0 ≤ x0) && decide (x0 < (a0.length : Int))) (bif (strEq (rd .str a0 x0.toNat) a1) then (some true) else (c0 a0 a1 (w64 (x0 + 1))))) else (some false))
theorem F.pleachref05_In.l1010.eq K n0 a0 a1 x0 : F.pleachref05_In.l1010 K (n0 + 1) a0 a1 x0 = F.pleachref05_In.l1010.B (F.pleachref05_In.l1010 K n0) a0 a1 x0 := (F.pleachref05_In.in_eq K [1, 0, 1, 0] [n0 + 1] (F.pleachref05_In.l1010.st a0 a1 x0)).trans ((show ∀ H, F.pleachref05_In.in K H [1, 0, 1, 0] [n0 + 1] (F.pleachref05_In.l1010.st a0 a1 x0) = F.pleachref05_In.l1010.B (fun a0 a1 x0 => H [1, 0, 1, 0] [n0] (F.pleachref05_In.l1010.st a0 a1 x0)) a0 a1 x0 from by intro H; kernel_rfl) (F.pleachref05_In.at K))
noncomputable def F.pleachref05_In.B (c0 : (List ByteArray) → (ByteArray) → (Int) → Option (Bool)) (a0 : List ByteArray) (a1 : ByteArray) : Option (Bool) :=
    (c0 a0 a1 0)
theorem F.pleachref05_In.eq K a0 a1 : F.pleachref05_In (K + 1) a0 a1 = F.pleachref05_In.B (F.pleachref05_In.l1010 K K) a0 a1 := (F.pleachref05_In.in_main K a0 a1).trans ((show ∀ H, F.pleachref05_In.in K H [] [] ⟨slots [.sc (.list .str a0 false), .sc (.val (.string a1))] 0, []⟩ = F.pleachref05_In.B (fun a0 a1 x0 => H [1, 0, 1, 0] [K] (F.pleachref05_In.l1010.st a0 a1 x0)) a0 a1 from by intro H; kernel_rfl) (F.pleachref05_In.at K))
noncomputable def V.pleachref05_In.l1010 (a0 : List ByteArray) (a1 : ByteArray) (x0 : Int) := lim fun v => F.pleachref05_In.l1010 (v 0) (v 1) a0 a1 x0
noncomputable def V.pleachref05_In (a0 : List ByteArray) (a1 : ByteArray) := lim fun v => F.pleachref05_In (v 0) a0 a1
theorem V.pleachref05_In.l1010.of a0 a1 x0 {r} (h : F.pleachref05_In.l1010.B V.pleachref05_In.l1010 a0 a1 x0 = some r) : V.pleachref05_In.l1010 a0 a1 x0 = some r :=
  App.to (App.step 1 (fun v => F.pleachref05_In.l1010.eq (v 0) (v 1) a0 a1 x0) (by unfold F.pleachref05_In.l1010.B; repeat' first | exact App.val | exact App.no | exact App.lim | apply App.cond | apply App.guard | apply App.meet | apply App.ite | refine App.bind ?_ fun _ => ?_)) h
theorem V.pleachref05_In.of a0 a1 {r} (h : F.pleachref05_In.B V.pleachref05_In.l1010 a0 a1 = some r) : V.pleachref05_In a0 a1 = some r :=
  App.to (App.step 0 (fun v => F.pleachref05_In.eq (v 0) a0 a1) (by unfold F.pleachref05_In.B; repeat' first | exact App.val | exact App.no | exact App.lim | exact (App.enter 1 App.lim) | apply App.cond | apply App.guard | apply App.meet | apply App.ite | refine App.bind ?_ fun _ => ?_)) h
noncomputable def F.pleachref05_Less (K : Nat) (a0 : List ByteArray) (a1 : ByteArray) : Option (Int) := evFn Try.prog sg K 75 [.sc (.list .str a0 false), .sc (.val (.string a1))] []
noncomputable def F.pleachref05_Less.at (K : Nat) (p ns : List Nat) (s : St) : Option (Int) := atFn Try.prog sg K 75 0 p ns s
noncomputable def F.pleachref05_Less.in (K : Nat) (H : List Nat → List Nat → St → Option (Int)) (p ns : List Nat) (s : St) : Option (Int) := inFn Try.prog sg K 75 0 [] H p ns s
theorem F.pleachref05_Less.in_eq K p ns s : F.pleachref05_Less.at K p ns s = F.pleachref05_Less.in K (F.pleachref05_Less.at K) p ns s := atFn_eq (P := Try.prog) (sg := sg) (K := K) (f := 75) (m := 0) [] p ns s
theorem F.pleachref05_Less.in_main K a0 a1 : F.pleachref05_Less (K + 1) a0 a1 = F.pleachref05_Less.in K (F.pleachref05_Less.at K) [] [] ⟨slots [.sc (.list .str a0 false), .sc (.val (.string a1))] 0, []⟩ := evFn_eq (P := Try.prog) (sg := sg) (K := K) (f := 75) (args := [.sc (.list .str a0 false), .sc (.val (.string a1))]) (σ := []) [] (by kernel_rfl)
def F.pleachref05_Less.l11010.st (a0 : List ByteArray) (a1 : ByteArray) (x0 : Int) (x1 : Int) : St := ⟨[(0, vL .str a0), (1, vS a1), (5, vI x0), (6, vI x1)], []⟩
noncomputable def F.pleachref05_Less.l11010 (K n0 : Nat) (a0 : List ByteArray) (a1 : ByteArray) (x0 : Int) (x1 : Int) := F.pleachref05_Less.at K [1, 1, 0, 1, 0] [n0] (F.pleachref05_Less.l11010.st a0 a1 x0 x1)
noncomputable def F.pleachref05_Less.l11010.B (c0 : (List ByteArray) → (ByteArray) → (Int) → (Int) → Option (Int)) (a0 : List ByteArray) (a1 : ByteArray) (x0 : Int) (x1 : Int) : Option (Int) :=
    (bif (decide (x1 < (a0.length : Int))) then (guardK (decide (0 ≤ x1) && decide (x1 < (a0.length : Int))) (bif (strLt (rd .str a0 x1.toNat) a1) then (c0 a0 a1 (w64 (x0 + 1)) (w64 (x1 + 1))) else (c0 a0 a1 x0 (w64 (x1 + 1))))) else (some x0))
theorem F.pleachref05_Less.l11010.eq K n0 a0 a1 x0 x1 : F.pleachref05_Less.l11010 K (n0 + 1) a0 a1 x0 x1 = F.pleachref05_Less.l11010.B (F.pleachref05_Less.l11010 K n0) a0 a1 x0 x1 := (F.pleachref05_Less.in_eq K [1, 1, 0, 1, 0] [n0 + 1] (F.pleachref05_Less.l11010.st a0 a1 x0 x1)).trans ((show ∀ H, F.pleachref05_Less.in K H [1, 1, 0, 1, 0] [n0 + 1] (F.pleachref05_Less.l11010.st a0 a1 x0 x1) = F.pleachref05_Less.l11010.B (fun a0 a1 x0 x1 => H [1, 1, 0, 1, 0] [n0] (F.pleachref05_Less.l11010.st a0 a1 x0 x1)) a0 a1 x0 x1 from by intro H; kernel_rfl) (F.pleachref05_Less.at K))
noncomputable def F.pleachref05_Less.B (c0 : (List ByteArray) → (ByteArray) → (Int) → (Int) → Option (Int)) (a0 : List ByteArray) (a1 : ByteArray) : Option (Int) :=
    (c0 a0 a1 0 0)
theorem F.pleachref05_Less.eq K a0 a1 : F.pleachref05_Less (K + 1) a0 a1 = F.pleachref05_Less.B (F.pleachref05_Less.l11010 K K) a0 a1 := (F.pleachref05_Less.in_main K a0 a1).trans ((show ∀ H, F.pleachref05_Less.in K H [] [] ⟨slots [.sc (.list .str a0 false), .sc (.val (.string a1))] 0, []⟩ = F.pleachref05_Less.B (fun a0 a1 x0 x1 => H [1, 1, 0, 1, 0] [K] (F.pleachref05_Less.l11010.st a0 a1 x0 x1)) a0 a1 from by intro H; kernel_rfl) (F.pleachref05_Less.at K))
noncomputable def V.pleachref05_Less.l11010 (a0 : List ByteArray) (a1 : ByteArray) (x0 : Int) (x1 : Int) := lim fun v => F.pleachref05_Less.l11010 (v 0) (v 1) a0 a1 x0 x1
noncomputable def V.pleachref05_Less (a0 : List ByteArray) (a1 : ByteArray) := lim fun v => F.pleachref05_Less (v 0) a0 a1
theorem V.pleachref05_Less.l11010.of a0 a1 x0 x1 {r} (h : F.pleachref05_Less.l11010.B V.pleachref05_Less.l11010 a0 a1 x0 x1 = some r) : V.pleachref05_Less.l11010 a0 a1 x0 x1 = some r :=
  App.to (App.step 1 (fun v => F.pleachref05_Less.l11010.eq (v 0) (v 1) a0 a1 x0 x1) (by unfold F.pleachref05_Less.l11010.B; repeat' first | exact App.val | exact App.no | exact App.lim | apply App.cond | apply App.guard | apply App.meet | apply App.ite | refine App.bind ?_ fun _ => ?_)) h
theorem V.pleachref05_Less.of a0 a1 {r} (h : F.pleachref05_Less.B V.pleachref05_Less.l11010 a0 a1 = some r) : V.pleachref05_Less a0 a1 = some r :=
  App.to (App.step 0 (fun v => F.pleachref05_Less.eq (v 0) a0 a1) (by unfold F.pleachref05_Less.B; repeat' first | exact App.val | exact App.no | exact App.lim | exact (App.enter 1 App.lim) | apply App.cond | apply App.guard | apply App.meet | apply App.ite | refine App.bind ?_ fun _ => ?_)) h
noncomputable def F.pleachref05_With (K : Nat) (a0 : List ByteArray) (a1 : ByteArray) : Option ((List ByteArray)) := evFn Try.prog sg K 46 [.sc (.list .str a0 false), .sc (.val (.string a1))] []
noncomputable def F.pleachref05_With.B (c0 : (List ByteArray) → (ByteArray) → Option (Bool)) (c1 : (List ByteArray) → (ByteArray) → Option (Int)) (a0 : List ByteArray) (a1 : ByteArray) : Option ((List ByteArray)) :=
    ((c0 a0 a1).bind fun t0 => (bif t0 then (some a0) else ((c1 a0 a1).bind fun t1 => (guardK (decide (0 ≤ t1) && decide (t1 ≤ (a0.length : Int))) (guardK (decide (0 ≤ t1) && decide (t1 ≤ (a0.length : Int)) && decide ((a0.length : Int) ≤ (a0.length : Int))) (meet (meet (guardK (decide (0 + ((a0.take t1.toNat).drop 0).length ≤ nmax)) (guardK (decide (([] ++ ((a0.take t1.toNat).drop 0)).length + ([a1]).length ≤ nmax)) (guardK (decide ((([] ++ ((a0.take t1.toNat).drop 0)) ++ [a1]).length + ((a0.take ((a0.length : Int).toNat)).drop t1.toNat).length ≤ nmax)) (some ((([] ++ ((a0.take t1.toNat).drop 0)) ++ [a1]) ++ ((a0.take ((a0.length : Int).toNat)).drop t1.toNat)))))) (guardK (decide (0 + ((a0.take t1.toNat).drop 0).length ≤ nmax)) (guardK (decide (([] ++ ((a0.take t1.toNat).drop 0)).length + ([a1]).length ≤ nmax)) (guardK (decide ((([] ++ ((a0.take t1.toNat).drop 0)) ++ [a1]).length + ((a0.take ((a0.length : Int).toNat)).drop t1.toNat).length ≤ nmax)) (some ((([] ++ ((a0.take t1.toNat).drop 0)) ++ [a1]) ++ ((a0.take ((a0.length : Int).toNat)).drop t1.toNat))))))) (guardK (decide (0 + ((a0.take t1.toNat).drop 0).length ≤ nmax)) (guardK (decide (([] ++ ((a0.take t1.toNat).drop 0)).length + ([a1]).length ≤ nmax)) (guardK (decide ((([] ++ ((a0.take t1.toNat).drop 0)) ++ [a1]).length + ((a0.take ((a0.length : Int).toNat)).drop t1.toNat).length ≤ nmax)) (some ((([] ++ ((a0.take t1.toNat).drop 0)) ++ [a1]) ++ ((a0.take ((a0.length : Int).toNat)).drop t1.toNat))))))))))))
theorem F.pleachref05_With.eq K a0 a1 : F.pleachref05_With (K + 1) a0 a1 = F.pleachref05_With.B (F.pleachref05_In K) (F.pleachref05_Less K) a0 a1 := by kernel_rfl
noncomputable def V.pleachref05_With (a0 : List ByteArray) (a1 : ByteArray) := lim fun v => F.pleachref05_With (v 0) a0 a1
theorem V.pleachref05_With.of a0 a1 {r} (h : F.pleachref05_With.B V.pleachref05_In V.pleachref05_Less a0 a1 = some r) : V.pleachref05_With a0 a1 = some r :=
  App.to (App.step 0 (fun v => F.pleachref05_With.eq (v 0) a0 a1) (by unfold F.pleachref05_With.B; repeat' first | exact App.val | exact App.no | exact App.lim | apply App.cond | apply App.guard | apply App.meet | apply App.ite | refine App.bind ?_ fun _ => ?_)) h
noncomputable def F.pleachref25_Label (K : Nat) (a0 : List ByteArray) (a1 : ByteArray) : Option ((List ByteArray) × Int) := evFn Try.prog sg K 18 [.sc (.list .str a0 false), .sc (.val (.string a1))] []
noncomputable def F.pleachref25_Label.B (c0 : (ByteArray) → Option (Bool)) (c1 : (List ByteArray) → (ByteArray) → Option (Bool)) (c2 : (List ByteArray) → (ByteArray) → Option ((List ByteArray))) (a0 : List ByteArray) (a1 : ByteArray) : Option ((List ByteArray) × Int) :=
    ((c0 a1).bind fun t0 => (bif (!t0) then (some ([], 2)) else ((c1 a0 a1).bind fun t1 => (bif t1 then (some ([], 10)) else (bif (decide ((a0.length : Int) ≥ 8)) then (some ([], 5)) else ((c2 a0 a1).bind fun t2 => (some (t2, 0))))))))
theorem F.pleachref25_Label.eq K a0 a1 : F.pleachref25_Label (K + 1) a0 a1 = F.pleachref25_Label.B (F.pleachref05_Is K) (F.pleachref05_In K) (F.pleachref05_With K) a0 a1 := by kernel_rfl
noncomputable def V.pleachref25_Label (a0 : List ByteArray) (a1 : ByteArray) := lim fun v => F.pleachref25_Label (v 0) a0 a1
theorem V.pleachref25_Label.of a0 a1 {r} (h : F.pleachref25_Label.B V.pleachref05_Is V.pleachref05_In V.pleachref05_With a0 a1 = some r) : V.pleachref25_Label a0 a1 = some r :=
  App.to (App.step 0 (fun v => F.pleachref25_Label.eq (v 0) a0 a1) (by unfold F.pleachref25_Label.B; repeat' first | exact App.val | exact App.no | exact App.lim | apply App.cond | apply App.guard | apply App.meet | apply App.ite | refine App.bind ?_ fun _ => ?_)) h
noncomputable def F.slices_Delete_stringstring (K : Nat) (a0 : List ByteArray) (a1 : Int) (a2 : Int) : Option ((List ByteArray)) := evFn Try.prog sg K 76 [.sc (.own 0 none), .sc (.val (.int .i64 a1)), .sc (.val (.int .i64 a2))] [.elems .str a0]
noncomputable def F.slices_Delete_stringstring.B (a0 : List ByteArray) (a1 : Int) (a2 : Int) : Option ((List ByteArray)) :=
    (guardK (decide (0 ≤ a1) && decide (a1 ≤ a2) && decide (a2 ≤ (a0.length : Int)) && decide ((a0.length : Int) ≤ (a0.length : Int))) (bif (a1 == a2) then (some a0) else (guardK (decide (0 ≤ a1) && decide (a1 ≤ (a0.length : Int))) (guardK (decide (0 ≤ a2) && decide (a2 ≤ (a0.length : Int)) && decide ((a0.length : Int) ≤ (a0.length : Int))) (guardK (decide ((a1.toNat + ((a0.take ((a0.length : Int).toNat)).drop a2.toNat).length) ≤ a0.length)) (guardK (decide (0 ≤ (((a1.toNat + ((a0.take ((a0.length : Int).toNat)).drop a2.toNat).length) - 0 : Nat) : Int)) && decide ((((a1.toNat + ((a0.take ((a0.length : Int).toNat)).drop a2.toNat).length) - 0 : Nat) : Int) ≤ (a0.length : Int)) && decide (0 + (a0.length : Int).toNat ≤ (a0.take a1.toNat ++ ((a0.take ((a0.length : Int).toNat)).drop a2.toNat) ++ a0.drop (a1.toNat + ((a0.take ((a0.length : Int).toNat)).drop a2.toNat).length)).length)) (guardK (decide ((0 + (((a1.toNat + ((a0.take ((a0.length : Int).toNat)).drop a2.toNat).length) - 0 : Nat) : Int).toNat) ≤ (0 + (a0.length : Int).toNat)) && decide ((0 + (a0.length : Int).toNat) ≤ (a0.take a1.toNat ++ ((a0.take ((a0.length : Int).toNat)).drop a2.toNat) ++ a0.drop (a1.toNat + ((a0.take ((a0.length : Int).toNat)).drop a2.toNat).length)).length)) (some (((a0.take a1.toNat ++ ((a0.take ((a0.length : Int).toNat)).drop a2.toNat) ++ a0.drop (a1.toNat + ((a0.take ((a0.length : Int).toNat)).drop a2.toNat).length)).take (0 + (((a1.toNat + ((a0.take ((a0.length : Int).toNat)).drop a2.toNat).length) - 0 : Nat) : Int).toNat) ++ List.replicate ((0 + (a0.length : Int).toNat) - (0 + (((a1.toNat + ((a0.take ((a0.length : Int).toNat)).drop a2.toNat).length) - 0 : Nat) : Int).toNat)) (⟨#[]⟩ : ByteArray) ++ (a0.take a1.toNat ++ ((a0.take ((a0.length : Int).toNat)).drop a2.toNat) ++ a0.drop (a1.toNat + ((a0.take ((a0.length : Int).toNat)).drop a2.toNat).length)).drop (0 + (a0.length : Int).toNat)).take (a1.toNat + ((a0.take ((a0.length : Int).toNat)).drop a2.toNat).length))))))))))
theorem F.slices_Delete_stringstring.eq K a0 a1 a2 : F.slices_Delete_stringstring (K + 1) a0 a1 a2 = F.slices_Delete_stringstring.B a0 a1 a2 := by kernel_rfl
noncomputable def V.slices_Delete_stringstring (a0 : List ByteArray) (a1 : Int) (a2 : Int) := lim fun v => F.slices_Delete_stringstring (v 0) a0 a1 a2
theorem V.slices_Delete_stringstring.of a0 a1 a2 {r} (h : F.slices_Delete_stringstring.B a0 a1 a2 = some r) : V.slices_Delete_stringstring a0 a1 a2 = some r :=
  App.to (App.step 0 (fun v => F.slices_Delete_stringstring.eq (v 0) a0 a1 a2) (by unfold F.slices_Delete_stringstring.B; repeat' first | exact App.val | exact App.no | exact App.lim | apply App.cond | apply App.guard | apply App.meet | apply App.ite | refine App.bind ?_ fun _ => ?_)) h
noncomputable def F.name_Without (K : Nat) (a0 : List ByteArray) (a1 : ByteArray) : Option ((List ByteArray) × Bool) := evFn Try.prog sg K 47 [.sc (.list .str a0 false), .sc (.val (.string a1))] []
noncomputable def F.name_Without.B (c0 : (List ByteArray) → (ByteArray) → Option (Int × Bool)) (c1 : (List ByteArray) → Option ((List ByteArray))) (c2 : (List ByteArray) → (Int) → (Int) → Option ((List ByteArray))) (a0 : List ByteArray) (a1 : ByteArray) : Option ((List ByteArray) × Bool) :=
    ((c0 a0 a1).bind fun t0 => (bif (!t0.2) then ((c1 a0).bind fun t1 => (some (t1, false))) else ((c1 a0).bind fun t2 => ((c2 t2 t0.1 (w64 (t0.1 + 1))).bind fun t3 => (some (t3, true))))))
theorem F.name_Without.eq K a0 a1 : F.name_Without (K + 1) a0 a1 = F.name_Without.B (F.name_Find K) (F.slices_Clone_stringstring K) (F.slices_Delete_stringstring K) a0 a1 := by kernel_rfl
noncomputable def V.name_Without (a0 : List ByteArray) (a1 : ByteArray) := lim fun v => F.name_Without (v 0) a0 a1
theorem V.name_Without.of a0 a1 {r} (h : F.name_Without.B V.name_Find V.slices_Clone_stringstring V.slices_Delete_stringstring a0 a1 = some r) : V.name_Without a0 a1 = some r :=
  App.to (App.step 0 (fun v => F.name_Without.eq (v 0) a0 a1) (by unfold F.name_Without.B; repeat' first | exact App.val | exact App.no | exact App.lim | apply App.cond | apply App.guard | apply App.meet | apply App.ite | refine App.bind ?_ fun _ => ?_)) h
noncomputable def F.elem_Unlabel (K : Nat) (a0 : List ByteArray) (a1 : ByteArray) : Option ((List ByteArray) × Int) := evFn Try.prog sg K 19 [.sc (.list .str a0 false), .sc (.val (.string a1))] []
noncomputable def F.elem_Unlabel.B (c0 : (List ByteArray) → (ByteArray) → Option ((List ByteArray) × Bool)) (a0 : List ByteArray) (a1 : ByteArray) : Option ((List ByteArray) × Int) :=
    ((c0 a0 a1).bind fun t0 => (bif (!t0.2) then (some ([], 9)) else (some (t0.1, 0))))
theorem F.elem_Unlabel.eq K a0 a1 : F.elem_Unlabel (K + 1) a0 a1 = F.elem_Unlabel.B (F.name_Without K) a0 a1 := by kernel_rfl
noncomputable def V.elem_Unlabel (a0 : List ByteArray) (a1 : ByteArray) := lim fun v => F.elem_Unlabel (v 0) a0 a1
theorem V.elem_Unlabel.of a0 a1 {r} (h : F.elem_Unlabel.B V.name_Without a0 a1 = some r) : V.elem_Unlabel a0 a1 = some r :=
  App.to (App.step 0 (fun v => F.elem_Unlabel.eq (v 0) a0 a1) (by unfold F.elem_Unlabel.B; repeat' first | exact App.val | exact App.no | exact App.lim | apply App.cond | apply App.guard | apply App.meet | apply App.ite | refine App.bind ?_ fun _ => ?_)) h
noncomputable def F.pleachref05_Only (K : Nat) (a0 : List ByteArray) (a1 : List ByteArray) : Option ((List ByteArray)) := evFn Try.prog sg K 48 [.sc (.list .str a0 false), .sc (.list .str a1 false)] []
noncomputable def F.pleachref05_Only.at (K : Nat) (p ns : List Nat) (s : St) : Option ((List ByteArray)) := atFn Try.prog sg K 48 0 p ns s
noncomputable def F.pleachref05_Only.in (K : Nat) (H : List Nat → List Nat → St → Option ((List ByteArray))) (p ns : List Nat) (s : St) : Option ((List ByteArray)) := inFn Try.prog sg K 48 0 [] H p ns s
theorem F.pleachref05_Only.in_eq K p ns s : F.pleachref05_Only.at K p ns s = F.pleachref05_Only.in K (F.pleachref05_Only.at K) p ns s := atFn_eq (P := Try.prog) (sg := sg) (K := K) (f := 48) (m := 0) [] p ns s
theorem F.pleachref05_Only.in_main K a0 a1 : F.pleachref05_Only (K + 1) a0 a1 = F.pleachref05_Only.in K (F.pleachref05_Only.at K) [] [] ⟨slots [.sc (.list .str a0 false), .sc (.list .str a1 false)] 0, []⟩ := evFn_eq (P := Try.prog) (sg := sg) (K := K) (f := 48) (args := [.sc (.list .str a0 false), .sc (.list .str a1 false)]) (σ := []) [] (by kernel_rfl)
def F.pleachref05_Only.l11010.st (a0 : List ByteArray) (a1 : List ByteArray) (x0 : Int) (x1 : List ByteArray) : St := ⟨[(0, vL .str a0), (1, vL .str a1), (5, .one (.sc (.own 0 none))), (6, vI x0)], [.elems .str x1]⟩
noncomputable def F.pleachref05_Only.l11010 (K n0 : Nat) (a0 : List ByteArray) (a1 : List ByteArray) (x0 : Int) (x1 : List ByteArray) := F.pleachref05_Only.at K [1, 1, 0, 1, 0] [n0] (F.pleachref05_Only.l11010.st a0 a1 x0 x1)
noncomputable def F.pleachref05_Only.l11010.B (c0 : (List ByteArray) → (ByteArray) → Option (Bool)) (c1 : (List ByteArray) → (List ByteArray) → (Int) → (List ByteArray) → Option ((List ByteArray))) (a0 : List ByteArray) (a1 : List ByteArray) (x0 : Int) (x1 : List ByteArray) : Option ((List ByteArray)) :=
    (bif (decide (x0 < (a0.length : Int))) then (guardK (decide (0 ≤ x0) && decide (x0 < (a0.length : Int))) ((c0 a1 (rd .str a0 x0.toNat)).bind fun t0 => (bif (!t0) then (guardK (decide (0 ≤ x0) && decide (x0 < (a0.length : Int))) (guardK (decide (x1.length + ([(rd .str a0 x0.toNat)]).length ≤ nmax)) (c1 a0 a1 (w64 (x0 + 1)) (x1 ++ [(rd .str a0 x0.toNat)])))) else (c1 a0 a1 (w64 (x0 + 1)) x1)))) else (some x1))
theorem F.pleachref05_Only.l11010.eq K n0 a0 a1 x0 x1 : F.pleachref05_Only.l11010 K (n0 + 1) a0 a1 x0 x1 = F.pleachref05_Only.l11010.B (F.pleachref05_In K) (F.pleachref05_Only.l11010 K n0) a0 a1 x0 x1 := (F.pleachref05_Only.in_eq K [1, 1, 0, 1, 0] [n0 + 1] (F.pleachref05_Only.l11010.st a0 a1 x0 x1)).trans ((show ∀ H, F.pleachref05_Only.in K H [1, 1, 0, 1, 0] [n0 + 1] (F.pleachref05_Only.l11010.st a0 a1 x0 x1) = F.pleachref05_Only.l11010.B (F.pleachref05_In K) (fun a0 a1 x0 x1 => H [1, 1, 0, 1, 0] [n0] (F.pleachref05_Only.l11010.st a0 a1 x0 x1)) a0 a1 x0 x1 from by intro H; kernel_rfl) (F.pleachref05_Only.at K))
noncomputable def F.pleachref05_Only.B (c0 : (List ByteArray) → (List ByteArray) → (Int) → (List ByteArray) → Option ((List ByteArray))) (a0 : List ByteArray) (a1 : List ByteArray) : Option ((List ByteArray)) :=
    (c0 a0 a1 0 ([]))
theorem F.pleachref05_Only.eq K a0 a1 : F.pleachref05_Only (K + 1) a0 a1 = F.pleachref05_Only.B (F.pleachref05_Only.l11010 K K) a0 a1 := (F.pleachref05_Only.in_main K a0 a1).trans ((show ∀ H, F.pleachref05_Only.in K H [] [] ⟨slots [.sc (.list .str a0 false), .sc (.list .str a1 false)] 0, []⟩ = F.pleachref05_Only.B (fun a0 a1 x0 x1 => H [1, 1, 0, 1, 0] [K] (F.pleachref05_Only.l11010.st a0 a1 x0 x1)) a0 a1 from by intro H; kernel_rfl) (F.pleachref05_Only.at K))
noncomputable def V.pleachref05_Only.l11010 (a0 : List ByteArray) (a1 : List ByteArray) (x0 : Int) (x1 : List ByteArray) := lim fun v => F.pleachref05_Only.l11010 (v 0) (v 1) a0 a1 x0 x1
noncomputable def V.pleachref05_Only (a0 : List ByteArray) (a1 : List ByteArray) := lim fun v => F.pleachref05_Only (v 0) a0 a1
theorem V.pleachref05_Only.l11010.of a0 a1 x0 x1 {r} (h : F.pleachref05_Only.l11010.B V.pleachref05_In V.pleachref05_Only.l11010 a0 a1 x0 x1 = some r) : V.pleachref05_Only.l11010 a0 a1 x0 x1 = some r :=
  App.to (App.step 1 (fun v => F.pleachref05_Only.l11010.eq (v 0) (v 1) a0 a1 x0 x1) (by unfold F.pleachref05_Only.l11010.B; repeat' first | exact App.val | exact App.no | exact App.lim | apply App.cond | apply App.guard | apply App.meet | apply App.ite | refine App.bind ?_ fun _ => ?_)) h
theorem V.pleachref05_Only.of a0 a1 {r} (h : F.pleachref05_Only.B V.pleachref05_Only.l11010 a0 a1 = some r) : V.pleachref05_Only a0 a1 = some r :=
  App.to (App.step 0 (fun v => F.pleachref05_Only.eq (v 0) a0 a1) (by unfold F.pleachref05_Only.B; repeat' first | exact App.val | exact App.no | exact App.lim | exact (App.enter 1 App.lim) | apply App.cond | apply App.guard | apply App.meet | apply App.ite | refine App.bind ?_ fun _ => ?_)) h
noncomputable def F.pleachref25_Unlabel (K : Nat) (a0 : List ByteArray) (a1 : ByteArray) : Option ((List ByteArray) × Int) := evFn Try.prog sg K 20 [.sc (.list .str a0 false), .sc (.val (.string a1))] []
noncomputable def F.pleachref25_Unlabel.B (c0 : (List ByteArray) → (ByteArray) → Option (Bool)) (c1 : (List ByteArray) → (List ByteArray) → Option ((List ByteArray))) (a0 : List ByteArray) (a1 : ByteArray) : Option ((List ByteArray) × Int) :=
    ((c0 a0 a1).bind fun t0 => (bif (!t0) then (some ([], 9)) else ((c1 a0 ([a1])).bind fun t1 => (some (t1, 0)))))
theorem F.pleachref25_Unlabel.eq K a0 a1 : F.pleachref25_Unlabel (K + 1) a0 a1 = F.pleachref25_Unlabel.B (F.pleachref05_In K) (F.pleachref05_Only K) a0 a1 := by kernel_rfl
noncomputable def V.pleachref25_Unlabel (a0 : List ByteArray) (a1 : ByteArray) := lim fun v => F.pleachref25_Unlabel (v 0) a0 a1
theorem V.pleachref25_Unlabel.of a0 a1 {r} (h : F.pleachref25_Unlabel.B V.pleachref05_In V.pleachref05_Only a0 a1 = some r) : V.pleachref25_Unlabel a0 a1 = some r :=
  App.to (App.step 0 (fun v => F.pleachref25_Unlabel.eq (v 0) a0 a1) (by unfold F.pleachref25_Unlabel.B; repeat' first | exact App.val | exact App.no | exact App.lim | apply App.cond | apply App.guard | apply App.meet | apply App.ite | refine App.bind ?_ fun _ => ?_)) h
noncomputable def F.pleachref25_SameTexts (K : Nat) (a0 : List ByteArray) (a1 : List ByteArray) : Option (Bool) := evFn Try.prog sg K 21 [.sc (.list .str a0 false), .sc (.list .str a1 false)] []
noncomputable def F.pleachref25_SameTexts.at (K : Nat) (p ns : List Nat) (s : St) : Option (Bool) := atFn Try.prog sg K 21 0 p ns s
noncomputable def F.pleachref25_SameTexts.in (K : Nat) (H : List Nat → List Nat → St → Option (Bool)) (p ns : List Nat) (s : St) : Option (Bool) := inFn Try.prog sg K 21 0 [] H p ns s
theorem F.pleachref25_SameTexts.in_eq K p ns s : F.pleachref25_SameTexts.at K p ns s = F.pleachref25_SameTexts.in K (F.pleachref25_SameTexts.at K) p ns s := atFn_eq (P := Try.prog) (sg := sg) (K := K) (f := 21) (m := 0) [] p ns s
theorem F.pleachref25_SameTexts.in_main K a0 a1 : F.pleachref25_SameTexts (K + 1) a0 a1 = F.pleachref25_SameTexts.in K (F.pleachref25_SameTexts.at K) [] [] ⟨slots [.sc (.list .str a0 false), .sc (.list .str a1 false)] 0, []⟩ := evFn_eq (P := Try.prog) (sg := sg) (K := K) (f := 21) (args := [.sc (.list .str a0 false), .sc (.list .str a1 false)]) (σ := []) [] (by kernel_rfl)
def F.pleachref25_SameTexts.l11010.st (a0 : List ByteArray) (a1 : List ByteArray) (x0 : Int) : St := ⟨[(0, vL .str a0), (1, vL .str a1), (5, vI x0)], []⟩
noncomputable def F.pleachref25_SameTexts.l11010 (K n0 : Nat) (a0 : List ByteArray) (a1 : List ByteArray) (x0 : Int) := F.pleachref25_SameTexts.at K [1, 1, 0, 1, 0] [n0] (F.pleachref25_SameTexts.l11010.st a0 a1 x0)
noncomputable def F.pleachref25_SameTexts.l11010.B (c0 : (List ByteArray) → (List ByteArray) → (Int) → Option (Bool)) (a0 : List ByteArray) (a1 : List ByteArray) (x0 : Int) : Option (Bool) :=
    (bif (decide (x0 < (a0.length : Int))) then (guardK (decide (0 ≤ x0) && decide (x0 < (a0.length : Int))) (guardK (decide (0 ≤ x0) && decide (x0 < (a1.length : Int))) (bif (!strEq (rd .str a0 x0.toNat) (rd .str a1 x0.toNat)) then (some false) else (c0 a0 a1 (w64 (x0 + 1)))))) else (some true))
theorem F.pleachref25_SameTexts.l11010.eq K n0 a0 a1 x0 : F.pleachref25_SameTexts.l11010 K (n0 + 1) a0 a1 x0 = F.pleachref25_SameTexts.l11010.B (F.pleachref25_SameTexts.l11010 K n0) a0 a1 x0 := (F.pleachref25_SameTexts.in_eq K [1, 1, 0, 1, 0] [n0 + 1] (F.pleachref25_SameTexts.l11010.st a0 a1 x0)).trans ((show ∀ H, F.pleachref25_SameTexts.in K H [1, 1, 0, 1, 0] [n0 + 1] (F.pleachref25_SameTexts.l11010.st a0 a1 x0) = F.pleachref25_SameTexts.l11010.B (fun a0 a1 x0 => H [1, 1, 0, 1, 0] [n0] (F.pleachref25_SameTexts.l11010.st a0 a1 x0)) a0 a1 x0 from by intro H; kernel_rfl) (F.pleachref25_SameTexts.at K))
noncomputable def F.pleachref25_SameTexts.B (c0 : (List ByteArray) → (List ByteArray) → (Int) → Option (Bool)) (a0 : List ByteArray) (a1 : List ByteArray) : Option (Bool) :=
    (bif ((a0.length : Int) != (a1.length : Int)) then (some false) else (c0 a0 a1 0))
theorem F.pleachref25_SameTexts.eq K a0 a1 : F.pleachref25_SameTexts (K + 1) a0 a1 = F.pleachref25_SameTexts.B (F.pleachref25_SameTexts.l11010 K K) a0 a1 := (F.pleachref25_SameTexts.in_main K a0 a1).trans ((show ∀ H, F.pleachref25_SameTexts.in K H [] [] ⟨slots [.sc (.list .str a0 false), .sc (.list .str a1 false)] 0, []⟩ = F.pleachref25_SameTexts.B (fun a0 a1 x0 => H [1, 1, 0, 1, 0] [K] (F.pleachref25_SameTexts.l11010.st a0 a1 x0)) a0 a1 from by intro H; kernel_rfl) (F.pleachref25_SameTexts.at K))
noncomputable def V.pleachref25_SameTexts.l11010 (a0 : List ByteArray) (a1 : List ByteArray) (x0 : Int) := lim fun v => F.pleachref25_SameTexts.l11010 (v 0) (v 1) a0 a1 x0
noncomputable def V.pleachref25_SameTexts (a0 : List ByteArray) (a1 : List ByteArray) := lim fun v => F.pleachref25_SameTexts (v 0) a0 a1
theorem V.pleachref25_SameTexts.l11010.of a0 a1 x0 {r} (h : F.pleachref25_SameTexts.l11010.B V.pleachref25_SameTexts.l11010 a0 a1 x0 = some r) : V.pleachref25_SameTexts.l11010 a0 a1 x0 = some r :=
  App.to (App.step 1 (fun v => F.pleachref25_SameTexts.l11010.eq (v 0) (v 1) a0 a1 x0) (by unfold F.pleachref25_SameTexts.l11010.B; repeat' first | exact App.val | exact App.no | exact App.lim | apply App.cond | apply App.guard | apply App.meet | apply App.ite | refine App.bind ?_ fun _ => ?_)) h
theorem V.pleachref25_SameTexts.of a0 a1 {r} (h : F.pleachref25_SameTexts.B V.pleachref25_SameTexts.l11010 a0 a1 = some r) : V.pleachref25_SameTexts a0 a1 = some r :=
  App.to (App.step 0 (fun v => F.pleachref25_SameTexts.eq (v 0) a0 a1) (by unfold F.pleachref25_SameTexts.B; repeat' first | exact App.val | exact App.no | exact App.lim | exact (App.enter 1 App.lim) | apply App.cond | apply App.guard | apply App.meet | apply App.ite | refine App.bind ?_ fun _ => ?_)) h
noncomputable def F.pleachlaw25_ElemTurns (K : Nat) (a0 : List ByteArray) (a1 : List TProp) (a2 : ByteArray) (a3 : TValue) : Option (Bool) := evFn Try.prog sg K 3 [.sc (.list .str a0 false), .sc (.list sProp a1 false), .sc (.val (.string a2)), .agg [.val (.int .i64 a3.1), .val (.int .i64 a3.2.1), .val (.string a3.2.2)]] []
noncomputable def F.pleachlaw25_ElemTurns.B (c0 : (List ByteArray) → (List TProp) → Option (Bool)) (c1 : Option (Bool)) (c2 : (List ByteArray) → Option (Bool)) (c3 : (List TProp) → Option (Int)) (c4 : (List TProp) → (ByteArray) → (TValue) → Option ((List TProp) × Int)) (c5 : (List TProp) → (ByteArray) → (TValue) → Option ((List TProp) × Int)) (c6 : (List TProp) → (ByteArray) → Option ((List TProp) × Int)) (c7 : (List TProp) → (ByteArray) → Option ((List TProp) × Int)) (c8 : (List TProp) → (ByteArray) → Option (TValue × Bool)) (c9 : (List TProp) → (ByteArray) → Option (TValue × Bool)) (c10 : (List TProp) → (List TProp) → Option (Bool)) (c11 : (List ByteArray) → (ByteArray) → Option ((List ByteArray) × Int)) (c12 : (List ByteArray) → (ByteArray) → Option ((List ByteArray) × Int)) (c13 : (List ByteArray) → (ByteArray) → Option ((List ByteArray) × Int)) (c14 : (List ByteArray) → (ByteArray) → Option ((List ByteArray) × Int)) (c15 : (List ByteArray) → (List ByteArray) → Option (Bool)) (a0 : List ByteArray) (a1 : List TProp) (a2 : ByteArray) (a3 : TValue) : Option (Bool) :=
    ((c0 a0 a1).bind fun t0 => (bif (!t0) then ((c1).bind fun t1 => (some t1)) else (bif (decide ((a2.size : Int) > 100)) then ((c1).bind fun t2 => (some t2)) else (bif (decide ((a3.2.2.size : Int) > 100)) then ((c1).bind fun t3 => (some t3)) else ((c2 a0).bind fun t4 => (bif (!t4) then ((c1).bind fun t5 => (some t5)) else ((c3 a1).bind fun t6 => (bif (t6 != 0) then ((c1).bind fun t7 => (some t7)) else ((c4 a1 a2 (a3.1, a3.2.1, a3.2.2)).bind fun t8 => ((c5 a1 a2 (a3.1, a3.2.1, a3.2.2)).bind fun t9 => ((c6 a1 a2).bind fun t10 => ((c7 a1 a2).bind fun t11 => ((c8 a1 a2).bind fun t12 => ((c9 a1 a2).bind fun t13 => ((c10 t8.1 t9.1).bind fun t14 => (bif (!t14) then (some false) else (bif (t8.2 != t9.2) then (some false) else ((c10 t10.1 t11.1).bind fun t15 => (bif (!t15) then (some false) else (bif (t10.2 != t11.2) then (some false) else (bif (!((t12.1.1 == t13.1.1) && ((t12.1.2.1 == t13.1.2.1) && ((strEq t12.1.2.2 t13.1.2.2) && true)))) then (some false) else (bif (!(t12.2 == t13.2)) then (some false) else ((c11 a0 a2).bind fun t16 => ((c12 a0 a2).bind fun t17 => ((c13 a0 a2).bind fun t18 => ((c14 a0 a2).bind fun t19 => ((c15 t16.1 t17.1).bind fun t20 => (bif t20 then (bif (t16.2 == t17.2) then ((c15 t18.1 t19.1).bind fun t21 => (bif t21 then (bif (t18.2 == t19.2) then ((c1).bind fun t22 => (some t22)) else (some false)) else (some false))) else (some false)) else (some false)))))))))))))))))))))))))))))
theorem F.pleachlaw25_ElemTurns.eq K a0 a1 a2 a3 : F.pleachlaw25_ElemTurns (K + 1) a0 a1 a2 a3 = F.pleachlaw25_ElemTurns.B (F.pleachlaw25_few K) (F.pleachlaw25_awake K) (F.pleachref05_Rises K) (F.pleachref25_Props K) (F.elem_Set K) (F.pleachref25_Set K) (F.elem_Unset K) (F.pleachref25_Unset K) (F.elem_Get K) (F.pleachref25_Get K) (F.pleachref25_SameProps K) (F.elem_Label K) (F.pleachref25_Label K) (F.elem_Unlabel K) (F.pleachref25_Unlabel K) (F.pleachref25_SameTexts K) a0 a1 a2 a3 := by kernel_rfl
noncomputable def V.pleachlaw25_ElemTurns (a0 : List ByteArray) (a1 : List TProp) (a2 : ByteArray) (a3 : TValue) := lim fun v => F.pleachlaw25_ElemTurns (v 0) a0 a1 a2 a3
theorem V.pleachlaw25_ElemTurns.of a0 a1 a2 a3 {r} (h : F.pleachlaw25_ElemTurns.B V.pleachlaw25_few V.pleachlaw25_awake V.pleachref05_Rises V.pleachref25_Props V.elem_Set V.pleachref25_Set V.elem_Unset V.pleachref25_Unset V.elem_Get V.pleachref25_Get V.pleachref25_SameProps V.elem_Label V.pleachref25_Label V.elem_Unlabel V.pleachref25_Unlabel V.pleachref25_SameTexts a0 a1 a2 a3 = some r) : V.pleachlaw25_ElemTurns a0 a1 a2 a3 = some r :=
  App.to (App.step 0 (fun v => F.pleachlaw25_ElemTurns.eq (v 0) a0 a1 a2 a3) (by unfold F.pleachlaw25_ElemTurns.B; repeat' first | exact App.val | exact App.no | exact App.lim | apply App.cond | apply App.guard | apply App.meet | apply App.ite | refine App.bind ?_ fun _ => ?_)) h
end Go.Proofs.Ytnadmjhidogmcaa.AE
end
section
set_option linter.unusedVariables false
set_option linter.unusedSimpArgs false
namespace Go.Proofs.Ytnadmjhidogmcaa.AE
open Go

theorem w64_id {x : Int} (h0 : -9223372036854775808 ≤ x) (h1 : x ≤ 9223372036854775807) : w64 x = x := by
  show IntKind.i64.wrap x = x
  simp [IntKind.wrap, IntKind.bits, IntKind.signed]
  omega
theorem u64_id {x : Int} (h0 : 0 ≤ x) (h1 : x ≤ 18446744073709551615) : IntKind.wrap .u64 x = x := by
  have : IntKind.u64.wrap x = x % 18446744073709551616 := by simp [IntKind.wrap, IntKind.bits, IntKind.signed]
  rw [this]; omega
theorem u64_mod (x : Int) : IntKind.wrap .u64 x = x % 18446744073709551616 := by simp [IntKind.wrap, IntKind.bits, IntKind.signed]
theorem u8_mod (x : Int) : IntKind.wrap .u8 x = x % 256 := by simp [IntKind.wrap, IntKind.bits, IntKind.signed]
theorem w64_up {i n : Nat} (h : i < n) (hn : n ≤ 140737488351232) : w64 ((i : Int) + 1) = ((i + 1 : Nat) : Int) := by rw [w64_id (by omega) (by omega)]; omega
theorem w64_dn {i n : Nat} (h : i < n) (hn : n ≤ 140737488351232) (h0 : 0 < i) : w64 ((i : Int) - 1) = ((i - 1 : Nat) : Int) := by rw [w64_id (by omega) (by omega)]; omega

theorem guard_of {α : Type} {g : Bool} {a : Option α} (h : g = true) : guardK g a = a := by rw [h]; rfl
theorem guard_dec {α : Type} {p : Prop} [Decidable p] {a : Option α} (h : p) : guardK (decide p) a = a := guard_of (decide_eq_true h)
/-- Inside a row. -/
theorem guard_in {α : Type} {i n : Nat} {a : Option α} (h : i < n) : guardK (decide (0 ≤ (i : Int)) && decide ((i : Int) < (n : Int))) a = a := guard_of (by simp [h])
theorem if_in {α : Type} {i n : Nat} {a b : α} (h : i < n) : (bif decide ((i : Int) < (n : Int)) then a else b) = a := by simp [h]
theorem if_out {α : Type} {i n : Nat} {a b : α} (h : n ≤ i) : (bif decide ((i : Int) < (n : Int)) then a else b) = b := by simp [Nat.not_lt.2 h]
theorem if_yes {α : Type} {p : Prop} [Decidable p] {a b : α} (h : p) : (bif decide p then a else b) = a := by simp [h]
theorem if_no {α : Type} {p : Prop} [Decidable p] {a b : α} (h : ¬ p) : (bif decide p then a else b) = b := by simp [h]
theorem nat_cast (i : Nat) : ((i : Nat) : Int).toNat = i := rfl
theorem meet_self {α : Type} (a : Option α) : meet a a = a := by unfold meet; simp
theorem data_len (s : ByteArray) : s.data.toList.length = s.size := by rw [Array.length_toList]; rfl
theorem toList_size (s : ByteArray) : s.toList.length = s.size := by rw [ByteArray.toList_eq]; exact data_len s
theorem toList_nil {s : ByteArray} : s.toList = [] ↔ s.size = 0 := by
  rw [← toList_size, List.length_eq_zero_iff]
theorem bytes_ext {s t : ByteArray} (h : s.toList = t.toList) : s = t := by
  rw [ByteArray.toList_eq, ByteArray.toList_eq] at h
  have : s.data = t.data := by rwa [← Array.toList_inj]
  cases s; cases t; simp_all
theorem strEq_iff {s t : ByteArray} : strEq s t = true ↔ s = t := by
  unfold strEq
  rw [beq_iff_eq]
  exact ⟨bytes_ext, fun h => by rw [h]⟩
theorem strEq_self (s : ByteArray) : strEq s s = true := strEq_iff.2 rfl
theorem strEq_no {s t : ByteArray} (h : s ≠ t) : strEq s t = false := by
  cases hb : strEq s t with
  | false => rfl
  | true => exact absurd (strEq_iff.1 hb) h
theorem strEq_dec (s t : ByteArray) : strEq s t = decide (s = t) := by
  by_cases h : s = t
  · rw [h, strEq_self]; simp
  · rw [strEq_no h]; simp [h]
theorem strEq_comm (s t : ByteArray) : strEq s t = strEq t s := by
  by_cases h : s = t
  · rw [h]
  · rw [strEq_no h, strEq_no (fun e => h e.symm)]
/-! ### The order of texts -/

theorem less_leq : ∀ x y : List UInt8, (Op.bytesLess x y || x == y) = !(Op.bytesLess y x)
  | [], [] => by simp [Op.bytesLess]
  | [], b :: y => by simp [Op.bytesLess]
  | a :: x, [] => by simp [Op.bytesLess]
  | a :: x, b :: y => by
    have ih := less_leq x y
    by_cases h1 : a < b
    · have h2 : ¬ b < a := by simp only [UInt8.lt_iff_toNat_lt] at *; omega
      have h3 : ¬ b = a := by rintro rfl; simp at h1
      simp [Op.bytesLess, h1, h2, h3]
    · by_cases h2 : b < a
      · have h3 : ¬ b = a := by rintro rfl; simp at h2
        have h4 : ¬ a = b := fun h => h3 h.symm
        simp [Op.bytesLess, h1, h2, h4]
      · have h3 : a = b := by
          apply UInt8.toNat_inj.1
          simp only [UInt8.lt_iff_toNat_lt] at *
          omega
        subst h3
        simp [Op.bytesLess, h1] at ih ⊢
        exact ih
theorem less_irr : ∀ x : List UInt8, Op.bytesLess x x = false
  | [] => rfl
  | a :: x => by
    have : ¬ a < a := by simp
    simp [Op.bytesLess, less_irr x, this]
theorem less_trans : ∀ x y z : List UInt8, Op.bytesLess x y = true → Op.bytesLess y z = true → Op.bytesLess x z = true
  | _, [], _, h, _ => by simp [Op.bytesLess] at h
  | _, _ :: _, [], _, h => by simp [Op.bytesLess] at h
  | [], b :: y, c :: z, _, _ => rfl
  | a :: x, b :: y, c :: z, h1, h2 => by
    simp only [Op.bytesLess, Bool.or_eq_true, Bool.and_eq_true, decide_eq_true_eq, beq_iff_eq] at h1 h2 ⊢
    rcases h1 with h1 | ⟨rfl, h1⟩
    · rcases h2 with h2 | ⟨rfl, h2⟩
      · left; simp only [UInt8.lt_iff_toNat_lt] at *; omega
      · exact .inl h1
    · rcases h2 with h2 | ⟨rfl, h2⟩
      · exact .inl h2
      · exact .inr ⟨rfl, less_trans x y z h1 h2⟩
/-- Of two texts one is less, or they are the same. -/
theorem lt_or (a b : ByteArray) : (strLt a b || strEq a b) = !strLt b a := less_leq a.toList b.toList
theorem lt_irr (a : ByteArray) : strLt a a = false := less_irr a.toList
theorem lt_trans {a b c : ByteArray} (h : strLt a b = true) (g : strLt b c = true) : strLt a c = true := less_trans _ _ _ h g
theorem lt_asymm {a b : ByteArray} (h : strLt a b = true) : strLt b a = false := by
  cases hb : strLt b a with
  | false => rfl
  | true => have := lt_trans h hb; rw [lt_irr] at this; cases this
theorem lt_ne {a b : ByteArray} (h : strLt a b = true) : a ≠ b := fun e => by rw [e, lt_irr] at h; cases h
theorem lt_total {a b : ByteArray} (h : strLt a b = false) (hn : a ≠ b) : strLt b a = true := by
  have := lt_or a b
  rw [h, strEq_no hn] at this
  cases hb : strLt b a with
  | true => rfl
  | false => rw [hb] at this; simp at this
theorem size_zero {s : ByteArray} (h : s.size = 0) : s = (⟨#[]⟩ : ByteArray) := by
  apply bytes_ext
  rw [toList_nil.2 h]
  exact (toList_nil.2 rfl).symm
theorem strEq_nil (s : ByteArray) : strEq s (⟨#[]⟩ : ByteArray) = (s.size == 0) := by
  rw [Bool.eq_iff_iff, strEq_iff]
  simp only [beq_iff_eq]
  exact ⟨fun h => by rw [h]; rfl, size_zero⟩
theorem strOfNums_size (xs : List Int) : (bytesOf xs).size = xs.length := by unfold bytesOf; simp [ByteArray.size]
theorem strOfNums_append (xs ys : List Int) : bytesOf (xs ++ ys) = bytesOf xs ++ bytesOf ys := by
  apply ByteArray.ext
  simp [bytesOf]
theorem rd_get {e : Sh} {l : List (den e)} {i : Nat} (h : i < l.length) : rd e l i = l[i] := by
  simp [rd, List.getD_eq_getElem?_getD, List.getElem?_eq_getElem h]
theorem rd_mem {e : Sh} {l : List (den e)} {i : Nat} (h : i < l.length) : rd e l i ∈ l := by rw [rd_get h]; exact List.getElem_mem h
theorem drop_rd {e : Sh} {l : List (den e)} {i : Nat} (h : i < l.length) : l.drop i = rd e l i :: l.drop (i + 1) := by rw [rd_get h]; exact List.drop_eq_getElem_cons h
/-- A loop that ends at the first place at which the step tells something; else what is told at the end. -/
def scanG {α : Type} (step : Nat → Option α) (fin : α) : Nat → Nat → α
  | 0, _ => fin
  | d + 1, i => match step i with
    | some r => r
    | none => scanG step fin d (i + 1)
abbrev scanI (step : Nat → Option Int) : Nat → Nat → Int := scanG step 0
theorem scanG_succ {α : Type} (step : Nat → Option α) (fin : α) (d i : Nat) : scanG step fin (d + 1) i = (step i).getD (scanG step fin d (i + 1)) := by
  show (match step i with | some r => r | none => scanG step fin d (i + 1)) = _
  cases step i <;> rfl
theorem scanI_succ (step : Nat → Option Int) (d i : Nat) : scanI step (d + 1) i = (step i).getD (scanI step d (i + 1)) := scanG_succ step 0 d i
end Go.Proofs.Ytnadmjhidogmcaa.AE
end
section
set_option linter.unusedVariables false
set_option linter.unusedSimpArgs false
namespace Go.Proofs.Ytnadmjhidogmcaa.AE
open Go

def okc (c : Int) : Bool := (decide (97 ≤ c) && decide (c ≤ 122)) || (decide (48 ≤ c) && decide (c ≤ 57)) || c == 45
theorem name_fits_ok (c : Int) : V.name_fits c = some (okc c) := by
  refine V.name_fits.of _ ?_
  unfold F.name_fits.B okc
  by_cases a1 : c ≥ 97 <;> by_cases a2 : c ≤ 122 <;> by_cases a3 : c ≥ 48 <;> by_cases a4 : c ≤ 57 <;> simp [Bool.cond_eq_ite, a1, a2, a3, a4] <;> omega
/-- From place i on, d bytes, all fit. -/
def okFrom (s : ByteArray) : Nat → Nat → Bool
  | 0, _ => true
  | d + 1, i => okc (byteAt s i) && okFrom s d (i + 1)
def nameB (s : ByteArray) : Bool := decide (1 ≤ s.size) && decide (s.size ≤ 12) && okFrom s s.size 0

theorem name_Check_l (s : ByteArray) (hs : s.size ≤ 140737488351232) : ∀ d i : Nat, i + d = s.size → V.name_Check.l11010 s (i : Int) = some (if okFrom s d i then 0 else 2)
  | 0, i, h => by
    refine V.name_Check.l11010.of _ _ ?_
    unfold F.name_Check.l11010.B
    rw [if_out (by omega)]
    simp [okFrom]
  | d + 1, i, h => by
    refine V.name_Check.l11010.of _ _ ?_
    unfold F.name_Check.l11010.B
    rw [if_in (by omega), guard_in (by omega), name_fits_ok, Option.bind_some, w64_up (show i < s.size by omega) hs, name_Check_l s hs d (i + 1) (by omega)]
    cases hc : okc (byteAt s (i : Int)) <;> simp [okFrom, hc]
theorem name_Check_ok (s : ByteArray) (hs : s.size ≤ 140737488351232) : V.name_Check s = some (if nameB s then 0 else 2) := by
  refine V.name_Check.of _ ?_
  unfold F.name_Check.B
  rw [strEq_nil]
  have := name_Check_l s hs s.size 0 (by omega)
  rw [show (0 : Int) = ((0 : Nat) : Int) from rfl, this]
  by_cases h0 : s.size = 0
  · simp [Bool.cond_eq_ite, h0, nameB]
  · by_cases h2 : s.size ≤ 12
    · have h1 : 1 ≤ s.size := by omega
      have h3 : ¬ (s.size : Int) > 12 := by omega
      simp [Bool.cond_eq_ite, h0, h1, h2, h3, nameB]
    · have h3 : (s.size : Int) > 12 := by omega
      simp [Bool.cond_eq_ite, h0, h2, h3, nameB]

theorem refIs_l (s : ByteArray) (hs : s.size ≤ 140737488351232) : ∀ d i : Nat, i + d = s.size → V.pleachref05_Is.l1010 s (i : Int) = some (okFrom s d i && (decide (1 ≤ s.size) && decide (s.size ≤ 12)))
  | 0, i, h => by
    refine V.pleachref05_Is.l1010.of _ _ ?_
    unfold F.pleachref05_Is.l1010.B
    rw [if_out (by omega)]
    by_cases h1 : 1 ≤ s.size
    · have h2 : (s.size : Int) ≥ 1 := by omega
      simp [okFrom, h1, h2]
      omega
    · have h2 : ¬ (s.size : Int) ≥ 1 := by omega
      simp [okFrom, h1, h2]
  | d + 1, i, h => by
    refine V.pleachref05_Is.l1010.of _ _ ?_
    unfold F.pleachref05_Is.l1010.B
    rw [if_in (by omega)]
    simp only [guard_in (show i < s.size by omega), w64_up (show i < s.size by omega) hs, refIs_l s hs d (i + 1) (by omega), okFrom, okc]
    generalize byteAt s (i : Int) = c
    generalize okFrom s d (i + 1) = b
    by_cases a1 : c ≥ 97 <;> by_cases a2 : c ≤ 122 <;> by_cases a3 : c ≥ 48 <;> by_cases a4 : c ≤ 57 <;> by_cases a5 : c = 45 <;> simp [Bool.cond_eq_ite, a1, a2, a3, a4, a5] <;> omega
theorem refIs_ok (s : ByteArray) (hs : s.size ≤ 140737488351232) : V.pleachref05_Is s = some (nameB s) := by
  refine V.pleachref05_Is.of _ ?_
  unfold F.pleachref05_Is.B
  rw [show (0 : Int) = ((0 : Nat) : Int) from rfl, refIs_l s hs s.size 0 (by omega), nameB, Bool.and_comm]

def valueB (v : TValue) : Bool := (v.1 == 1 && (v.2.1 == 0 || v.2.1 == 1) && v.2.2.size == 0) || (v.1 == 2 && v.2.2.size == 0) || (v.1 == 3 && v.2.1 == 0 && decide (v.2.2.size ≤ 64))
theorem value_Check_ok (v : TValue) : V.value_Check v = some (if valueB v then 0 else 2) := by
  refine V.value_Check.of _ ?_
  obtain ⟨a, b, s⟩ := v
  unfold F.value_Check.B valueB
  simp only [strEq_nil]
  by_cases a1 : a = 1
  · subst a1
    by_cases b0 : b = 0 <;> by_cases b1 : b = 1 <;> by_cases s0 : s.size = 0 <;> simp [Bool.cond_eq_ite, b0, b1, s0]
  · by_cases a2 : a = 2
    · subst a2
      by_cases s0 : s.size = 0 <;> simp [Bool.cond_eq_ite, s0]
    · by_cases a3 : a = 3
      · subst a3
        by_cases b0 : b = 0 <;> by_cases s0 : s.size ≤ 64 <;> simp [Bool.cond_eq_ite, b0, s0] <;> omega
      · simp [Bool.cond_eq_ite, a1, a2, a3]
theorem refVIs_ok (v : TValue) : V.pleachref06_Is v = some (valueB v) := by
  refine V.pleachref06_Is.of _ ?_
  obtain ⟨a, b, s⟩ := v
  unfold F.pleachref06_Is.B valueB
  simp only [strEq_nil]
  by_cases a1 : a = 1
  · subst a1
    by_cases s0 : s.size = 0 <;> by_cases b0 : b ≥ 0 <;> by_cases b1 : b ≤ 1 <;> simp [Bool.cond_eq_ite, b0, b1, s0] <;> omega
  · by_cases a2 : a = 2
    · subst a2
      by_cases s0 : s.size = 0 <;> simp [Bool.cond_eq_ite, s0]
    · by_cases a3 : a = 3
      · subst a3
        by_cases b0 : b = 0 <;> by_cases s0 : s.size ≤ 64 <;> simp [Bool.cond_eq_ite, b0, s0] <;> omega
      · simp [Bool.cond_eq_ite, a1, a2, a3]

/-! ### Rows that rise -/

def okProps (l : List TProp) : Prop := l.length ≤ 140737488351232 ∧ ∀ p ∈ l, p.1.size ≤ 140737488351232 ∧ p.2.2.2.size ≤ 140737488351232 ∧ -9223372036854775808 ≤ p.2.2.1 ∧ p.2.2.1 ≤ 9223372036854775807
def okTexts (l : List ByteArray) : Prop := l.length ≤ 140737488351232 ∧ ∀ s ∈ l, s.size ≤ 140737488351232
def propStep (l : List TProp) (i : Nat) : Option Int :=
  if (nameB (rd sProp l i).1 && valueB (rd sProp l i).2) = false then some 2
  else if 0 < i ∧ strLt (rd sProp l (i - 1)).1 (rd sProp l i).1 = false then some 4 else none
def textStep (l : List ByteArray) (i : Nat) : Option Int :=
  if nameB (rd .str l i) = false then some 2
  else if 0 < i ∧ strLt (rd .str l (i - 1)) (rd .str l i) = false then some 4 else none
def propsN (l : List TProp) : Int := if l.length > 8 then 5 else scanI (propStep l) l.length 0
def rowN (l : List ByteArray) : Int := scanI (textStep l) l.length 0
def restN (labels : List ByteArray) (props : List TProp) : Int := if labels.length > 8 then 5 else if rowN labels = 0 then propsN props else rowN labels

theorem CheckProps_l (l : List TProp) (hl : okProps l) : ∀ d i : Nat, i + d = l.length → V.elem_CheckProps.l11010 l (i : Int) = some (scanI (propStep l) d i)
  | 0, i, h => by
    refine V.elem_CheckProps.l11010.of _ _ ?_
    unfold F.elem_CheckProps.l11010.B
    rw [if_out (by omega)]
    rfl
  | d + 1, i, h => by
    refine V.elem_CheckProps.l11010.of _ _ ?_
    unfold F.elem_CheckProps.l11010.B
    have hi : i < l.length := by omega
    rw [if_in hi, guard_in hi]
    simp only [nat_cast, name_Check_ok _ (hl.2 _ (rd_mem (e := sProp) hi)).1, Option.bind_some, value_Check_ok, w64_up hi hl.1, CheckProps_l l hl d (i + 1) (by omega)]
    rw [scanI_succ]
    unfold propStep
    cases hn : nameB (rd sProp l i).1 with
    | false => simp
    | true =>
      cases hv : valueB (rd sProp l i).2 with
      | false => simp [hv]
      | true =>
        by_cases h0 : 0 < i
        · rw [w64_dn hi hl.1 h0, guard_in (show i - 1 < l.length by omega), nat_cast]
          cases hless : strLt (rd sProp l (i - 1)).1 (rd sProp l i).1 <;> simp [hless, hv, h0]
        · have h0 : i = 0 := by omega
          subst h0
          simp [hv]
theorem CheckProps_ok (l : List TProp) (hl : okProps l) : V.elem_CheckProps l = some (propsN l) := by
  refine V.elem_CheckProps.of _ ?_
  unfold F.elem_CheckProps.B propsN
  have := CheckProps_l l hl l.length 0 (by omega)
  rw [show (0 : Int) = ((0 : Nat) : Int) from rfl, this]
  by_cases h : l.length > 8
  · rw [if_yes (by omega), if_pos h]
  · rw [if_no (by omega), if_neg h]
theorem refProps_l (l : List TProp) (hl : okProps l) : ∀ d i : Nat, i + d = l.length → V.pleachref25_Props.l11010 l (i : Int) = some (scanI (propStep l) d i)
  | 0, i, h => by
    refine V.pleachref25_Props.l11010.of _ _ ?_
    unfold F.pleachref25_Props.l11010.B
    rw [if_out (by omega)]
    rfl
  | d + 1, i, h => by
    refine V.pleachref25_Props.l11010.of _ _ ?_
    unfold F.pleachref25_Props.l11010.B
    have hi : i < l.length := by omega
    rw [if_in hi, guard_in hi]
    simp only [nat_cast, refIs_ok _ (hl.2 _ (rd_mem (e := sProp) hi)).1, Option.bind_some, refVIs_ok, w64_up hi hl.1, refProps_l l hl d (i + 1) (by omega), guard_in hi, lt_or]
    rw [scanI_succ]
    unfold propStep
    cases hn : nameB (rd sProp l i).1 with
    | false => simp
    | true =>
      cases hv : valueB (rd sProp l i).2 with
      | false => simp [hv]
      | true =>
        by_cases h0 : 0 < i
        · rw [w64_dn hi hl.1 h0, guard_in (show i - 1 < l.length by omega), nat_cast]
          cases hless : strLt (rd sProp l (i - 1)).1 (rd sProp l i).1 <;> simp [hless, hv, h0]
        · have h0 : i = 0 := by omega
          subst h0
          simp [hv]
theorem refProps_ok (l : List TProp) (hl : okProps l) : V.pleachref25_Props l = some (propsN l) := by
  refine V.pleachref25_Props.of _ ?_
  unfold F.pleachref25_Props.B propsN
  have := refProps_l l hl l.length 0 (by omega)
  rw [show (0 : Int) = ((0 : Nat) : Int) from rfl, this]
  by_cases h : l.length > 8
  · rw [if_yes (by omega), if_pos h]
  · rw [if_no (by omega), if_neg h]

theorem Row_l (l : List ByteArray) (hl : okTexts l) : ∀ d i : Nat, i + d = l.length → V.name_Row.l1010 l (i : Int) = some (scanI (textStep l) d i)
  | 0, i, h => by
    refine V.name_Row.l1010.of _ _ ?_
    unfold F.name_Row.l1010.B
    rw [if_out (by omega)]
    rfl
  | d + 1, i, h => by
    refine V.name_Row.l1010.of _ _ ?_
    unfold F.name_Row.l1010.B
    have hi : i < l.length := by omega
    rw [if_in hi, guard_in hi]
    simp only [nat_cast, name_Check_ok _ (hl.2 _ (rd_mem (e := .str) hi)), Option.bind_some, w64_up hi hl.1, Row_l l hl d (i + 1) (by omega)]
    rw [scanI_succ]
    unfold textStep
    cases hn : nameB (rd .str l i) with
    | false => simp
    | true =>
      by_cases h0 : 0 < i
      · rw [w64_dn hi hl.1 h0, guard_in (show i - 1 < l.length by omega), nat_cast]
        cases hless : strLt (rd .str l (i - 1)) (rd .str l i) <;> simp [hless, h0]
      · have h0 : i = 0 := by omega
        subst h0
        simp
theorem Row_ok (l : List ByteArray) (hl : okTexts l) : V.name_Row l = some (rowN l) := by
  refine V.name_Row.of _ ?_
  unfold F.name_Row.B rowN
  exact Row_l l hl l.length 0 (by omega)
theorem rest_ok (a : List ByteArray) (l : List TProp) (ha : okTexts a) (hl : okProps l) : V.elem_rest a l = some (restN a l) := by
  refine V.elem_rest.of _ _ ?_
  unfold F.elem_rest.B restN
  rw [Row_ok a ha, CheckProps_ok l hl]
  by_cases h : a.length > 8
  · rw [if_yes (by omega), if_pos h]
  · rw [if_no (by omega), if_neg h]
    by_cases h0 : rowN a = 0 <;> simp [Bool.cond_eq_ite, h0]
end Go.Proofs.Ytnadmjhidogmcaa.AE
end
section
set_option linter.unusedVariables false
set_option linter.unusedSimpArgs false
namespace Go.Proofs.Ytnadmjhidogmcaa.AE
open Go

/-- A number's bytes, seven bits a byte, 128 more in all but the last. -/
def vput : Nat → Nat → List Int
  | 0, _ => []
  | f + 1, n => if n < 128 then [(n : Int)] else ((n % 128 + 128 : Nat) : Int) :: vput f (n / 128)
theorem vput_len : ∀ f n : Nat, (vput f n).length ≤ f
  | 0, _ => by simp [vput]
  | f + 1, n => by
    unfold vput
    split
    · simp
    · have := vput_len f (n / 128)
      simp
      omega
def numB (n : Nat) : ByteArray := bytesOf (vput 10 n)
theorem numB_size (n : Nat) : (numB n).size ≤ 10 := by unfold numB; rw [strOfNums_size]; exact vput_len 10 n
theorem or128 (c : Int) (h0 : 0 ≤ c) (h1 : c < 256) : (((BitVec.ofInt 8 c ||| BitVec.ofInt 8 128).toNat : Nat) : Int) = c % 128 + 128 := by
  obtain ⟨n, rfl⟩ := Int.eq_ofNat_of_zero_le h0
  have key : ∀ m : Fin 256, (BitVec.ofInt 8 (m.1 : Int) ||| BitVec.ofInt 8 128).toNat = m.1 % 128 + 128 := by decide +kernel
  have := key ⟨n, by omega⟩
  simp only at this
  rw [this]
  omega
theorem repl_len {α : Type} (a : α) : ∀ n, (repl n a).length = n
  | 0 => rfl
  | n + 1 => by simp [repl, repl_len a n]
theorem take_set_succ {α : Type} (l : List α) (i : Nat) (x : α) (h : i < l.length) : (l.set i x).take (i + 1) = l.take i ++ [x] := by
  rw [List.take_add_one, List.take_set, List.set_eq_of_length_le (by rw [List.length_take]; omega)]
  simp [h]
theorem varint_Put_l (a : Int) : ∀ (f n i : Nat) (arr : List Int), n < 128 ^ (f + 1) → i + f + 1 ≤ 10 → arr.length = 10 → V.varint_Put.l11100 a (n : Int) (i : Int) arr = some (bytesOf (arr.take i ++ vput (f + 1) n))
  | f, n, i, arr, hn, hi, ha => by
    refine V.varint_Put.l11100.of _ _ _ _ ?_
    unfold F.varint_Put.l11100.B
    have e7 : Int.fdiv (n : Int) (2 ^ 7) = ((n / 128 : Nat) : Int) := by rw [Int.fdiv_eq_ediv_of_nonneg _ (by decide)]; rfl
    rw [e7, w64_id (x := (i : Int) + 1) (by omega) (by omega)]
    simp only [u8_mod]
    by_cases h : n < 128
    · rw [if_no (by omega), guard_of (by simp [ha]; omega), guard_of (by simp [ha]; omega)]
      have e1 : (n : Int) % 256 = n := by omega
      have e2 : ((i : Int) + 1).toNat = i + 1 := rfl
      rw [e1, e2, nat_cast, List.drop_zero, take_set_succ _ _ _ (by omega)]
      have e3 : vput (f + 1) n = [(n : Int)] := by unfold vput; rw [if_pos h]
      rw [e3]
    · cases f with
      | zero => simp at hn; omega
      | succ f =>
        rw [if_yes (by omega), guard_of (by simp [ha]; omega), or128 _ (by omega) (by omega), nat_cast]
        have ih := varint_Put_l a f (n / 128) (i + 1) (arr.set i (((n : Int) % 256 % 128 + 128) % 256)) (by rw [Nat.pow_succ] at hn; exact Nat.div_lt_of_lt_mul (by omega)) (by omega) (by simp [ha])
        rw [show ((i : Int) + 1) = ((i + 1 : Nat) : Int) by omega, ih, take_set_succ _ _ _ (by omega)]
        have e3 : vput (f + 1 + 1) n = ((n % 128 + 128 : Nat) : Int) :: vput (f + 1) (n / 128) := by rw [vput, if_neg h]
        rw [e3, List.append_assoc]
        have e4 : ((n : Int) % 256 % 128 + 128) % 256 = ((n % 128 + 128 : Nat) : Int) := by omega
        rw [e4]
        rfl
theorem varint_Put_ok {n : Nat} (h1 : n < 18446744073709551616) : V.varint_Put (n : Int) = some (numB n) := by
  refine V.varint_Put.of _ ?_
  unfold F.varint_Put.B
  have := varint_Put_l (n : Int) 9 n 0 (repl 10 0) (by omega) (by omega) (repl_len _ _)
  rw [show (0 : Int) = ((0 : Nat) : Int) from rfl] at this ⊢
  rw [this]
  rfl
theorem Put_eq {n : Int} (h0 : 0 ≤ n) (h1 : n < 18446744073709551616) : V.varint_Put n = some (numB n.toNat) := by
  obtain ⟨m, rfl⟩ := Int.eq_ofNat_of_zero_le h0
  exact varint_Put_ok (by omega)

theorem one_size (c : Int) : (bytesOf [c]).size = 1 := strOfNums_size [c]
theorem xor_zero (x : Int) (h0 : 0 ≤ x) (h1 : x < 18446744073709551616) : (((BitVec.ofInt 64 x ^^^ BitVec.ofInt 64 0).toNat : Nat) : Int) = x := by
  obtain ⟨n, rfl⟩ := Int.eq_ofNat_of_zero_le h0
  have e2 : (BitVec.ofInt 64 (n : Int) ^^^ BitVec.ofInt 64 0).toNat = n := by
    have : BitVec.ofInt 64 0 = 0#64 := rfl
    rw [this, BitVec.xor_zero, BitVec.toNat_ofInt]
    omega
  rw [e2]
theorem xor_ones (x : Int) (h0 : 0 ≤ x) (h1 : x < 18446744073709551616) : (((BitVec.ofInt 64 x ^^^ BitVec.ofInt 64 18446744073709551615).toNat : Nat) : Int) = 18446744073709551615 - x := by
  obtain ⟨n, rfl⟩ := Int.eq_ofNat_of_zero_le h0
  have : BitVec.ofInt 64 18446744073709551615 = BitVec.allOnes 64 := by decide
  rw [this, BitVec.xor_allOnes, BitVec.toNat_not, BitVec.toNat_ofInt]
  omega
/-- A number's place among 0, -1, 1, -2, 2. -/
def zig (a : Int) : Int := if 0 ≤ a then 2 * a else -2 * a - 1
theorem zig_bound {a : Int} (h0 : -9223372036854775808 ≤ a) (h1 : a ≤ 9223372036854775807) : 0 ≤ zig a ∧ zig a < 18446744073709551616 := by unfold zig; split <;> omega
theorem zig_ok {a : Int} (h0 : -9223372036854775808 ≤ a) (h1 : a ≤ 9223372036854775807) : V.varint_Zig a = some (zig a) := by
  refine V.varint_Zig.of _ ?_
  unfold F.varint_Zig.B zig
  have e1 : (2 : Int) ^ 1 = 2 := rfl
  have e2 : Int.fdiv a (2 ^ 63) = a / 9223372036854775808 := by rw [Int.fdiv_eq_ediv_of_nonneg _ (by decide)]; rfl
  congr 1
  rw [e1, e2]
  by_cases h : 0 ≤ a
  · rw [if_pos h, u64_id (x := a) (by omega) (by omega), u64_id (x := a * 2) (by omega) (by omega), show a / 9223372036854775808 = 0 by omega, u64_id (x := 0) (by omega) (by omega), xor_zero _ (by omega) (by omega), u64_id (by omega) (by omega)]
    omega
  · rw [if_neg h, show a / 9223372036854775808 = -1 by omega]
    have e1 : IntKind.wrap .u64 a = a + 18446744073709551616 := by rw [u64_mod]; omega
    have e2 : IntKind.wrap .u64 (-1) = 18446744073709551615 := by rw [u64_mod]; rfl
    have e3 : IntKind.wrap .u64 ((a + 18446744073709551616) * 2) = 2 * a + 18446744073709551616 := by rw [u64_mod]; omega
    rw [e1, e2, e3, xor_ones _ (by omega) (by omega), u64_id (by omega) (by omega)]
    omega
/-- A text's bytes: how many it has, and these. -/
def textB (s : ByteArray) : ByteArray := numB s.size ++ s
theorem textB_size (s : ByteArray) : (textB s).size ≤ 10 + s.size := by
  unfold textB
  rw [ByteArray.size_append]
  have := numB_size s.size
  omega
theorem PutText_ok (s : ByteArray) (hs : s.size ≤ 140737488351232) : V.scan_PutText s = some (textB s) := by
  refine V.scan_PutText.of _ ?_
  unfold F.scan_PutText.B
  have := numB_size s.size
  rw [u64_id (by omega) (by omega), varint_Put_ok (by omega), Option.bind_some, guard_dec (by simp [i64max]; omega)]
  rfl
theorem PutNum_ok (n : Nat) (h : n ≤ 140737488351232) : V.scan_PutNum (n : Int) = some (numB n) := by
  refine V.scan_PutNum.of _ ?_
  unfold F.scan_PutNum.B
  rw [if_neg (by omega), u64_id (by omega) (by omega), varint_Put_ok (by omega), Option.bind_some]
/-- A value's bytes. -/
def valB (v : TValue) : ByteArray :=
  if valueB v = true then
    (if v.1 = 1 then bytesOf [1, v.2.1] else if v.1 = 2 then bytesOf [2] ++ numB (zig v.2.1).toNat else bytesOf [3] ++ textB v.2.2)
  else ⟨#[]⟩
theorem valB_size (v : TValue) : (valB v).size ≤ 80 := by
  unfold valB
  split
  · rename_i hv
    split
    · simp [strOfNums_size]
    · split
      · rw [ByteArray.size_append, strOfNums_size]
        have := numB_size (zig v.2.1).toNat
        simp; omega
      · rename_i a1 a2
        rw [ByteArray.size_append, strOfNums_size]
        have := textB_size v.2.2
        have h64 : v.2.2.size ≤ 64 := by
          unfold valueB at hv
          simp [a1, a2] at hv
          exact hv.2
        simp; omega
  · simp [ByteArray.size]
theorem value_Put_ok (v : TValue) (hb : -9223372036854775808 ≤ v.2.1 ∧ v.2.1 ≤ 9223372036854775807) : V.value_Put v = some (valB v, if valueB v then 0 else 2) := by
  refine V.value_Put.of _ ?_
  obtain ⟨a, b, s⟩ := v
  unfold F.value_Put.B
  simp only at hb ⊢
  rw [value_Check_ok, Option.bind_some]
  unfold valB
  cases hv : valueB (a, b, s) with
  | false => simp
  | true =>
    simp only [if_true]
    unfold valueB at hv
    by_cases a1 : a = 1
    · subst a1
      simp at hv
      have hb2 : b % 256 = b := by omega
      simp only [u8_mod, hb2]
      rw [guard_dec (by rw [one_size, one_size]; simp [i64max]), ← strOfNums_append]
      rfl
    · by_cases a2 : a = 2
      · subst a2
        have hz := zig_bound hb.1 hb.2
        have e : V.scan_PutInt b = some (numB (zig b).toNat) := by
          refine V.scan_PutInt.of _ ?_
          unfold F.scan_PutInt.B
          have : V.varint_Int b = some (numB (zig b).toNat) := by
            refine V.varint_Int.of _ ?_
            unfold F.varint_Int.B
            rw [zig_ok hb.1 hb.2, Option.bind_some, Put_eq hz.1 hz.2, Option.bind_some]
          rw [this, Option.bind_some]
        have := numB_size (zig b).toNat
        rw [e, Option.bind_some, guard_dec (p := _ ≤ _) (a := some (bytesOf [_] ++ numB (zig b).toNat, (0 : Int))) (by rw [one_size]; simp [i64max]; omega)]
        simp [u8_mod]
      · have a3 : a = 3 := by simp [a1, a2] at hv; exact hv.1.1
        have h64 : s.size ≤ 64 := by simp [a1, a2] at hv; exact hv.2
        subst a3
        have := textB_size s
        rw [PutText_ok s (by omega), Option.bind_some, guard_dec (p := _ ≤ _) (a := some (bytesOf [_] ++ textB s, (0 : Int))) (by rw [one_size]; simp [i64max]; omega)]
        simp [u8_mod]
end Go.Proofs.Ytnadmjhidogmcaa.AE
end
section
set_option linter.unusedVariables false
set_option linter.unusedSimpArgs false
namespace Go.Proofs.Ytnadmjhidogmcaa.AE
open Go

theorem scanI_zero {step : Nat → Option Int} (hs : ∀ i r, step i = some r → r ≠ 0) : ∀ d i, scanI step d i = 0 → ∀ j, i ≤ j → j < i + d → step j = none
  | 0, i, _, j, h1, h2 => by omega
  | d + 1, i, h, j, h1, h2 => by
    rw [scanI_succ] at h
    cases hq : step i with
    | some r => rw [hq] at h; exact absurd h (hs i r hq)
    | none =>
      rw [hq] at h
      by_cases hij : j = i
      · rw [hij]; exact hq
      · exact scanI_zero hs d (i + 1) h j (by omega) (by omega)
theorem propStep_ne (l : List TProp) (i : Nat) (r : Int) (h : propStep l i = some r) : r ≠ 0 := by
  unfold propStep at h
  split at h
  · injection h with h; omega
  · split at h
    · injection h with h; omega
    · cases h
theorem textStep_ne (l : List ByteArray) (i : Nat) (r : Int) (h : textStep l i = some r) : r ≠ 0 := by
  unfold textStep at h
  split at h
  · injection h with h; omega
  · split at h
    · injection h with h; omega
    · cases h
theorem nameB_size {s : ByteArray} (h : nameB s = true) : 1 ≤ s.size ∧ s.size ≤ 12 := by
  unfold nameB at h
  simp at h
  exact ⟨h.1.1, h.1.2⟩
theorem textStep_none {l : List ByteArray} {i : Nat} (h : textStep l i = none) : nameB (rd .str l i) = true ∧ (0 < i → strLt (rd .str l (i - 1)) (rd .str l i) = true) := by
  unfold textStep at h
  split at h
  · cases h
  · rename_i h1
    split at h
    · cases h
    · rename_i h2
      refine ⟨by simpa using h1, fun h0 => ?_⟩
      cases hq : strLt (rd .str l (i - 1)) (rd .str l i) with
      | true => rfl
      | false => exact absurd ⟨h0, hq⟩ h2
theorem propStep_none {l : List TProp} {i : Nat} (h : propStep l i = none) : nameB (rd sProp l i).1 = true ∧ valueB (rd sProp l i).2 = true ∧ (0 < i → strLt (rd sProp l (i - 1)).1 (rd sProp l i).1 = true) := by
  unfold propStep at h
  split at h
  · cases h
  · rename_i h1
    split at h
    · cases h
    · rename_i h2
      have h3 : nameB (rd sProp l i).1 = true ∧ valueB (rd sProp l i).2 = true := by simpa using h1
      refine ⟨h3.1, h3.2, fun h0 => ?_⟩
      cases hq : strLt (rd sProp l (i - 1)).1 (rd sProp l i).1 with
      | true => rfl
      | false => exact absurd ⟨h0, hq⟩ h2
/-- What a row of names, of properties that may be is. -/
theorem rowN_zero {l : List ByteArray} (h : rowN l = 0) {i : Nat} (hi : i < l.length) : nameB (rd .str l i) = true ∧ (0 < i → strLt (rd .str l (i - 1)) (rd .str l i) = true) :=
  textStep_none (scanI_zero (textStep_ne l) l.length 0 h i (by omega) (by omega))
theorem propsN_len {l : List TProp} (h : propsN l = 0) : l.length ≤ 8 := by
  unfold propsN at h
  split at h
  · omega
  · omega
theorem propsN_zero {l : List TProp} (h : propsN l = 0) {i : Nat} (hi : i < l.length) : nameB (rd sProp l i).1 = true ∧ valueB (rd sProp l i).2 = true ∧ (0 < i → strLt (rd sProp l (i - 1)).1 (rd sProp l i).1 = true) := by
  have h8 := propsN_len h
  unfold propsN at h
  rw [if_neg (by omega)] at h
  exact propStep_none (scanI_zero (propStep_ne l) l.length 0 h i (by omega) (by omega))
theorem restN_zero {a : List ByteArray} {l : List TProp} (h : restN a l = 0) : a.length ≤ 8 ∧ rowN a = 0 ∧ propsN l = 0 := by
  unfold restN at h
  split at h
  · omega
  · split at h
    · rename_i h1 h2
      exact ⟨by omega, h2, h⟩
    · rename_i h1 h2
      exact absurd h h2

/-- Labels and properties are as few and short as they may be. -/
structure Short (a : List ByteArray) (l : List TProp) : Prop where
  na : a.length ≤ 8
  nl : l.length ≤ 8
  ta : ∀ i, i < a.length → (rd .str a i).size ≤ 12
  tl : ∀ i, i < l.length → (rd sProp l i).1.size ≤ 12
theorem Short.of {a : List ByteArray} {l : List TProp} (h : restN a l = 0) : Short a l := by
  obtain ⟨h1, h2, h3⟩ := restN_zero h
  exact ⟨h1, propsN_len h3, fun i hi => (nameB_size (rowN_zero h2 hi).1).2, fun i hi => (nameB_size (propsN_zero h3 hi).1).2⟩
structure okNode (n : TNode) : Prop where
  id : n.1.size ≤ 140737488351232
  la : okTexts n.2.1
  pr : okProps n.2.2
def nodeN (n : TNode) : Int := if nameB n.1 then restN n.2.1 n.2.2 else 2
theorem nodeN_short {n : TNode} (h : nodeN n = 0) : Short n.2.1 n.2.2 := by
  unfold nodeN at h
  split at h
  · exact .of h
  · cases h
theorem CheckNode_ok (n : TNode) (h : okNode n) : V.elem_CheckNode n = some (nodeN n) := by
  refine V.elem_CheckNode.of _ ?_
  unfold F.elem_CheckNode.B nodeN
  rw [name_Check_ok _ h.id, Option.bind_some, rest_ok _ _ h.la h.pr]
  cases nameB n.1 <;> simp
end Go.Proofs.Ytnadmjhidogmcaa.AE
end
section
set_option linter.unusedVariables false
set_option linter.unusedSimpArgs false
namespace Go.Proofs.Ytnadmjhidogmcaa.AE
open Go

/-- Texts' bytes, one behind the other; properties'. -/
def catT (l : List ByteArray) : Nat → Nat → ByteArray
  | 0, _ => ⟨#[]⟩
  | d + 1, i => textB (rd .str l i) ++ catT l d (i + 1)
def propB (p : TProp) : ByteArray := textB p.1 ++ valB p.2
def catP (l : List TProp) : Nat → Nat → ByteArray
  | 0, _ => ⟨#[]⟩
  | d + 1, i => propB (rd sProp l i) ++ catP l d (i + 1)
def putB (a : List ByteArray) (l : List TProp) : ByteArray := numB a.length ++ (catT a a.length 0 ++ (numB l.length ++ catP l l.length 0))
theorem app_nil (s : ByteArray) : s ++ (⟨#[]⟩ : ByteArray) = s := by apply ByteArray.ext; simp
theorem nil_app (s : ByteArray) : (⟨#[]⟩ : ByteArray) ++ s = s := by apply ByteArray.ext; simp
theorem propB_size (p : TProp) (h : p.1.size ≤ 12) : (propB p).size ≤ 102 := by
  unfold propB
  rw [ByteArray.size_append]
  have := textB_size p.1
  have := valB_size p.2
  omega
theorem put_l1 (a : List ByteArray) (l : List TProp) (hs : Short a l) (hl : okProps l) : ∀ (d i : Nat) (out : ByteArray), i + d = l.length → out.size ≤ 1000 + 102 * i → V.elem_put.l1111010 a l out (i : Int) = some (out ++ catP l d i)
  | 0, i, out, h, ho => by
    refine V.elem_put.l1111010.of _ _ _ _ ?_
    unfold F.elem_put.l1111010.B
    rw [if_out (by omega)]
    simp [catP, app_nil]
  | d + 1, i, out, h, ho => by
    refine V.elem_put.l1111010.of _ _ _ _ ?_
    unfold F.elem_put.l1111010.B
    have hi : i < l.length := by omega
    have h8 := hs.nl
    have hp := propB_size _ (hs.tl i hi)
    have hk := hl.2 _ (rd_mem (e := sProp) hi)
    rw [if_in hi, guard_in hi, nat_cast, value_Put_ok _ hk.2.2, Option.bind_some, PutText_ok _ hk.1, Option.bind_some]
    dsimp only
    have h1 : (textB (rd sProp l i).1 ++ valB (rd sProp l i).2).size ≤ 102 := hp
    rw [guard_dec (by rw [ByteArray.size_append] at h1; unfold i64max; omega), guard_dec (by unfold i64max; omega), w64_up hi hl.1, put_l1 a l hs hl d (i + 1) _ (by omega) (by rw [ByteArray.size_append]; omega), ByteArray.append_assoc]
    rfl
theorem put_l0 (a : List ByteArray) (l : List TProp) (hs : Short a l) (ha : okTexts a) (hl : okProps l) : ∀ (d i : Nat) (out : ByteArray), i + d = a.length → out.size ≤ 10 + 22 * i → V.elem_put.l11010 a l out (i : Int) = some (out ++ (catT a d i ++ (numB l.length ++ catP l l.length 0)))
  | 0, i, out, h, ho => by
    refine V.elem_put.l11010.of _ _ _ _ ?_
    unfold F.elem_put.l11010.B
    have h8 := hs.nl
    have h9 := hs.na
    have hn := numB_size l.length
    rw [if_out (by omega), PutNum_ok _ hl.1, Option.bind_some, guard_dec (by unfold i64max; omega)]
    have := put_l1 a l hs hl l.length 0 (out ++ numB l.length) (by omega) (by rw [ByteArray.size_append]; omega)
    rw [show (0 : Int) = ((0 : Nat) : Int) from rfl, this]
    simp [catT, nil_app, ByteArray.append_assoc]
  | d + 1, i, out, h, ho => by
    refine V.elem_put.l11010.of _ _ _ _ ?_
    unfold F.elem_put.l11010.B
    have hi : i < a.length := by omega
    have h9 := hs.na
    have ht := textB_size (rd .str a i)
    have h12 := hs.ta i hi
    rw [if_in hi, guard_in hi, nat_cast, PutText_ok _ (ha.2 _ (rd_mem (e := .str) hi)), Option.bind_some, guard_dec (by unfold i64max; omega), w64_up hi ha.1, put_l0 a l hs ha hl d (i + 1) _ (by omega) (by rw [ByteArray.size_append]; omega)]
    rw [catT, ByteArray.append_assoc, ByteArray.append_assoc]
theorem elem_put_ok (a : List ByteArray) (l : List TProp) (hs : Short a l) (ha : okTexts a) (hl : okProps l) : V.elem_put a l = some (putB a l) := by
  refine V.elem_put.of _ _ ?_
  unfold F.elem_put.B
  rw [PutNum_ok _ ha.1, Option.bind_some]
  exact put_l0 a l hs ha hl a.length 0 _ (by omega) (by have := numB_size a.length; omega)
/-! ### Nodes and edges -/

def nodeB (n : TNode) : ByteArray := if nodeN n = 0 then putB n.2.1 n.2.2 else ⟨#[]⟩
theorem PutNode_ok (n : TNode) (h : okNode n) : V.elem_PutNode n = some (nodeB n, nodeN n) := by
  refine V.elem_PutNode.of _ ?_
  unfold F.elem_PutNode.B nodeB
  have hc := CheckNode_ok n h
  rw [show (n.1, n.2.1, n.2.2) = n from rfl, hc, Option.bind_some]
  by_cases h0 : nodeN n = 0
  · rw [elem_put_ok _ _ (nodeN_short h0) h.la h.pr]
    simp [h0]
  · simp [Bool.cond_eq_ite, h0]
end Go.Proofs.Ytnadmjhidogmcaa.AE
end
section
set_option linter.unusedVariables false
set_option linter.unusedSimpArgs false
namespace Go.Proofs.Ytnadmjhidogmcaa.AE
open Go

instance decValue : DecidableEq TValue := instDecidableEqProd
instance decProp : DecidableEq TProp := instDecidableEqProd
instance decNode : DecidableEq TNode := instDecidableEqProd
instance decEdge1 : DecidableEq (ByteArray × TNode) := instDecidableEqProd
instance decEdge : DecidableEq TEdge := instDecidableEqProd
instance decGraph : DecidableEq TGraph := instDecidableEqProd
/-- Two rows from a place on. -/
theorem drop_eq {α : Type} [DecidableEq α] {a b : List α} {i : Nat} (ha : i < a.length) (hb : i < b.length) : decide (a.drop i = b.drop i) = (decide (a[i] = b[i]) && decide (a.drop (i + 1) = b.drop (i + 1))) := by
  rw [List.drop_eq_getElem_cons ha, List.drop_eq_getElem_cons hb]
  rw [Bool.eq_iff_iff]
  simp only [decide_eq_true_eq, Bool.and_eq_true, List.cons.injEq]
theorem prop_eq (p q : TProp) : ((strEq p.1 q.1) && ((((p.2).1 == (q.2).1) && ((((p.2).2).1 == ((q.2).2).1) && ((strEq ((p.2).2).2 ((q.2).2).2) && true))) && true)) = decide (p = q) := by
  obtain ⟨a, b, c, d⟩ := p
  obtain ⟨a', b', c', d'⟩ := q
  simp only [strEq_dec, Prod.mk.injEq, Bool.and_true]
  rw [Bool.eq_iff_iff]
  simp
theorem SameTexts_l (a b : List ByteArray) (hl : a.length = b.length) (ha : a.length ≤ 140737488351232) : ∀ d i : Nat, i + d = a.length → V.pleachref25_SameTexts.l11010 a b (i : Int) = some (decide (a.drop i = b.drop i))
  | 0, i, h => by
    refine V.pleachref25_SameTexts.l11010.of _ _ _ ?_
    unfold F.pleachref25_SameTexts.l11010.B
    rw [if_out (by omega), List.drop_eq_nil_of_le (by omega), List.drop_eq_nil_of_le (by omega)]
    simp
  | d + 1, i, h => by
    refine V.pleachref25_SameTexts.l11010.of _ _ _ ?_
    unfold F.pleachref25_SameTexts.l11010.B
    have h1 : i < a.length := by omega
    have h2 : i < b.length := by omega
    rw [if_in h1, guard_in h1, guard_in h2, nat_cast, w64_up h1 ha, SameTexts_l a b hl ha d (i + 1) (by omega), rd_get (e := .str) h1, rd_get (e := .str) h2, strEq_dec, drop_eq h1 h2]
    by_cases hq : a[i] = b[i] <;> simp [hq]
theorem SameTexts_ok (a b : List ByteArray) (ha : a.length ≤ 140737488351232) : V.pleachref25_SameTexts a b = some (decide (a = b)) := by
  refine V.pleachref25_SameTexts.of _ _ ?_
  unfold F.pleachref25_SameTexts.B
  by_cases hl : a.length = b.length
  · have := SameTexts_l a b hl ha a.length 0 (by omega)
    rw [show (0 : Int) = ((0 : Nat) : Int) from rfl, this, hl]
    simp
  · rw [show ((a.length : Int) != (b.length : Int)) = true by simp; omega, cond_true]
    simp only [Option.some.injEq]
    symm
    simp only [decide_eq_false_iff_not]
    intro h; rw [h] at hl; exact hl rfl
theorem SameProps_l (a b : List TProp) (hl : a.length = b.length) (ha : a.length ≤ 140737488351232) : ∀ d i : Nat, i + d = a.length → V.pleachref25_SameProps.l11010 a b (i : Int) = some (decide (a.drop i = b.drop i))
  | 0, i, h => by
    refine V.pleachref25_SameProps.l11010.of _ _ _ ?_
    unfold F.pleachref25_SameProps.l11010.B
    rw [if_out (by omega), List.drop_eq_nil_of_le (by omega), List.drop_eq_nil_of_le (by omega)]
    simp
  | d + 1, i, h => by
    refine V.pleachref25_SameProps.l11010.of _ _ _ ?_
    unfold F.pleachref25_SameProps.l11010.B
    have h1 : i < a.length := by omega
    have h2 : i < b.length := by omega
    rw [if_in h1, guard_in h1, guard_in h2, nat_cast, w64_up h1 ha, SameProps_l a b hl ha d (i + 1) (by omega), prop_eq, rd_get (e := sProp) h1, rd_get (e := sProp) h2, drop_eq h1 h2]
    by_cases hq : a[i] = b[i] <;> simp [hq]
theorem SameProps_ok (a b : List TProp) (ha : a.length ≤ 140737488351232) : V.pleachref25_SameProps a b = some (decide (a = b)) := by
  refine V.pleachref25_SameProps.of _ _ ?_
  unfold F.pleachref25_SameProps.B
  by_cases hl : a.length = b.length
  · have := SameProps_l a b hl ha a.length 0 (by omega)
    rw [show (0 : Int) = ((0 : Nat) : Int) from rfl, this, hl]
    simp
  · rw [show ((a.length : Int) != (b.length : Int)) = true by simp; omega, cond_true]
    simp only [Option.some.injEq]
    symm
    simp only [decide_eq_false_iff_not]
    intro h; rw [h] at hl; exact hl rfl
end Go.Proofs.Ytnadmjhidogmcaa.AE
end
section
set_option linter.unusedVariables false
set_option linter.unusedSimpArgs false
set_option maxRecDepth 20000
namespace Go.Proofs.Ytnadmjhidogmcaa.AE
open Go

theorem half_nat {lo hi n : Nat} (h : lo < hi) (hn : hi ≤ n) (hb : n ≤ 70368744177616) : w64 (Int.fdiv (IntKind.wrap .u64 (w64 ((lo : Int) + (hi : Int)))) (2 ^ 1)) = (((lo + hi) / 2 : Nat) : Int) := by
  rw [w64_id (x := (lo : Int) + hi) (by omega) (by omega), u64_id (by omega) (by omega), Int.fdiv_eq_ediv_of_nonneg _ (by omega), w64_id (by omega) (by omega)]
  omega

/-- Texts that rise. -/
def Up (ks : List ByteArray) : Prop := ks.Pairwise fun a b => strLt a b = true
/-- How many of them stand ahead of one. -/
def lb (ks : List ByteArray) (x : ByteArray) : Nat := ks.findIdx fun k => !strLt k x

theorem Up.lt {ks : List ByteArray} (hu : Up ks) {i j : Nat} (h : i < j) (hj : j < ks.length) : strLt (ks[i]'(by omega)) ks[j] = true := List.pairwise_iff_getElem.1 hu i j (by omega) hj h
theorem lb_le (ks : List ByteArray) (x : ByteArray) : lb ks x ≤ ks.length := List.findIdx_le_length
theorem lb_lt {ks : List ByteArray} (hu : Up ks) (x : ByteArray) {i : Nat} (hi : i < ks.length) : strLt ks[i] x = true ↔ i < lb ks x := by
  constructor
  · intro h
    refine Nat.lt_of_not_le fun hle => ?_
    have h1 : lb ks x < ks.length := by omega
    have h2 : (!strLt ks[lb ks x] x) = true := List.findIdx_getElem (w := h1)
    rcases Nat.eq_or_lt_of_le hle with e | e
    · have : strLt ks[lb ks x] x = true := by simp only [e]; exact h
      rw [this] at h2; cases h2
    · have := lt_trans (hu.lt e hi) h
      rw [this] at h2; cases h2
  · intro h
    have := List.not_of_lt_findIdx h
    simpa using this
/-- One of rising texts is met where as many as stand ahead of it have gone by. -/
theorem met_iff {ks : List ByteArray} (hu : Up ks) (x : ByteArray) : x ∈ ks ↔ ∃ h : lb ks x < ks.length, ks[lb ks x] = x := by
  constructor
  · intro h
    obtain ⟨i, hi, e⟩ := List.getElem_of_mem h
    have h1 : ¬ i < lb ks x := fun g => by
      have := (lb_lt hu x hi).2 g
      rw [e, lt_irr] at this; cases this
    have h2 : ¬ lb ks x < i := fun g => by
      have := hu.lt g hi
      rw [e] at this
      have := (lb_lt hu x (by omega)).1 this
      omega
    have h3 : lb ks x = i := by omega
    exact ⟨by omega, by simp only [h3]; exact e⟩
  · rintro ⟨h, e⟩
    exact e ▸ List.getElem_mem h

def has (ks : List ByteArray) (x : ByteArray) : Bool := ks.any fun k => strEq k x
theorem has_iff {ks : List ByteArray} {x : ByteArray} : has ks x = true ↔ x ∈ ks := by
  unfold has
  rw [List.any_eq_true]
  exact ⟨fun ⟨k, h, e⟩ => strEq_iff.1 e ▸ h, fun h => ⟨x, h, strEq_self x⟩⟩

theorem search_gen {ks : List ByteArray} {x : ByteArray} (hu : Up ks) (S : Int → Int → Option (Int × Bool))
    (h1 : ∀ (lo hi : Nat) r, (h : lo < hi) → (hh : hi ≤ ks.length) → (if strLt (ks[(lo + hi) / 2]'(by omega)) x = true then S (((lo + hi) / 2 + 1 : Nat) : Int) (hi : Int) else S (lo : Int) (((lo + hi) / 2 : Nat) : Int)) = some r → S (lo : Int) (hi : Int) = some r)
    (h2 : ∀ lo : Nat, lo ≤ ks.length → S (lo : Int) (lo : Int) = some ((lo : Int), decide (ks[lo]? = some x))) :
    S 0 (ks.length : Int) = some ((lb ks x : Int), has ks x) := by
  have main : ∀ d lo hi : Nat, hi - lo ≤ d → lo ≤ lb ks x → lb ks x ≤ hi → hi ≤ ks.length → S (lo : Int) (hi : Int) = some ((lb ks x : Int), has ks x) := by
    intro d
    induction d with
    | zero =>
      intro lo hi h a b c
      have e1 : lo = lb ks x := by omega
      have e2 : hi = lb ks x := by omega
      subst e1; rw [e2]
      rw [h2 _ (lb_le ks x)]
      congr 2
      rw [Bool.eq_iff_iff, decide_eq_true_iff, has_iff, met_iff hu x, List.getElem?_eq_some_iff]
    | succ d ih =>
      intro lo hi h a b c
      rcases Nat.lt_or_ge lo hi with hl | hl
      · refine h1 lo hi _ hl c ?_
        split
        · rename_i g
          exact ih _ _ (by omega) ((lb_lt hu x (by omega)).1 g) b c
        · rename_i g
          exact ih _ _ (by omega) a (by have := mt (lb_lt hu x (by omega)).2 g; omega) (by omega)
      · exact ih lo hi (by omega) a b c
  exact main ks.length 0 ks.length (by omega) (by omega) (lb_le ks x) (Nat.le_refl _)

theorem cmpCompareS_ok (a b : ByteArray) : V.cmp_Compare_string a b = some (cmpS a b) := by
  have nan : ∀ x : ByteArray, V.cmp_isNaN_string x = some false := fun x => V.cmp_isNaN_string.of x (by unfold F.cmp_isNaN_string.B; rw [strEq_self]; rfl)
  refine V.cmp_Compare_string.of a b ?_
  unfold F.cmp_Compare_string.B cmpS
  rw [nan, nan, Option.bind_some, Option.bind_some, lt_or]
  cases strLt a b <;> cases strLt b a <;> rfl
theorem cmpS_neg (a b : ByteArray) : decide (cmpS a b < 0) = strLt a b := by
  unfold cmpS
  cases strLt a b <;> cases strLt b a <;> rfl
theorem cmpS_zero (a b : ByteArray) : (cmpS a b == 0) = decide (a = b) := by
  by_cases h : a = b
  · subst h; simp [cmpS, lt_irr]
  · unfold cmpS
    cases h1 : strLt a b with
    | true => simp [h]
    | false => simp [lt_total h1 h, h]

end Go.Proofs.Ytnadmjhidogmcaa.AE
end
section
set_option linter.unusedVariables false
set_option linter.unusedSimpArgs false
set_option maxRecDepth 20000
namespace Go.Proofs.Ytnadmjhidogmcaa.AE
open Go

/-- Where an Id is first met, as a number. -/
def atI (ks : List ByteArray) (x : ByteArray) : Int := if has ks x then (ks.findIdx (fun k => strEq k x) : Int) else -1
theorem atI_up {ks : List ByteArray} (hu : Up ks) (x : ByteArray) : atI ks x = if has ks x then (lb ks x : Int) else -1 := by
  unfold atI
  split
  · rename_i h
    obtain ⟨h1, h2⟩ := (met_iff hu x).1 (has_iff.1 h)
    congr 1
    have h3 : ks.findIdx (fun k => strEq k x) = lb ks x := by
      rw [List.findIdx_eq h1]
      refine ⟨by rw [h2, strEq_self], fun j hj => strEq_no fun e => ?_⟩
      have := (lb_lt hu x (by omega)).2 hj
      rw [e, lt_irr] at this; cases this
    omega
  · rfl
theorem atI_step {ks : List ByteArray} {x : ByteArray} {i : Nat} (hi : i < ks.length) (h : ∀ j (hj : j < ks.length), j < i → ks[j] ≠ x) : atI ks x = if strEq ks[i] x then (i : Int) else atI ks x := by
  split
  · rename_i e
    have e := strEq_iff.1 e
    have hm : x ∈ ks := e ▸ List.getElem_mem hi
    unfold atI
    rw [if_pos (has_iff.2 hm)]
    have : ks.findIdx (fun k => strEq k x) = i := by
      rw [List.findIdx_eq hi]
      exact ⟨by rw [e, strEq_self], fun j hj => strEq_no (h j (by omega) hj)⟩
    omega
  · rfl
theorem atI_none {ks : List ByteArray} {x : ByteArray} (h : ∀ j (hj : j < ks.length), ks[j] ≠ x) : atI ks x = -1 := by
  unfold atI
  rw [if_neg fun hm => by
    obtain ⟨i, hi, e⟩ := List.getElem_of_mem (has_iff.1 hm)
    exact h i hi e]
end Go.Proofs.Ytnadmjhidogmcaa.AE
end
section
set_option linter.unusedVariables false
set_option linter.unusedSimpArgs false
set_option maxRecDepth 20000
namespace Go.Proofs.Ytnadmjhidogmcaa.AE
open Go

theorem up_of {ks : List ByteArray} (h : ∀ i (hi : i < ks.length), 0 < i → strLt (ks[i - 1]'(by omega)) ks[i] = true) : Up ks := by
  refine List.pairwise_iff_getElem.2 fun i j hi hj hij => ?_
  have main : ∀ d j (hj : j < ks.length), j = i + 1 + d → strLt ks[i] ks[j] = true := by
    intro d
    induction d with
    | zero =>
      intro j hj e
      have := h j hj (by omega)
      simpa [e] using this
    | succ d ih =>
      intro j hj e
      have h1 := ih (j - 1) (by omega) (by omega)
      exact lt_trans h1 (h j hj (by omega))
  exact main (j - (i + 1)) j hj (by omega)
end Go.Proofs.Ytnadmjhidogmcaa.AE
end
section
set_option linter.unusedVariables false
set_option linter.unusedSimpArgs false
set_option maxRecDepth 20000
namespace Go.Proofs.Ytnadmjhidogmcaa.AE
open Go

/-! ### Copies -/

theorem clone_body {α : Type} (l : List α) (h : l.length ≤ nmax) : (bif l.isEmpty then meet (some ([])) (guardK (decide (0 + l.length ≤ nmax)) (some ([] ++ l))) else (guardK (decide (0 + l.length ≤ nmax)) (some ([] ++ l)))) = some l := by
  rw [guard_dec (by omega)]
  cases l with
  | nil => exact meet_self _
  | cons a l => rfl
theorem cloneT_ok (l : List ByteArray) (h : l.length ≤ nmax) : V.slices_Clone_stringstring l = some l := V.slices_Clone_stringstring.of l (clone_body l h)
theorem cloneP_ok (l : List TProp) (h : l.length ≤ nmax) : V.slices_Clone_apiPropapiProp l = some l := V.slices_Clone_apiPropapiProp.of l (clone_body l h)

end Go.Proofs.Ytnadmjhidogmcaa.AE
end
section
set_option linter.unusedVariables false
set_option linter.unusedSimpArgs false
namespace Go.Proofs.Ytnadmjhidogmcaa.AE
open Go

theorem gd_len {e : Sh} {l : List (den e)} (h : Gd (.list e) l) (hb : 2 ≤ e.bytes) : l.length ≤ 70368744177616 := by
  have h1 := h.1
  have : l.length * 2 ≤ l.length * e.bytes := Nat.mul_le_mul_left _ hb
  omega
theorem gd_i64 {n : Int} (h : Gd (.int .i64) n) : -9223372036854775808 ≤ n ∧ n ≤ 9223372036854775807 := by
  have h6 : (decide (IntKind.min .i64 ≤ n) && decide (n ≤ IntKind.max .i64)) = true := h
  rw [Bool.and_eq_true, decide_eq_true_eq, decide_eq_true_eq, show IntKind.min .i64 = -9223372036854775808 by decide, show IntKind.max .i64 = 9223372036854775807 by decide] at h6
  exact h6
theorem gd_texts {l : List ByteArray} (h : Gd (.list .str) l) : okTexts l := ⟨by have := gd_len h (by decide); omega, fun s hs => h.2 s hs⟩
theorem gd_props {l : List TProp} (h : Gd (.list sProp) l) : okProps l := ⟨by have := gd_len h (by decide); omega, fun p hp => by
  obtain ⟨h1, h2, h3, h4⟩ := h.2 p hp
  have h5 := gd_i64 h3
  exact ⟨h1, h4, h5⟩⟩
end Go.Proofs.Ytnadmjhidogmcaa.AE
end
section
set_option linter.unusedVariables false
set_option linter.unusedSimpArgs false
set_option maxRecDepth 20000
namespace Go.Proofs.Ytnadmjhidogmcaa.AE
open Go

theorem rowN_up {l : List ByteArray} (h : rowN l = 0) : Up l := by
  refine up_of fun i hi hp => ?_
  have := (rowN_zero h hi).2 hp
  rw [rd_get (e := .str) hi, rd_get (e := .str) (by omega : i - 1 < l.length)] at this
  exact this
theorem cmpLessS_ok (a b : ByteArray) : V.cmp_Less_string a b = some (strLt a b) := by
  have nan : ∀ x : ByteArray, V.cmp_isNaN_string x = some false := fun x => V.cmp_isNaN_string.of x (by unfold F.cmp_isNaN_string.B; rw [strEq_self]; rfl)
  refine V.cmp_Less_string.of a b ?_
  unfold F.cmp_Less_string.B
  rw [nan]
  rfl
theorem searchT_ok (l : List ByteArray) (x : ByteArray) (hu : Up l) (hb : l.length ≤ 70368744177616) : V.slices_BinarySearch_stringstring l x = some ((lb l x : Int), has l x) := by
  have nan : ∀ x : ByteArray, V.slices_isNaN_string x = some false := fun x => V.slices_isNaN_string.of x (by unfold F.slices_isNaN_string.B; rw [strEq_self]; rfl)
  refine V.slices_BinarySearch_stringstring.of _ _ ?_
  unfold F.slices_BinarySearch_stringstring.B
  refine search_gen hu (V.slices_BinarySearch_stringstring.l11100 l x) (fun lo hi r h hh hr => ?_) (fun lo hlo => ?_)
  · refine V.slices_BinarySearch_stringstring.l11100.of _ _ _ _ ?_
    unfold F.slices_BinarySearch_stringstring.l11100.B
    rw [if_in h, half_nat h (by omega) hb, guard_in (by omega), nat_cast, cmpLessS_ok, Option.bind_some, w64_up (n := l.length) (by omega) (by omega), rd_get (e := .str) (by omega), ← hr]
    cases strLt (l[(lo + hi) / 2]'(by omega)) x <;> rfl
  · refine V.slices_BinarySearch_stringstring.l11100.of _ _ _ _ ?_
    unfold F.slices_BinarySearch_stringstring.l11100.B
    rw [if_no (by omega)]
    rcases Nat.lt_or_ge lo l.length with h | h
    · rw [if_in h, guard_in h, guard_in h, nat_cast, nan, Option.bind_some, rd_get (e := .str) h, List.getElem?_eq_getElem h]
      by_cases e : l[lo] = x
      · simp [e, strEq_self]
      · simp [e, strEq_no e]
    · rw [if_out h, List.getElem?_eq_none (by omega)]; simp
theorem Find_ok (l : List ByteArray) (x : ByteArray) (hu : Up l) (hb : l.length ≤ 70368744177616) : V.name_Find l x = some ((lb l x : Int), has l x) := by
  refine V.name_Find.of _ _ ?_
  unfold F.name_Find.B
  rw [searchT_ok l x hu hb, Option.bind_some]

end Go.Proofs.Ytnadmjhidogmcaa.AE
end
section
set_option linter.unusedVariables false
set_option linter.unusedSimpArgs false
set_option maxRecDepth 20000
namespace Go.Proofs.Ytnadmjhidogmcaa.AE
open Go

theorem filt_rd {e : Sh} (l : List (den e)) (p : den e → Bool) {i : Nat} (h : i < l.length) : (l.drop i).filter p = bif p (rd e l i) then rd e l i :: (l.drop (i + 1)).filter p else (l.drop (i + 1)).filter p := by
  rw [drop_rd h, List.filter_cons]
  cases p (rd e l i) <;> rfl
theorem refIn_l (l : List ByteArray) (x : ByteArray) (hs : l.length ≤ 140737488351232) : ∀ d i : Nat, i + d = l.length → V.pleachref05_In.l1010 l x (i : Int) = some (has (l.drop i) x)
  | 0, i, h => by
    refine V.pleachref05_In.l1010.of _ _ _ ?_
    unfold F.pleachref05_In.l1010.B
    rw [if_out (by omega), List.drop_eq_nil_of_le (by omega)]
    rfl
  | d + 1, i, h => by
    have hi : i < l.length := by omega
    refine V.pleachref05_In.l1010.of _ _ _ ?_
    unfold F.pleachref05_In.l1010.B
    rw [if_in hi, guard_in hi, nat_cast, w64_up hi hs, refIn_l l x hs d (i + 1) (by omega), drop_rd (e := .str) hi]
    show _ = some (strEq (rd .str l i) x || has (l.drop (i + 1)) x)
    cases strEq (rd .str l i) x <;> rfl
theorem refIn_ok (l : List ByteArray) (x : ByteArray) (hs : l.length ≤ 140737488351232) : V.pleachref05_In l x = some (has l x) := by
  refine V.pleachref05_In.of _ _ ?_
  unfold F.pleachref05_In.B
  exact refIn_l l x hs l.length 0 (by omega)
end Go.Proofs.Ytnadmjhidogmcaa.AE
end
section
set_option linter.unusedVariables false
set_option linter.unusedSimpArgs false
set_option maxRecDepth 20000
namespace Go.Proofs.Ytnadmjhidogmcaa.AE
open Go

def delB {α : Type} (a0 : List α) (z : α) (a1 : Int) (a2 : Int) : Option (List α) :=
    (guardK (decide (0 ≤ a1) && decide (a1 ≤ a2) && decide (a2 ≤ (a0.length : Int)) && decide ((a0.length : Int) ≤ (a0.length : Int))) (bif (a1 == a2) then (some a0) else (guardK (decide (0 ≤ a1) && decide (a1 ≤ (a0.length : Int))) (guardK (decide (0 ≤ a2) && decide (a2 ≤ (a0.length : Int)) && decide ((a0.length : Int) ≤ (a0.length : Int))) (guardK (decide ((a1.toNat + ((a0.take ((a0.length : Int).toNat)).drop a2.toNat).length) ≤ a0.length)) (guardK (decide (0 ≤ (((a1.toNat + ((a0.take ((a0.length : Int).toNat)).drop a2.toNat).length) - 0 : Nat) : Int)) && decide ((((a1.toNat + ((a0.take ((a0.length : Int).toNat)).drop a2.toNat).length) - 0 : Nat) : Int) ≤ (a0.length : Int)) && decide (0 + (a0.length : Int).toNat ≤ (a0.take a1.toNat ++ ((a0.take ((a0.length : Int).toNat)).drop a2.toNat) ++ a0.drop (a1.toNat + ((a0.take ((a0.length : Int).toNat)).drop a2.toNat).length)).length)) (guardK (decide ((0 + (((a1.toNat + ((a0.take ((a0.length : Int).toNat)).drop a2.toNat).length) - 0 : Nat) : Int).toNat) ≤ (0 + (a0.length : Int).toNat)) && decide ((0 + (a0.length : Int).toNat) ≤ (a0.take a1.toNat ++ ((a0.take ((a0.length : Int).toNat)).drop a2.toNat) ++ a0.drop (a1.toNat + ((a0.take ((a0.length : Int).toNat)).drop a2.toNat).length)).length)) (some (((a0.take a1.toNat ++ ((a0.take ((a0.length : Int).toNat)).drop a2.toNat) ++ a0.drop (a1.toNat + ((a0.take ((a0.length : Int).toNat)).drop a2.toNat).length)).take (0 + (((a1.toNat + ((a0.take ((a0.length : Int).toNat)).drop a2.toNat).length) - 0 : Nat) : Int).toNat) ++ List.replicate ((0 + (a0.length : Int).toNat) - (0 + (((a1.toNat + ((a0.take ((a0.length : Int).toNat)).drop a2.toNat).length) - 0 : Nat) : Int).toNat)) z ++ (a0.take a1.toNat ++ ((a0.take ((a0.length : Int).toNat)).drop a2.toNat) ++ a0.drop (a1.toNat + ((a0.take ((a0.length : Int).toNat)).drop a2.toNat).length)).drop (0 + (a0.length : Int).toNat)).take (a1.toNat + ((a0.take ((a0.length : Int).toNat)).drop a2.toNat).length))))))))))
/-- Without the one at a place. -/
def cutL {α : Type} (l : List α) (k : Nat) : List α := l.take k ++ l.drop (k + 1)
def layL {α : Type} (l : List α) (k : Nat) (x : α) : List α := l.take k ++ ([x] ++ l.drop k)
theorem cutL_len {α : Type} (l : List α) {k : Nat} (h : k < l.length) : (cutL l k).length = l.length - 1 := by simp [cutL]; omega
theorem layL_len {α : Type} (l : List α) {k : Nat} (x : α) (h : k ≤ l.length) : (layL l k x).length = l.length + 1 := by simp [layL]; omega
theorem delB_ok {α : Type} (l : List α) (z : α) {k : Nat} (hk : k < l.length) : delB l z (k : Int) ((k + 1 : Nat) : Int) = some (cutL l k) := by
  have e1 : l.take ((l.length : Int).toNat) = l := List.take_length
  have e2 : (l.drop (k + 1)).length = l.length - (k + 1) := List.length_drop
  have e3 : k + (l.length - (k + 1)) = l.length - 1 := by omega
  have e4 : (l.take k ++ l.drop (k + 1)).length = l.length - 1 := cutL_len l hk
  unfold delB
  simp only [nat_cast, List.take_length, e2, e3, Nat.zero_add, Nat.sub_zero]
  have e5 : (l.take k ++ l.drop (k + 1) ++ l.drop (l.length - 1)).length = l.length := by rw [List.length_append, e4, List.length_drop]; omega
  rw [guard_of (by simp; omega), show ((k : Int) == ((k + 1 : Nat) : Int)) = false by simp; omega, cond_false, guard_of (by simp; omega), guard_of (by simp; omega), guard_dec (by omega), guard_of (by rw [e5]; simp), guard_of (by rw [e5]; simp)]
  refine congrArg some ?_
  rw [List.take_left' (l₁ := l.take k ++ l.drop (k + 1)) e4, List.append_assoc, List.take_left' e4]
  rfl
theorem delT_ok (l : List ByteArray) {k : Nat} (hk : k < l.length) : V.slices_Delete_stringstring l (k : Int) ((k + 1 : Nat) : Int) = some (cutL l k) := V.slices_Delete_stringstring.of _ _ _ (delB_ok l (⟨#[]⟩ : ByteArray) hk)
theorem delP_ok (l : List TProp) {k : Nat} (hk : k < l.length) : V.slices_Delete_apiPropapiProp l (k : Int) ((k + 1 : Nat) : Int) = some (cutL l k) := V.slices_Delete_apiPropapiProp.of _ _ _ (delB_ok l ((⟨#[]⟩ : ByteArray), 0, 0, (⟨#[]⟩ : ByteArray)) hk)
theorem insB_ok {α : Type} (l : List α) (x : α) {k : Nat} (hk : k ≤ l.length) (hn : l.length < nmax) : insB l (k : Int) [x] = some (layL l k x) := by
  unfold insB
  rw [guard_of (by simp; omega)]
  rfl
theorem insT_ok (l : List ByteArray) (x : ByteArray) {k : Nat} (hk : k ≤ l.length) (hn : l.length < nmax) : V.slices_Insert_stringstring l (k : Int) [x] = some (layL l k x) := V.slices_Insert_stringstring.of _ _ _ (insB_ok l x hk hn)
theorem insP_ok (l : List TProp) (x : TProp) {k : Nat} (hk : k ≤ l.length) (hn : l.length < nmax) : V.slices_Insert_apiPropapiProp l (k : Int) [x] = some (layL l k x) := V.slices_Insert_apiPropapiProp.of _ _ _ (insB_ok l x hk hn)

/-! ### Rows that rise by a key -/

section
variable {α : Type} {key : α → ByteArray} {l : List α} {x : ByteArray}

theorem less_take (hu : Up (l.map key)) : l.filter (fun a => strLt (key a) x) = l.take (lb (l.map key) x) := by
  have hlb : lb (l.map key) x ≤ l.length := by simpa using lb_le (l.map key) x
  conv => lhs; rw [← List.take_append_drop (lb (l.map key) x) l]
  rw [List.filter_append, List.filter_eq_self.2, List.filter_eq_nil_iff.2, List.append_nil]
  · intro a ha
    obtain ⟨i, hi, rfl⟩ := List.getElem_of_mem ha
    rw [List.getElem_drop]
    rw [List.length_drop] at hi
    intro h
    have := (lb_lt hu x (i := lb (l.map key) x + i) (by simp; omega)).1 (by simpa using h)
    omega
  · intro a ha
    obtain ⟨i, hi, rfl⟩ := List.getElem_of_mem ha
    rw [List.getElem_take]
    rw [List.length_take] at hi
    have := (lb_lt hu x (i := i) (by simp; omega)).2 (by omega)
    simpa using this
theorem key_at (hu : Up (l.map key)) (h : has (l.map key) x = true) : ∃ hk : lb (l.map key) x < l.length, key l[lb (l.map key) x] = x := by
  obtain ⟨h1, h2⟩ := (met_iff hu x).1 (has_iff.1 h)
  exact ⟨by simpa using h1, by simpa using h2⟩
theorem past_lb (hu : Up (l.map key)) {i : Nat} (hi : i < l.length) (h : lb (l.map key) x ≤ i) (hn : key l[i] ≠ x) : strLt x (key l[i]) = true := by
  refine lt_total ?_ hn
  cases hb : strLt (key l[i]) x with
  | false => rfl
  | true =>
    have := (lb_lt hu x (i := i) (by simpa using hi)).1 (by simpa using hb)
    omega
theorem more_drop (hu : Up (l.map key)) : l.filter (fun a => strLt x (key a)) = l.drop (if has (l.map key) x then lb (l.map key) x + 1 else lb (l.map key) x) := by
  have hlb : lb (l.map key) x ≤ l.length := by simpa using lb_le (l.map key) x
  conv => lhs; rw [← List.take_append_drop (if has (l.map key) x then lb (l.map key) x + 1 else lb (l.map key) x) l]
  rw [List.filter_append, List.filter_eq_nil_iff.2, List.filter_eq_self.2, List.nil_append]
  · intro a ha
    obtain ⟨i, hi, rfl⟩ := List.getElem_of_mem ha
    rw [List.getElem_drop]
    rw [List.length_drop] at hi
    split at hi <;> rename_i h
    · simp only [if_pos h]
      refine past_lb hu (by omega) (by omega) fun e => ?_
      obtain ⟨k1, k2⟩ := key_at hu h
      have := hu.lt (i := lb (l.map key) x) (j := lb (l.map key) x + 1 + i) (by omega) (by simp; omega)
      simp only [List.getElem_map] at this
      rw [k2, e, lt_irr] at this; cases this
    · simp only [if_neg h]
      refine past_lb hu (by omega) (by omega) fun e => h (has_iff.2 (e ▸ ?_))
      rw [List.mem_map]
      exact ⟨_, List.getElem_mem _, rfl⟩
  · intro a ha
    obtain ⟨i, hi, rfl⟩ := List.getElem_of_mem ha
    rw [List.getElem_take]
    rw [List.length_take] at hi
    rcases Nat.lt_or_ge i (lb (l.map key) x) with g | g
    · have := (lb_lt hu x (i := i) (by simp; omega)).2 g
      rw [List.getElem_map] at this
      rw [lt_asymm this]; simp
    · split at hi <;> rename_i h
      · obtain ⟨k1, k2⟩ := key_at hu h
        have : i = lb (l.map key) x := by omega
        simp only [this, k2, lt_irr]; simp
      · omega
theorem other_cut (hu : Up (l.map key)) (h : has (l.map key) x = true) : l.filter (fun a => !strEq (key a) x) = cutL l (lb (l.map key) x) := by
  obtain ⟨k1, k2⟩ := key_at hu h
  have e : l = l.take (lb (l.map key) x) ++ (l[lb (l.map key) x] :: l.drop (lb (l.map key) x + 1)) := by rw [← List.drop_eq_getElem_cons k1, List.take_append_drop]
  conv => lhs; rw [e]
  rw [List.filter_append, List.filter_cons, k2, strEq_self]
  simp only [Bool.not_true, Bool.false_eq_true, if_false]
  unfold cutL
  congr 1
  · refine List.filter_eq_self.2 fun a ha => ?_
    obtain ⟨i, hi, rfl⟩ := List.getElem_of_mem ha
    rw [List.getElem_take]
    rw [List.length_take] at hi
    have := (lb_lt hu x (i := i) (by simp; omega)).2 (by omega)
    rw [List.getElem_map] at this
    rw [strEq_no (lt_ne this)]; rfl
  · refine List.filter_eq_self.2 fun a ha => ?_
    obtain ⟨i, hi, rfl⟩ := List.getElem_of_mem ha
    rw [List.getElem_drop]
    rw [List.length_drop] at hi
    have := hu.lt (i := lb (l.map key) x) (j := lb (l.map key) x + 1 + i) (by omega) (by simp; omega)
    simp only [List.getElem_map] at this
    rw [k2] at this
    rw [strEq_no (fun e => lt_ne this e.symm)]; rfl
end

end Go.Proofs.Ytnadmjhidogmcaa.AE
end
section
set_option linter.unusedVariables false
set_option linter.unusedSimpArgs false
set_option maxRecDepth 20000
namespace Go.Proofs.Ytnadmjhidogmcaa.AE
open Go

abbrev pids (l : List TProp) : List ByteArray := l.map fun p => p.1
theorem pids_get {l : List TProp} {i : Nat} (h : i < l.length) : (rd sProp l i).1 = (pids l)[i]'(by simpa using h) := by rw [rd_get (e := sProp) h, List.getElem_map]
theorem propsN_up {l : List TProp} (h : propsN l = 0) : Up (pids l) := by
  refine up_of fun i hi hp => ?_
  have hi' : i < l.length := by simpa using hi
  have := (propsN_zero h hi').2.2 hp
  rw [pids_get (by omega : i - 1 < l.length), pids_get hi'] at this
  exact this

/-- Rows that may be. -/
structure LP (a : List ByteArray) (l : List TProp) : Prop where
  na : a.length ≤ 8
  nl : l.length ≤ 8
  ua : Up a
  ul : Up (pids l)
theorem LP.of {a : List ByteArray} {l : List TProp} (h : restN a l = 0) : LP a l := by
  obtain ⟨h1, h2, h3⟩ := restN_zero h
  exact ⟨h1, propsN_len h3, rowN_up h2, propsN_up h3⟩

def labelT (l : List ByteArray) (s : ByteArray) : List ByteArray × Int := if nameB s then (if has l s then ([], 10) else if l.length ≥ 8 then ([], 5) else (layL l (lb l s) s, 0)) else ([], 2)
def unlabelT (l : List ByteArray) (s : ByteArray) : List ByteArray × Int := if has l s then (cutL l (lb l s), 0) else ([], 9)
def setT (l : List TProp) (key : ByteArray) (v : TValue) : List TProp × Int :=
  if nameB key && valueB v then (if has (pids l) key then (l.set (lb (pids l) key) (key, v), 0) else if l.length ≥ 8 then ([], 5) else (layL l (lb (pids l) key) (key, v), 0)) else ([], 2)
def unsetT (l : List TProp) (key : ByteArray) : List TProp × Int := if has (pids l) key then (cutL l (lb (pids l) key), 0) else ([], 9)

theorem lb_len {l : List ByteArray} (s : ByteArray) : lb l s ≤ l.length := lb_le l s
theorem plb_len {l : List TProp} (s : ByteArray) : lb (pids l) s ≤ l.length := by simpa using lb_le (pids l) s
theorem plb_in {l : List TProp} {s : ByteArray} (hu : Up (pids l)) (h : has (pids l) s = true) : lb (pids l) s < l.length := by simpa using lb_in' hu h
where lb_in' {ks : List ByteArray} {x : ByteArray} (hu : Up ks) (h : has ks x = true) : lb ks x < ks.length := ((met_iff hu x).1 (has_iff.1 h)).1
theorem tlb_in {l : List ByteArray} {s : ByteArray} (hu : Up l) (h : has l s = true) : lb l s < l.length := ((met_iff hu s).1 (has_iff.1 h)).1

theorem With_ok (l : List ByteArray) (s : ByteArray) (hu : Up l) (hb : l.length ≤ 1000) : V.name_With l s = some (if has l s then (l, false) else (layL l (lb l s) s, true)) := by
  refine V.name_With.of _ _ ?_
  unfold F.name_With.B
  rw [Find_ok l s hu (by omega), Option.bind_some, cloneT_ok l (by unfold nmax; omega), Option.bind_some, Option.bind_some]
  cases h : has l s with
  | true => rfl
  | false =>
    show ((V.slices_Insert_stringstring l (lb l s : Int) [s]).bind fun t3 => some (t3, true)) = _
    rw [insT_ok l s (lb_len s) (by unfold nmax; omega)]
    rfl
theorem Without_ok (l : List ByteArray) (s : ByteArray) (hu : Up l) (hb : l.length ≤ 1000) : V.name_Without l s = some (if has l s then (cutL l (lb l s), true) else (l, false)) := by
  refine V.name_Without.of _ _ ?_
  unfold F.name_Without.B
  rw [Find_ok l s hu (by omega), Option.bind_some, cloneT_ok l (by unfold nmax; omega), Option.bind_some, Option.bind_some]
  cases h : has l s with
  | false => rfl
  | true =>
    have := tlb_in hu h
    show ((V.slices_Delete_stringstring l (lb l s : Int) (w64 ((lb l s : Int) + 1))).bind fun t3 => some (t3, true)) = _
    rw [w64_up this (by omega), delT_ok l this]
    rfl
theorem Label_ok (l : List ByteArray) (s : ByteArray) (hu : Up l) (hb : l.length ≤ 1000) (hs : s.size ≤ 140737488351232) : V.elem_Label l s = some (labelT l s) := by
  refine V.elem_Label.of _ _ ?_
  unfold F.elem_Label.B labelT
  rw [name_Check_ok s hs, Option.bind_some, With_ok l s hu hb]
  cases nameB s with
  | false => rfl
  | true =>
    cases h : has l s with
    | true => rfl
    | false =>
      show (bif decide (((layL l (lb l s) s).length : Int) > 8) then some ([], 5) else some (layL l (lb l s) s, 0)) = _
      rw [layL_len l s (lb_len s)]
      by_cases h8 : l.length ≥ 8
      · rw [if_yes (by omega)]; simp [h8]
      · rw [if_no (by omega)]; simp [h8]
theorem Unlabel_ok (l : List ByteArray) (s : ByteArray) (hu : Up l) (hb : l.length ≤ 1000) : V.elem_Unlabel l s = some (unlabelT l s) := by
  refine V.elem_Unlabel.of _ _ ?_
  unfold F.elem_Unlabel.B unlabelT
  rw [Without_ok l s hu hb, Option.bind_some]
  cases h : has l s <;> rfl

/-! ### The same by the document -/

theorem refLess_l (l : List ByteArray) (s : ByteArray) (hb : l.length ≤ 1000) : ∀ (d i : Nat) (n : Nat), i + d = l.length → n ≤ i → V.pleachref05_Less.l11010 l s (n : Int) (i : Int) = some ((n + ((l.drop i).filter fun a => strLt a s).length : Nat) : Int)
  | 0, i, n, h, hn => by
    refine V.pleachref05_Less.l11010.of _ _ _ _ ?_
    unfold F.pleachref05_Less.l11010.B
    rw [if_out (by omega), List.drop_eq_nil_of_le (by omega)]
    rfl
  | d + 1, i, n, h, hn => by
    have hi : i < l.length := by omega
    refine V.pleachref05_Less.l11010.of _ _ _ _ ?_
    unfold F.pleachref05_Less.l11010.B
    rw [if_in hi, guard_in hi, nat_cast, w64_up hi (by omega), w64_up (i := n) (n := l.length) (by omega) (by omega), drop_rd (e := .str) hi, List.filter_cons]
    cases hc : strLt (rd .str l i) s with
    | true =>
      rw [cond_true, refLess_l l s hb d (i + 1) (n + 1) (by omega) (by omega)]
      simp; omega
    | false =>
      rw [cond_false, refLess_l l s hb d (i + 1) n (by omega) (by omega)]
      simp
theorem refLess_ok (l : List ByteArray) (s : ByteArray) (hu : Up l) (hb : l.length ≤ 1000) : V.pleachref05_Less l s = some (lb l s : Int) := by
  refine V.pleachref05_Less.of _ _ ?_
  unfold F.pleachref05_Less.B
  have h := refLess_l l s hb l.length 0 0 (by omega) (by omega)
  have e := less_take (key := fun a : ByteArray => a) (l := l) (x := s) (by simpa using hu)
  simp only [List.map_id'] at e
  rw [List.drop_zero, e, List.length_take] at h
  have := lb_len (l := l) s
  rw [show (0 : Int) = ((0 : Nat) : Int) from rfl, h]
  simp; omega
theorem refWith_ok (l : List ByteArray) (s : ByteArray) (hu : Up l) (hb : l.length ≤ 1000) : V.pleachref05_With l s = some (if has l s then l else layL l (lb l s) s) := by
  have hlb := lb_len (l := l) s
  refine V.pleachref05_With.of _ _ ?_
  unfold F.pleachref05_With.B
  rw [refIn_ok l s (by omega), Option.bind_some]
  cases h : has l s with
  | true => rfl
  | false =>
    rw [refLess_ok l s hu hb, Option.bind_some, cond_false]
    simp only [nat_cast, List.take_length, List.drop_zero, List.nil_append]
    have g1 : (l.take (lb l s)).length ≤ 1000 := by rw [List.length_take]; omega
    have g2 : (l.take (lb l s) ++ [s]).length + (l.drop (lb l s)).length ≤ nmax := by unfold nmax; simp; omega
    have g3 : (l.take (lb l s)).length + [s].length ≤ nmax := by unfold nmax; simp; omega
    rw [guard_of (by simp; omega), guard_of (by simp; omega), meet_self, meet_self, guard_dec (by unfold nmax; omega), guard_dec g3, guard_dec g2]
    simp [layL]
theorem refOnly_l (l : List ByteArray) (s : ByteArray) (hb : l.length ≤ 1000) : ∀ (d i : Nat) (acc : List ByteArray), i + d = l.length → acc.length ≤ i → V.pleachref05_Only.l11010 l [s] (i : Int) acc = some (acc ++ (l.drop i).filter fun a => !strEq a s)
  | 0, i, acc, h, ha => by
    refine V.pleachref05_Only.l11010.of _ _ _ _ ?_
    unfold F.pleachref05_Only.l11010.B
    rw [if_out (by omega), List.drop_eq_nil_of_le (by omega), List.filter_nil, List.append_nil]
  | d + 1, i, acc, h, ha => by
    have hi : i < l.length := by omega
    refine V.pleachref05_Only.l11010.of _ _ _ _ ?_
    unfold F.pleachref05_Only.l11010.B
    rw [if_in hi, guard_in hi, nat_cast, refIn_ok _ _ (by simp), Option.bind_some, guard_in hi, w64_up hi (by omega), filt_rd (e := .str) l (fun a => !strEq a s) hi]
    show (bif !(strEq s (rd .str l i) || false) then _ else _) = some (acc ++ bif !strEq (rd .str l i) s then _ else _)
    rw [strEq_comm s, Bool.or_false, guard_dec (by unfold nmax; simp; omega)]
    cases strEq (rd .str l i) s with
    | true => exact refOnly_l l s hb d (i + 1) acc (by omega) (by omega)
    | false => rw [Bool.not_false, cond_true, cond_true, refOnly_l l s hb d (i + 1) _ (by omega) (by simp; omega)]; simp
theorem refLabel_ok (l : List ByteArray) (s : ByteArray) (hu : Up l) (hb : l.length ≤ 1000) (hs : s.size ≤ 140737488351232) : V.pleachref25_Label l s = some (labelT l s) := by
  refine V.pleachref25_Label.of _ _ ?_
  unfold F.pleachref25_Label.B labelT
  rw [refIs_ok s hs, Option.bind_some, refIn_ok l s (by omega), Option.bind_some, refWith_ok l s hu hb]
  cases nameB s with
  | false => rfl
  | true =>
    cases h : has l s with
    | true => rfl
    | false =>
      by_cases h8 : l.length ≥ 8
      · rw [Bool.not_true, cond_false, cond_false, if_yes (by omega)]; simp [h8]
      · rw [Bool.not_true, cond_false, cond_false, if_no (by omega)]; simp [h8]
theorem refUnlabel_ok (l : List ByteArray) (s : ByteArray) (hu : Up l) (hb : l.length ≤ 1000) : V.pleachref25_Unlabel l s = some (unlabelT l s) := by
  refine V.pleachref25_Unlabel.of _ _ ?_
  unfold F.pleachref25_Unlabel.B unlabelT
  rw [refIn_ok l s (by omega), Option.bind_some]
  cases h : has l s with
  | false => rfl
  | true =>
    have e := other_cut (key := fun a : ByteArray => a) (l := l) (x := s) (by simpa using hu) (by simpa using h)
    simp only [List.map_id'] at e
    rw [V.pleachref05_Only.of l [s] (refOnly_l l s hb l.length 0 [] (by omega) (by simp)), Option.bind_some, List.drop_zero, List.nil_append, e]
    rfl

/-! ### Properties -/

theorem find1_ok (p : TProp) (x : ByteArray) : V.elem_find_1 p x = some (cmpS p.1 x) := by
  refine V.elem_find_1.of _ _ ?_
  unfold F.elem_find_1.B
  rw [cmpCompareS_ok, Option.bind_some]
theorem find_ok (l : List TProp) (x : ByteArray) (hu : Up (pids l)) (hb : l.length ≤ 1000) : V.elem_find l x = some ((lb (pids l) x : Int), has (pids l) x) := by
  refine V.elem_find.of _ _ ?_
  unfold F.elem_find.B
  suffices hS : V.slices_BinarySearchFunc_apiPropapiPropstring_by_elem_find_1 l x = some ((lb (pids l) x : Int), has (pids l) x) by rw [hS, Option.bind_some]
  refine V.slices_BinarySearchFunc_apiPropapiPropstring_by_elem_find_1.of _ _ ?_
  unfold F.slices_BinarySearchFunc_apiPropapiPropstring_by_elem_find_1.B
  have hl : (pids l).length = l.length := by simp
  rw [show (l.length : Int) = ((pids l).length : Int) by simp]
  refine search_gen hu (V.slices_BinarySearchFunc_apiPropapiPropstring_by_elem_find_1.l11100 l x) (fun lo hi r h hh hr => ?_) (fun lo hlo => ?_)
  · refine V.slices_BinarySearchFunc_apiPropapiPropstring_by_elem_find_1.l11100.of _ _ _ _ ?_
    unfold F.slices_BinarySearchFunc_apiPropapiPropstring_by_elem_find_1.l11100.B
    rw [if_in h, half_nat (n := l.length) h (by omega) (by omega), guard_in (by omega), nat_cast, find1_ok, Option.bind_some, cmpS_neg, w64_up (n := l.length) (by omega) (by omega)]
    show (bif strLt (rd sProp l ((lo + hi) / 2)).1 x then _ else _) = _
    rw [pids_get (by omega), ← hr]
    cases strLt ((pids l)[(lo + hi) / 2]'(by omega)) x <;> rfl
  · refine V.slices_BinarySearchFunc_apiPropapiPropstring_by_elem_find_1.l11100.of _ _ _ _ ?_
    unfold F.slices_BinarySearchFunc_apiPropapiPropstring_by_elem_find_1.l11100.B
    rw [if_no (by omega)]
    rcases Nat.lt_or_ge lo l.length with h | h
    · rw [if_in h, guard_in h, nat_cast, find1_ok, Option.bind_some, cmpS_zero]
      show some ((lo : Int), decide ((rd sProp l lo).1 = x)) = _
      rw [pids_get h, List.getElem?_eq_getElem (by omega)]
      simp
    · rw [if_out h, List.getElem?_eq_none (by omega)]; simp
theorem Set_ok (l : List TProp) (key : ByteArray) (v : TValue) (hu : Up (pids l)) (hb : l.length ≤ 1000) (hs : key.size ≤ 140737488351232) : V.elem_Set l key v = some (setT l key v) := by
  refine V.elem_Set.of _ _ _ ?_
  unfold F.elem_Set.B setT
  rw [name_Check_ok key hs, Option.bind_some, show V.value_Check (v.1, v.2.1, v.2.2) = _ from value_Check_ok v, cloneP_ok l (by unfold nmax; omega), find_ok l key hu hb]
  cases nameB key with
  | false => rfl
  | true =>
    cases valueB v with
    | false => rfl
    | true =>
      cases h : has (pids l) key with
      | true =>
        have hk := plb_in hu h
        show guardK (decide (0 ≤ (lb (pids l) key : Int)) && decide ((lb (pids l) key : Int) < (l.length : Int))) (some (l.set (lb (pids l) key) ((rd sProp l (lb (pids l) key)).1, v.1, v.2.1, v.2.2), 0)) = _
        rw [guard_in hk, pids_get hk, ((met_iff hu key).1 (has_iff.1 h)).2]
        rfl
      | false =>
        show (bif decide ((l.length : Int) ≥ 8) then some ([], 5) else ((V.slices_Insert_apiPropapiProp l (lb (pids l) key : Int) [(key, v)]).bind fun t4 => some (t4, 0))) = _
        rw [insP_ok l _ (plb_len key) (by unfold nmax; omega), Option.bind_some]
        by_cases h8 : l.length ≥ 8
        · rw [if_yes (by omega)]; simp [h8]
        · rw [if_no (by omega)]; simp [h8]
theorem Unset_ok (l : List TProp) (key : ByteArray) (hu : Up (pids l)) (hb : l.length ≤ 1000) : V.elem_Unset l key = some (unsetT l key) := by
  refine V.elem_Unset.of _ _ ?_
  unfold F.elem_Unset.B unsetT
  rw [find_ok l key hu hb, Option.bind_some, cloneP_ok l (by unfold nmax; omega), Option.bind_some]
  cases h : has (pids l) key with
  | false => rfl
  | true =>
    have hk := plb_in hu h
    show ((V.slices_Delete_apiPropapiProp l (lb (pids l) key : Int) (w64 ((lb (pids l) key : Int) + 1))).bind fun t2 => some (t2, 0)) = _
    rw [w64_up hk (by omega), delP_ok l hk]
    rfl
theorem refAt_l (l : List TProp) (x : ByteArray) (hs : l.length ≤ 1000) : ∀ d i : Nat, i + d = l.length → (∀ j (hj : j < (pids l).length), j < i → (pids l)[j] ≠ x) → V.pleachref25_at.l1010 l x (i : Int) = some (atI (pids l) x)
  | 0, i, h, hn => by
    refine V.pleachref25_at.l1010.of _ _ _ ?_
    unfold F.pleachref25_at.l1010.B
    rw [if_out (by omega), atI_none fun j hj => hn j hj (by simp at hj; omega)]
  | d + 1, i, h, hn => by
    have hi : i < l.length := by omega
    refine V.pleachref25_at.l1010.of _ _ _ ?_
    unfold F.pleachref25_at.l1010.B
    rw [if_in hi, guard_in hi, nat_cast, w64_up hi (by omega), pids_get hi, atI_step (ks := pids l) (i := i) (by simpa using hi) hn]
    cases hc : strEq ((pids l)[i]'(by simpa using hi)) x with
    | true => rfl
    | false =>
      refine refAt_l l x hs d (i + 1) (by omega) fun j hj g1 e => ?_
      rcases Nat.lt_or_ge j i with g2 | g2
      · exact hn j hj g2 e
      · have : j = i := by omega
        subst this
        rw [e, strEq_self] at hc; cases hc
theorem refAt_ok (l : List TProp) (x : ByteArray) (hu : Up (pids l)) (hs : l.length ≤ 1000) : V.pleachref25_at l x = some (if has (pids l) x then (lb (pids l) x : Int) else -1) := by
  refine V.pleachref25_at.of _ _ ?_
  unfold F.pleachref25_at.B
  rw [← atI_up hu]
  exact refAt_l l x hs l.length 0 (by omega) fun j hj h => by omega
theorem refSet_l1 (l : List TProp) (key : ByteArray) (v : TValue) (hb : l.length ≤ 1000) : ∀ (d i : Nat) (acc : List TProp), i + d = l.length → acc.length ≤ 2000 + i → V.pleachref25_Set.l111111010 l key v (i : Int) acc = some (acc ++ (l.drop i).filter (fun p => strLt key p.1), 0)
  | 0, i, acc, h, ha => by
    refine V.pleachref25_Set.l111111010.of _ _ _ _ _ ?_
    unfold F.pleachref25_Set.l111111010.B
    rw [if_out (by omega), List.drop_eq_nil_of_le (by omega), List.filter_nil, List.append_nil]
  | d + 1, i, acc, h, ha => by
    have hi : i < l.length := by omega
    refine V.pleachref25_Set.l111111010.of _ _ _ _ _ ?_
    unfold F.pleachref25_Set.l111111010.B
    rw [if_in hi, guard_in hi, nat_cast, lt_or, Bool.not_not, guard_in hi, w64_up hi (by omega), filt_rd (e := sProp) l (fun p => strLt key p.1) hi]
    show (bif strLt key (rd sProp l i).1 then guardK (decide (acc.length + 1 ≤ nmax)) (V.pleachref25_Set.l111111010 l key v ((i + 1 : Nat) : Int) (acc ++ [rd sProp l i])) else V.pleachref25_Set.l111111010 l key v ((i + 1 : Nat) : Int) acc) = _
    rw [guard_dec (by unfold nmax; omega)]
    cases strLt key (rd sProp l i).1 with
    | true => rw [cond_true, cond_true, refSet_l1 l key v hb d (i + 1) _ (by omega) (by simp; omega)]; simp
    | false => exact refSet_l1 l key v hb d (i + 1) acc (by omega) (by omega)
theorem refSet_l0 (l : List TProp) (key : ByteArray) (v : TValue) (hb : l.length ≤ 1000) : ∀ (d i : Nat) (acc : List TProp), i + d = l.length → acc.length ≤ i → V.pleachref25_Set.l1111010 l key v (i : Int) acc = some ((acc ++ (l.drop i).filter (fun p => strLt p.1 key)) ++ [(key, v)] ++ l.filter (fun p => strLt key p.1), 0)
  | 0, i, acc, h, ha => by
    refine V.pleachref25_Set.l1111010.of _ _ _ _ _ ?_
    unfold F.pleachref25_Set.l1111010.B
    rw [if_out (by omega), List.drop_eq_nil_of_le (by omega), List.filter_nil, List.append_nil]
    show guardK (decide (acc.length + 1 ≤ nmax)) (V.pleachref25_Set.l111111010 l key v 0 (acc ++ [(key, v)])) = _
    rw [guard_dec (by unfold nmax; omega)]
    exact refSet_l1 l key v hb l.length 0 _ (by omega) (by simp; omega)
  | d + 1, i, acc, h, ha => by
    have hi : i < l.length := by omega
    refine V.pleachref25_Set.l1111010.of _ _ _ _ _ ?_
    unfold F.pleachref25_Set.l1111010.B
    rw [if_in hi, guard_in hi, nat_cast, guard_in hi, w64_up hi (by omega), filt_rd (e := sProp) l (fun p => strLt p.1 key) hi]
    show (bif strLt (rd sProp l i).1 key then guardK (decide (acc.length + 1 ≤ nmax)) (V.pleachref25_Set.l1111010 l key v ((i + 1 : Nat) : Int) (acc ++ [rd sProp l i])) else V.pleachref25_Set.l1111010 l key v ((i + 1 : Nat) : Int) acc) = _
    rw [guard_dec (by unfold nmax; omega)]
    cases strLt (rd sProp l i).1 key with
    | true => rw [cond_true, cond_true, refSet_l0 l key v hb d (i + 1) _ (by omega) (by simp; omega)]; simp
    | false => exact refSet_l0 l key v hb d (i + 1) acc (by omega) (by omega)
theorem refSet_ok (l : List TProp) (key : ByteArray) (v : TValue) (hu : Up (pids l)) (hb : l.length ≤ 1000) (hs : key.size ≤ 140737488351232) : V.pleachref25_Set l key v = some (setT l key v) := by
  refine V.pleachref25_Set.of _ _ _ ?_
  unfold F.pleachref25_Set.B setT
  rw [refIs_ok key hs, Option.bind_some, show V.pleachref06_Is (v.1, v.2.1, v.2.2) = _ from refVIs_ok v, refAt_ok l key hu hb]
  have h0 := refSet_l0 l key v hb l.length 0 [] (by omega) (by simp)
  rw [List.drop_zero, List.nil_append, less_take hu, more_drop hu] at h0
  have h0 : V.pleachref25_Set.l1111010 l key v 0 [] = _ := h0
  rw [h0]
  cases nameB key with
  | false => rfl
  | true =>
    cases valueB v with
    | false => rfl
    | true =>
      cases h : has (pids l) key with
      | true =>
        have hk := plb_in hu h
        show (bif decide ((lb (pids l) key : Int) < 0) then _ else some (l.take (lb (pids l) key) ++ [(key, v)] ++ l.drop (lb (pids l) key + 1), 0)) = some (l.set (lb (pids l) key) (key, v), 0)
        rw [if_no (by omega), List.set_eq_take_append_cons_drop, if_pos hk]
        simp
      | false =>
        show (bif decide ((l.length : Int) ≥ 8) then some ([], 5) else some (l.take (lb (pids l) key) ++ [(key, v)] ++ l.drop (lb (pids l) key), 0)) = _
        by_cases h8 : l.length ≥ 8
        · rw [if_yes (by omega)]; simp [h8]
        · rw [if_no (by omega)]; simp [h8, layL]
theorem refUnset_ok (l : List TProp) (key : ByteArray) (hu : Up (pids l)) (hb : l.length ≤ 1000) : V.pleachref25_Unset l key = some (unsetT l key) := by
  refine V.pleachref25_Unset.of _ _ ?_
  unfold F.pleachref25_Unset.B unsetT
  rw [refAt_ok l key hu hb, Option.bind_some]
  cases h : has (pids l) key with
  | false => rfl
  | true =>
    have hk := plb_in hu h
    simp only [if_true]
    rw [if_no (by omega), w64_up hk (by omega)]
    simp only [nat_cast, List.take_length, List.drop_zero, List.nil_append]
    rw [guard_of (by simp; omega), guard_of (by simp; omega), guard_dec (by unfold nmax; simp; omega), guard_dec (by unfold nmax; simp; omega)]
    rfl

end Go.Proofs.Ytnadmjhidogmcaa.AE
end
section
set_option linter.unusedVariables false
set_option linter.unusedSimpArgs false
set_option maxRecDepth 20000
namespace Go.Proofs.Ytnadmjhidogmcaa.AE
open Go

theorem awake25 : V.pleachlaw25_awake = some true := by
  refine V.pleachlaw25_awake.of ?_
  unfold F.pleachlaw25_awake.B
  rw [PutNode_ok _ ⟨by decide, ⟨by simp, fun _ h => by cases h⟩, ⟨by simp, fun _ h => by cases h⟩⟩, Option.bind_some]
  kernel_rfl

def cutM (s : ByteArray) : Int := if 1000000 < (s.size : Int) then 1000000 else (s.size : Int)
theorem cutM_in (s : ByteArray) : 0 ≤ cutM s ∧ cutM s ≤ 1000000 := by unfold cutM; split <;> omega
theorem bytes25_l (a : List ByteArray) (ha : a.length ≤ 1000) : ∀ (d i : Nat) (x : Int), i + d = a.length → 0 ≤ x → x ≤ 1000000 * i → ∃ r, V.pleachplain_Bytes.l11010 a x (i : Int) = some r
  | 0, i, x, h, h0, h1 => by
    refine ⟨x, ?_⟩
    refine V.pleachplain_Bytes.l11010.of _ _ _ ?_
    unfold F.pleachplain_Bytes.l11010.B
    rw [if_out (by omega)]
  | d + 1, i, x, h, h0, h1 => by
    have hi : i < a.length := by omega
    have c1 := cutM_in (rd .str a i)
    obtain ⟨r, hr⟩ := bytes25_l a ha d (i + 1) (x + cutM (rd .str a i)) (by omega) (by omega) (by omega)
    have key : ∃ r, F.pleachplain_Bytes.l11010.B V.pleachplain_Bytes.l11010 a x (i : Int) = some r := by
      unfold F.pleachplain_Bytes.l11010.B
      rw [if_in hi, guard_in hi, nat_cast, w64_up (n := a.length) hi (by omega)]
      show ∃ r, (bif decide (w64 (x + cutM (rd .str a i)) ≥ 1000000) then some (w64 (x + cutM (rd .str a i))) else V.pleachplain_Bytes.l11010 a (w64 (x + cutM (rd .str a i))) ((i + 1 : Nat) : Int)) = some r
      rw [w64_id (x := x + cutM (rd .str a i)) (by omega) (by omega), hr]
      cases decide (x + cutM (rd .str a i) ≥ 1000000) with
      | true => exact ⟨_, rfl⟩
      | false => exact ⟨_, rfl⟩
    obtain ⟨q, hq⟩ := key
    exact ⟨q, V.pleachplain_Bytes.l11010.of _ _ _ hq⟩
theorem bytes25 (a : List ByteArray) (ha : a.length ≤ 1000) : ∃ r, V.pleachplain_Bytes a = some r := by
  obtain ⟨r, hr⟩ := bytes25_l a ha a.length 0 0 (by omega) (by omega) (by omega)
  refine ⟨r, V.pleachplain_Bytes.of _ ?_⟩
  unfold F.pleachplain_Bytes.B
  exact hr

def cutT (s : ByteArray) : Int := if 10000 < (s.size : Int) then 10000 else (s.size : Int)
theorem cutT_in (s : ByteArray) : 0 ≤ cutT s ∧ cutT s ≤ 10000 := by unfold cutT; split <;> omega
theorem few25_end (a : List ByteArray) (l : List TProp) (x : Int) : ∃ p, (bif (decide ((l.length : Int) ≤ 20)) then (bif (decide (x ≤ 3000)) then (bif (decide ((a.length : Int) ≤ 20)) then ((V.pleachplain_Bytes a).bind fun t0 => (some (decide (t0 ≤ 2000)))) else (some false)) else (some false)) else (some false)) = some p ∧ (p = true → l.length ≤ 20 ∧ a.length ≤ 20) := by
  by_cases h1 : l.length ≤ 20
  · rw [show decide ((l.length : Int) ≤ 20) = true by simp; omega, cond_true]
    cases decide (x ≤ 3000) with
    | false => exact ⟨false, rfl, fun h => by cases h⟩
    | true =>
      by_cases h2 : a.length ≤ 20
      · obtain ⟨r, hr⟩ := bytes25 a (by omega)
        rw [show decide ((a.length : Int) ≤ 20) = true by simp; omega, hr]
        exact ⟨_, rfl, fun _ => ⟨h1, h2⟩⟩
      · rw [show decide ((a.length : Int) ≤ 20) = false by simp; omega]
        exact ⟨false, rfl, fun h => by cases h⟩
  · rw [show decide ((l.length : Int) ≤ 20) = false by simp; omega]
    exact ⟨false, rfl, fun h => by cases h⟩
theorem few25_l (a : List ByteArray) (l : List TProp) (hl : l.length ≤ 140737488351232) : ∀ (d i : Nat) (x : Int), i + d = 21 → 0 ≤ x → x ≤ 20000 * i → ∃ p, V.pleachlaw25_few.l11010 a l x (i : Int) = some p ∧ (p = true → l.length ≤ 20 ∧ a.length ≤ 20)
  | 0, i, x, h, h0, h1 => by
    obtain ⟨p, h2, h3⟩ := few25_end a l x
    refine ⟨p, V.pleachlaw25_few.l11010.of _ _ _ _ ?_, h3⟩
    unfold F.pleachlaw25_few.l11010.B
    rw [show decide ((i : Int) ≤ 20) = false by simp; omega]
    cases decide ((i : Int) < (l.length : Int)) <;> exact h2
  | d + 1, i, x, h, h0, h1 => by
    rcases Nat.lt_or_ge i l.length with hi | hi
    · have c1 := cutT_in (rd sProp l i).1
      have c2 := cutT_in (rd sProp l i).2.2.2
      obtain ⟨p, hp, g⟩ := few25_l a l hl d (i + 1) (x + (cutT (rd sProp l i).1 + cutT (rd sProp l i).2.2.2)) (by omega) (by omega) (by omega)
      refine ⟨p, V.pleachlaw25_few.l11010.of _ _ _ _ ?_, g⟩
      unfold F.pleachlaw25_few.l11010.B
      rw [if_in hi, show decide ((i : Int) ≤ 20) = true by simp; omega, cond_true, guard_in hi, guard_in hi, nat_cast, w64_up (n := l.length) hi (by omega)]
      show V.pleachlaw25_few.l11010 a l (w64 (x + w64 (cutT (rd sProp l i).1 + cutT (rd sProp l i).2.2.2))) _ = _
      rw [w64_id (x := cutT (rd sProp l i).1 + cutT (rd sProp l i).2.2.2) (by omega) (by omega), w64_id (by omega) (by omega)]
      exact hp
    · obtain ⟨p, h2, h3⟩ := few25_end a l x
      refine ⟨p, V.pleachlaw25_few.l11010.of _ _ _ _ ?_, h3⟩
      unfold F.pleachlaw25_few.l11010.B
      rw [if_out hi]
      exact h2
theorem few25_ok (a : List ByteArray) (l : List TProp) (hl : l.length ≤ 140737488351232) : ∃ p, V.pleachlaw25_few a l = some p ∧ (p = true → l.length ≤ 20 ∧ a.length ≤ 20) := by
  obtain ⟨p, h1, h2⟩ := few25_l a l hl 21 0 0 (by omega) (by omega) (by omega)
  refine ⟨p, V.pleachlaw25_few.of _ _ ?_, h2⟩
  unfold F.pleachlaw25_few.B
  exact h1

theorem rises05_l (l : List ByteArray) (hl : l.length ≤ 1000) : ∀ (d i : Nat), i + d = l.length → 1 ≤ i → ∃ p, V.pleachref05_Rises.l1010 l (i : Int) = some p ∧ (p = true → ∀ j (hj : j < l.length), i ≤ j → strLt (l[j - 1]'(by omega)) l[j] = true)
  | 0, i, h, h0 => by
    refine ⟨true, V.pleachref05_Rises.l1010.of _ _ ?_, fun _ j hj hij => by omega⟩
    unfold F.pleachref05_Rises.l1010.B
    rw [if_out (by omega)]
  | d + 1, i, h, h0 => by
    have hi : i < l.length := by omega
    obtain ⟨p, hp, g⟩ := rises05_l l hl d (i + 1) (by omega) (by omega)
    have e1 : rd .str l i = l[i] := rd_get (e := .str) hi
    have e2 : rd .str l (i - 1) = l[i - 1]'(by omega) := rd_get (e := .str) (by omega)
    cases hc : strLt (rd .str l (i - 1)) (rd .str l i) with
    | true =>
      refine ⟨p, V.pleachref05_Rises.l1010.of _ _ ?_, fun h j hj hij => ?_⟩
      · unfold F.pleachref05_Rises.l1010.B
        rw [if_in hi, guard_in hi, show w64 ((i : Int) - 1) = ((i - 1 : Nat) : Int) by (rw [w64_id (by omega) (by omega)]; omega), guard_in (by omega), nat_cast, nat_cast, lt_or, hc, w64_up (n := l.length) hi (by omega)]
        exact hp
      · rcases Nat.lt_or_ge i j with h5 | h5
        · exact g h j hj (by omega)
        · have : j = i := by omega
          subst this
          rw [← e1, ← e2]; exact hc
    | false =>
      refine ⟨false, V.pleachref05_Rises.l1010.of _ _ ?_, fun h => by cases h⟩
      unfold F.pleachref05_Rises.l1010.B
      rw [if_in hi, guard_in hi, show w64 ((i : Int) - 1) = ((i - 1 : Nat) : Int) by (rw [w64_id (by omega) (by omega)]; omega), guard_in (by omega), nat_cast, nat_cast, lt_or, hc]
      rfl
theorem rises05_ok (l : List ByteArray) (hl : l.length ≤ 1000) : ∃ p, V.pleachref05_Rises l = some p ∧ (p = true → Up l) := by
  rcases Nat.eq_zero_or_pos l.length with h | h
  · refine ⟨true, V.pleachref05_Rises.of _ ?_, fun _ => by rw [List.length_eq_zero_iff.1 h]; exact List.Pairwise.nil⟩
    unfold F.pleachref05_Rises.B
    refine V.pleachref05_Rises.l1010.of _ _ ?_
    unfold F.pleachref05_Rises.l1010.B
    rw [show decide ((1 : Int) < (l.length : Int)) = false by simp; omega]
    rfl
  · obtain ⟨p, h1, h2⟩ := rises05_l l hl (l.length - 1) 1 (by omega) (by omega)
    refine ⟨p, V.pleachref05_Rises.of _ ?_, fun hp => up_of fun i hi h0 => h2 hp i hi h0⟩
    unfold F.pleachref05_Rises.B
    exact h1

def getT (l : List TProp) (key : ByteArray) : TValue × Bool := if has (pids l) key then ((rd sProp l (lb (pids l) key)).2, true) else ((0, 0, ⟨#[]⟩), false)
theorem Get_ok (l : List TProp) (key : ByteArray) (hu : Up (pids l)) (hb : l.length ≤ 1000) : V.elem_Get l key = some (getT l key) := by
  refine V.elem_Get.of _ _ ?_
  unfold F.elem_Get.B getT
  rw [find_ok l key hu hb, Option.bind_some]
  cases h : has (pids l) key with
  | false => rfl
  | true =>
    have hk := plb_in hu h
    show guardK (decide (0 ≤ (lb (pids l) key : Int)) && decide ((lb (pids l) key : Int) < (l.length : Int))) _ = _
    rw [guard_in hk]
    rfl
theorem refGet_ok (l : List TProp) (key : ByteArray) (hu : Up (pids l)) (hb : l.length ≤ 1000) : V.pleachref25_Get l key = some (getT l key) := by
  refine V.pleachref25_Get.of _ _ ?_
  unfold F.pleachref25_Get.B getT
  rw [refAt_ok l key hu hb, Option.bind_some]
  cases h : has (pids l) key with
  | false => rfl
  | true =>
    have hk := plb_in hu h
    simp only [if_true]
    rw [if_no (by omega), guard_in hk]
    rfl

end Go.Proofs.Ytnadmjhidogmcaa.AE
end
section
set_option linter.unusedVariables false
set_option linter.unusedSimpArgs false
set_option maxRecDepth 20000
namespace Go.Proofs.Ytnadmjhidogmcaa.AE
open Go

theorem setT_len (l : List TProp) (key : ByteArray) (v : TValue) (hl : l.length ≤ 8) : (setT l key v).1.length ≤ 1000 := by
  unfold setT
  split
  · split
    · simp; omega
    · split
      · simp
      · have := layL_len l (key, v) (plb_len (l := l) key); simp only [this]; omega
  · simp
theorem unsetT_len (l : List TProp) (key : ByteArray) (hl : l.length ≤ 8) : (unsetT l key).1.length ≤ 1000 := by
  unfold unsetT
  split
  · simp [cutL]; omega
  · simp
theorem labelT_len (l : List ByteArray) (s : ByteArray) (hl : l.length ≤ 20) : (labelT l s).1.length ≤ 1000 := by
  unfold labelT
  split
  · split
    · simp
    · split
      · simp
      · have := layL_len l s (lb_len (l := l) s); simp only [this]; omega
  · simp
theorem unlabelT_len (l : List ByteArray) (s : ByteArray) (hl : l.length ≤ 20) : (unlabelT l s).1.length ≤ 1000 := by
  unfold unlabelT
  split
  · simp [cutL]; omega
  · simp

theorem ElemTurns_pure (a : List ByteArray) (l : List TProp) (key : ByteArray) (v : TValue) (ha : okTexts a) (hl : okProps l) (hk : key.size ≤ 140737488351232) : V.pleachlaw25_ElemTurns a l key v = some true := by
  obtain ⟨p, h1, h2⟩ := few25_ok a l hl.1
  refine V.pleachlaw25_ElemTurns.of _ _ _ _ ?_
  unfold F.pleachlaw25_ElemTurns.B
  rw [h1, Option.bind_some, awake25, Option.bind_some, refProps_ok l hl, Option.bind_some]
  cases p with
  | false => rfl
  | true =>
    obtain ⟨hl20, ha20⟩ := h2 rfl
    rw [Bool.not_true, cond_false]
    cases decide ((key.size : Int) > 100) with
    | true => rfl
    | false =>
      cases decide ((v.2.2.size : Int) > 100) with
      | true => rfl
      | false =>
        obtain ⟨q, g1, g2⟩ := rises05_ok a (by omega)
        rw [cond_false, cond_false, g1, Option.bind_some]
        cases q with
        | false => rfl
        | true =>
          have hu := g2 rfl
          by_cases hp : propsN l = 0
          · have hup := propsN_up hp
            have hl8 := propsN_len hp
            rw [hp, Bool.not_true, cond_false, show ((0 : Int) != 0) = false from rfl, cond_false, show ((v.1, v.2.1, v.2.2) : TValue) = v from rfl,
              Set_ok l key v hup (by omega) hk, refSet_ok l key v hup (by omega) hk, Unset_ok l key hup (by omega), refUnset_ok l key hup (by omega), Get_ok l key hup (by omega), refGet_ok l key hup (by omega)]
            simp only [Option.bind_some]
            rw [SameProps_ok _ _ (by have := setT_len l key v hl8; omega), SameProps_ok _ _ (by have := unsetT_len l key hl8; omega), Label_ok a key hu (by omega) hk, refLabel_ok a key hu (by omega) hk, Unlabel_ok a key hu (by omega), refUnlabel_ok a key hu (by omega)]
            simp only [Option.bind_some]
            rw [SameTexts_ok _ _ (by have := labelT_len a key ha20; omega), SameTexts_ok _ _ (by have := unlabelT_len a key ha20; omega)]
            simp [strEq_self]
          · rw [show (propsN l != 0) = true by simpa using hp]
            rfl

end Go.Proofs.Ytnadmjhidogmcaa.AE
end
section
namespace Go.Proofs.Ytnadmjhidogmcaa.AE
open Go Go.ChangeShapes Go.WideShapes Go.ChangeAt Go.RowKit
theorem weights_each {H : Type} {P : Program} {p : Nat → Bool} {ts : List TypeId} {ds : List (DataW H)} (h : (DataW.weightsEach P ts ds).all p = true) {j : Nat} {t : TypeId} {d : DataW H} (ht : ts[j]? = some t) (hd : ds[j]? = some d) : ∀ n ∈ d.weights P t, p n = true :=
  fun n hn => List.all_eq_true.1 h _ (DataW.weights_mem_each ht hd n hn)
theorem own : ownKnob Try.prog.godebug = none := by kernel_rfl
theorem laidOut : laidOutB Try.prog = true := by kernel_rfl
theorem mix : Try.prog.follows .mixedOrders = true := by kernel_rfl
theorem numGoB : (Try.prog.funcs.all fun fn => !(fn.name == "runtime.NumGoroutine")) = true := by kernel_rfl
theorem num (f : FuncId) (fn : Func) (h : Try.prog.funcs[f]? = some fn) : (fn.name == "runtime.NumGoroutine") = false := by
  have := Array.all_eq_true_iff_forall_mem.1 numGoB fn (Array.mem_of_getElem? h)
  simpa using this
def rho74 : Go.Shelf.Ren := ⟨fun i => match i with | 29 => 96 | _ => 97, fun i => match i with | 24 => 22 | 9 => 9 | 3 => 3 | 4 => 4 | _ => 0, fun x => x⟩
theorem ins74 : InsOk Try.prog rho74 74 "slices.Insert[[]string,string]" Try.f96 .str := by
  refine ⟨⟨mix, Try.func74.trans (congrArg some (by kernel_rfl)), Try.func96, by kernel_rfl, by kernel_rfl, by kernel_rfl, by kernel_rfl, by kernel_rfl, by kernel_rfl, by kernel_rfl, by kernel_rfl, by kernel_rfl, by decide⟩, by kernel_rfl, by kernel_rfl, by kernel_rfl, by kernel_rfl, by decide⟩
def rho41 : Go.Shelf.Ren := ⟨fun i => match i with | 29 => 70 | _ => 71, fun i => match i with | 24 => 23 | 9 => 60 | 3 => 3 | 4 => 4 | _ => 0, fun x => x⟩
theorem ins41 : InsOk Try.prog rho41 41 "slices.Insert[[]pleach/api.Prop,pleach/api.Prop]" Try.f70 sProp := by
  refine ⟨⟨mix, Try.func41.trans (congrArg some (by kernel_rfl)), Try.func70, by kernel_rfl, by kernel_rfl, by kernel_rfl, by kernel_rfl, by kernel_rfl, by kernel_rfl, by kernel_rfl, by kernel_rfl, by kernel_rfl, by decide⟩, by kernel_rfl, by kernel_rfl, by kernel_rfl, by kernel_rfl, by decide⟩
theorem extok : ExtOk Try.prog sg := .of (show extAll Try.prog sgT from
  ⟨.nothing rfl rfl,
  ⟨.nothing rfl rfl,
  ⟨.nothing rfl rfl,
  ⟨.nothing rfl rfl,
  ⟨.nothing rfl rfl,
  ⟨.nothing rfl rfl,
  ⟨.nothing rfl rfl,
  ⟨.nothing rfl rfl,
  ⟨.nothing rfl rfl,
  ⟨.nothing rfl rfl,
  ⟨.nothing rfl rfl,
  ⟨.nothing rfl rfl,
  ⟨.nothing rfl rfl,
  ⟨.nothing rfl rfl,
  ⟨.nothing rfl rfl,
  ⟨.nothing rfl rfl,
  ⟨.nothing rfl rfl,
  ⟨.nothing rfl rfl,
  ⟨.nothing rfl rfl,
  ⟨.nothing rfl rfl,
  ⟨.nothing rfl rfl,
  ⟨.nothing rfl rfl,
  ⟨.nothing rfl rfl,
  ⟨.nothing rfl rfl,
  ⟨.nothing rfl rfl,
  ⟨(ins_ext ins41),
  ⟨.nothing rfl rfl,
  ⟨.nothing rfl rfl,
  ⟨.nothing rfl rfl,
  ⟨.nothing rfl rfl,
  ⟨.nothing rfl rfl,
  ⟨.nothing rfl rfl,
  ⟨.nothing rfl rfl,
  ⟨.nothing rfl rfl,
  ⟨.nothing rfl rfl,
  ⟨.nothing rfl rfl,
  ⟨.nothing rfl rfl,
  ⟨.nothing rfl rfl,
  ⟨.nothing rfl rfl,
  ⟨.nothing rfl rfl,
  ⟨.nothing rfl rfl,
  ⟨(ins_ext ins74),
  ⟨.nothing rfl rfl,
  ⟨.nothing rfl rfl,
  ⟨.nothing rfl rfl,
  ⟨.nothing rfl rfl,
  ⟨.nothing rfl rfl,
  ⟨.nothing rfl rfl,
  ⟨.nothing rfl rfl,
  ⟨.nothing rfl rfl,
  ⟨.nothing rfl rfl,
  ⟨.nothing rfl rfl,
  ⟨.nothing rfl rfl,
  ⟨.nothing rfl rfl,
  ⟨.nothing rfl rfl,
  ⟨.nothing rfl rfl,
  ⟨.nothing rfl rfl,
  ⟨.nothing rfl rfl,
  trivial⟩⟩⟩⟩⟩⟩⟩⟩⟩⟩⟩⟩⟩⟩⟩⟩⟩⟩⟩⟩⟩⟩⟩⟩⟩⟩⟩⟩⟩⟩⟩⟩⟩⟩⟩⟩⟩⟩⟩⟩⟩⟩⟩⟩⟩⟩⟩⟩⟩⟩⟩⟩⟩⟩⟩⟩⟩⟩)
end Go.Proofs.Ytnadmjhidogmcaa.AE
end
section
namespace Go.Proofs.Ytnadmjhidogmcaa.AE.elemTurns
open Go Go.ChangeShapes Go.WideShapes Go.ChangeAt Go.RowKit
open Go.ChangeMaps (open_string shut_string)
set_option linter.unusedVariables false
def Pure : Prop := ∀ (x0 : den ((.list .str))) (x1 : den ((.list (.prod .str (.prod (.int .i64) (.prod (.int .i64) .str)))))) (x2 : den .str) (x3 : den ((.prod (.int .i64) (.prod (.int .i64) .str)))), Gd ((.list .str)) x0 → Gd ((.list (.prod .str (.prod (.int .i64) (.prod (.int .i64) .str))))) x1 → Gd .str x2 → Gd ((.prod (.int .i64) (.prod (.int .i64) .str))) x3 → ∃ K, F.pleachlaw25_ElemTurns K x0 x1 x2 x3 = some true
set_option maxRecDepth 100000 in
theorem lifted (pure : Pure) (os : Os) (started : os.Started) (H : Type) (enc : TypeId × Value → H) :
    ReturnsInHanded {} Try.checked os 3 .any (Rows.elemTurnsSpec.pre6 enc Try.prog Try.f3 Rows.elemTurnsRow.domain false) (Rows.elemTurnsSpec.post enc Try.prog Try.f3 false true false false) := by
  refine returnsInHanded_of_change_sized (C := Try.checked) own started (by kernel_rfl) Try.func3
    (ChangeSpec.witness6 (enc := enc) (C := Try.checked) false ⟨#[], #[.slice none 0 0, .slice none 0 0, .string ByteArray.empty, .agg #[.int .i64 0, .int .i64 0, .string ByteArray.empty]], []⟩ 8 (by kernel_rfl) (by kernel_rfl) (by kernel_rfl) (by kernel_rfl)) ?_
  intro W base args ds gs before hval0 hW hcnd hsz0 _
  have hsz : (DataW.weightsEach Try.prog (Try.f3.params.toList ++ Rows.elemTurnsSpec.plain.varTypes Try.prog) (ds ++ gs)).all (· ≤ reachBytes) = true := hsz0
  have hval : ∀ (j : Nat) t v, Try.f3.params[j]? = some t → args[j]? = some v → Value.okWide Try.prog W .any base t v := hval0
  have hW' := hW
  obtain ⟨p, q, hA0, hV, rfl, hfz, hnd⟩ := hW
  have hA : DataW.TrodAll enc Try.prog W 0 (fun _ => true) true Try.f3.params.toList args.toList ds p := hA0
  rw [Try.params3] at hA hval hsz
  obtain ⟨v0, vs0, d0, ds0, p0, q0, hargs, rfl, rfl, h0, r0⟩ := trodAll_cons hA
  obtain ⟨v1, vs1, d1, ds1, p1, q1, rfl, rfl, rfl, h1, r1⟩ := trodAll_cons r0
  obtain ⟨v2, vs2, d2, ds2, p2, q2, rfl, rfl, rfl, h2, r2⟩ := trodAll_cons r1
  obtain ⟨v3, vs3, d3, ds3, p3, q3, rfl, rfl, rfl, h3, r3⟩ := trodAll_cons r2
  obtain ⟨rfl, rfl, rfl⟩ := trodAll_nil r3
  obtain rfl : args = #[v0, v1, v2, v3] := by cases args; simp_all
  obtain ⟨rfl, rfl⟩ := trodVars_none hV
  have k0 := h0
  have lt0 : ∀ x ∈ p0, x.block < W.heap.size := by obtain ⟨m, hm⟩ := k0; exact DataW.trod_lt m _ _ _ hm
  obtain ⟨a0, len0, cap0, rfl⟩ := okWide_slice Try.underlying22 (hval 0 22 v0 rfl rfl)
  obtain ⟨fuel0, hf0⟩ := h0
  obtain ⟨x0, S0, G0⟩ := fitT_ok (O := OX NoX [] []) (fun b => own_none) 20 22 ((.list .str)) (by kernel_rfl) fuel0 _ _ hf0 (fun m hm => by have hq := weights_each hsz (j := 0) (t := 22) rfl rfl m hm; exact of_decide_eq_true hq)
  have k1 := h1
  have lt1 : ∀ x ∈ p1, x.block < W.heap.size := by obtain ⟨m, hm⟩ := k1; exact DataW.trod_lt m _ _ _ hm
  obtain ⟨a1, len1, cap1, rfl⟩ := okWide_slice Try.underlying23 (hval 1 23 v1 rfl rfl)
  obtain ⟨fuel1, hf1⟩ := h1
  obtain ⟨x1, S1, G1⟩ := fitT_ok (O := OX NoX [] []) (fun b => own_none) 20 23 ((.list (.prod .str (.prod (.int .i64) (.prod (.int .i64) .str))))) (by kernel_rfl) fuel1 _ _ hf1 (fun m hm => by have hq := weights_each hsz (j := 1) (t := 23) rfl rfl m hm; exact of_decide_eq_true hq)
  obtain ⟨x2, rfl, rfl, rfl, y2⟩ := open_string Try.underlying9 (hval 2 9 v2 rfl rfl) h2
  have G2 : Gd .str x2 := by
    have z := sized_string hsz (j := 2) (t := 9) rfl rfl
    rw [Array.length_toList] at z
    exact z
  have k3 := h3
  have lt3 : ∀ x ∈ p3, x.block < W.heap.size := by obtain ⟨m, hm⟩ := k3; exact DataW.trod_lt m _ _ _ hm
  obtain ⟨cs3, rfl, _⟩ := okWide_struct Try.underlying25 (hval 3 25 v3 rfl rfl)
  obtain ⟨fuel3, hf3⟩ := h3
  obtain ⟨x3, S3, G3⟩ := fitT_ok (O := OX NoX [] []) (fun b => own_none) 20 25 ((.prod (.int .i64) (.prod (.int .i64) .str))) (by kernel_rfl) fuel3 _ _ hf3 (fun m hm => by have hq := weights_each hsz (j := 3) (t := 25) rfl rfl m hm; exact of_decide_eq_true hq)
  obtain ⟨K, hk⟩ := pure x0 x1 x2 x3 G0 G1 G2 G3
  have ha : AV1sR (OX NoX [] []) W [] [.sc (.list .str x0 false), .sc (.list ((.prod .str (.prod (.int .i64) (.prod (.int .i64) .str)))) x1 false), .sc (.val (.string x2)), .agg (inj ((.prod (.int .i64) (.prod (.int .i64) .str))) x3)] (#[.slice a0 len0 cap0, .slice a1 len1 cap1, .string x2, .agg cs3] : Array Value).toList := .cons (arg_sc S0 rfl) (.cons (arg_sc S1 rfl) (.cons (.sc (.val _)) (.cons (arg_agg S3) ⟨rfl, by simp⟩)))
  refine (law_calls (good Try.prog sg extok mix num K) (f := 3) (t := (true : Bool)) (b := true) hk rfl (fun O w ρ vals σ v h hv => bool_of h hv) ha).mono fun e W' ⟨he, hd⟩ => ?_
  have bel : Below W.heap.size W W' := hd
  subst he
  exact ⟨_, rfl, _, _, _, [], _, [], hW', trodAll_mk1 (shut_bool Try.underlying4 _), (trodAll_cons_mk (Below.trod laidOut (by kernel_rfl) (of_decide_eq_true (by kernel_rfl)) k0 bel lt0) (trodAll_cons_mk (Below.trod laidOut (by kernel_rfl) (of_decide_eq_true (by kernel_rfl)) k1 bel lt1) (trodAll_cons_mk (shut_string Try.underlying9 y2) (trodAll_cons_mk (Below.trod laidOut (by kernel_rfl) (of_decide_eq_true (by kernel_rfl)) k3 bel lt3) trodAll_mk0)))), rfl, bel.frame _, fun h => by cases h⟩
theorem over (pure : Pure) : Rows.elemTurnsRow.holds Try.pinned (OpenSpec.ofChange Rows.elemTurnsSpec) :=
  OpenClaim.holds_of_wide 3 Try.f3 rfl rfl rfl rfl rfl rfl rfl ⟨rfl, rfl, rfl, rfl, rfl⟩ rfl rfl rfl rfl rfl (by kernel_rfl) Try.func3 (by kernel_rfl)
    (of_decide_eq_true (by kernel_rfl)) (by unfold Func.isWrapper; first | (rw [if_pos (by decide +kernel)]; kernel_rfl) | (rw [if_neg (by decide +kernel)]; exact ⟨rfl, rfl⟩))
    (fun os started H enc _ => lifted pure os started H enc)
theorem proved (pure : Pure) : Rows.ElemTurnsSaid := over pure
end Go.Proofs.Ytnadmjhidogmcaa.AE.elemTurns
end
