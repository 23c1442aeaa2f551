/- The evaluator of the program's form, its soundness, the functions of the given program as it evaluates them, and laws on these. Conditions: as each theorem says. -/
import Derived.Test.YtdblhdpnllckhaaCKeysLayN3
import Derived.Test.YtdblhdpnllckhaaCKeysLayN2
import Derived.Laws.BitsLemmas
section
set_option linter.unusedVariables false
set_option maxRecDepth 100000
namespace Go.Proofs.Ytdblhdpnllckhaa.AE
open Go
noncomputable def F.slices_partitionCmpFunc_apiEntry_by_keys_row_1.j11111111100001.B (c0 : (List TEntry) → (Int) → (Int) → (Int) → (Int) → (Int) → (List TEntry) → Option (Int × Bool × (List TEntry))) (a0 : List TEntry) (a1 : Int) (a2 : Int) (a3 : Int) (x0 : Int) (x1 : Int) (x2 : List TEntry) : Option (Int × Bool × (List TEntry)) :=
    (c0 a0 a1 a2 a3 x0 x1 x2)
theorem F.slices_partitionCmpFunc_apiEntry_by_keys_row_1.j11111111100001.eq K n0 a0 a1 a2 a3 x0 x1 x2 : F.slices_partitionCmpFunc_apiEntry_by_keys_row_1.j11111111100001 K n0 a0 a1 a2 a3 x0 x1 x2 = F.slices_partitionCmpFunc_apiEntry_by_keys_row_1.j11111111100001.B (F.slices_partitionCmpFunc_apiEntry_by_keys_row_1.l1111111110000100 K n0 K) a0 a1 a2 a3 x0 x1 x2 := (F.slices_partitionCmpFunc_apiEntry_by_keys_row_1.in_eq K [1, 1, 1, 1, 1, 1, 1, 1, 1, 0, 0, 0, 0, 1] [n0] (F.slices_partitionCmpFunc_apiEntry_by_keys_row_1.j11111111100001.st a0 a1 a2 a3 x0 x1 x2)).trans ((show ∀ H, F.slices_partitionCmpFunc_apiEntry_by_keys_row_1.in K H [1, 1, 1, 1, 1, 1, 1, 1, 1, 0, 0, 0, 0, 1] [n0] (F.slices_partitionCmpFunc_apiEntry_by_keys_row_1.j11111111100001.st a0 a1 a2 a3 x0 x1 x2) = F.slices_partitionCmpFunc_apiEntry_by_keys_row_1.j11111111100001.B (fun a0 a1 a2 a3 x0 x1 x2 => H [1, 1, 1, 1, 1, 1, 1, 1, 1, 0, 0, 0, 0, 1, 0, 0] [n0, K] (F.slices_partitionCmpFunc_apiEntry_by_keys_row_1.l1111111110000100.st a0 a1 a2 a3 x0 x1 x2)) a0 a1 a2 a3 x0 x1 x2 from by intro H; kernel_rfl) (F.slices_partitionCmpFunc_apiEntry_by_keys_row_1.at K))
noncomputable def F.slices_partitionCmpFunc_apiEntry_by_keys_row_1.l1111111110000100.B (c0 : (TEntry) → (TEntry) → Option (Int)) (c1 : (List TEntry) → (Int) → (Int) → (Int) → (Int) → (Int) → (Bool) → (List TEntry) → Option (Int × Bool × (List TEntry))) (a0 : List TEntry) (a1 : Int) (a2 : Int) (a3 : Int) (x0 : Int) (x1 : Int) (x2 : List TEntry) : Option (Int × Bool × (List TEntry)) :=
    (bif (decide (x0 ≤ x1)) then (guardK (decide (0 ≤ x1) && decide (x1 < (x2.length : Int))) (guardK (decide (0 ≤ a1) && decide (a1 < (x2.length : Int))) ((c0 ((rd sEntry x2 x1.toNat).1, (rd sEntry x2 x1.toNat).2) ((rd sEntry x2 a1.toNat).1, (rd sEntry x2 a1.toNat).2)).bind fun t3 => (c1 a0 a1 a2 a3 x0 x1 (!(decide (t3 < 0))) x2)))) else (c1 a0 a1 a2 a3 x0 x1 false x2))
theorem F.slices_partitionCmpFunc_apiEntry_by_keys_row_1.l1111111110000100.eq K n0 n1 a0 a1 a2 a3 x0 x1 x2 : F.slices_partitionCmpFunc_apiEntry_by_keys_row_1.l1111111110000100 K n0 (n1 + 1) a0 a1 a2 a3 x0 x1 x2 = F.slices_partitionCmpFunc_apiEntry_by_keys_row_1.l1111111110000100.B (F.keys_row_1 K) (F.slices_partitionCmpFunc_apiEntry_by_keys_row_1.j1111111110000100001 K n0 n1) a0 a1 a2 a3 x0 x1 x2 := (F.slices_partitionCmpFunc_apiEntry_by_keys_row_1.in_eq K [1, 1, 1, 1, 1, 1, 1, 1, 1, 0, 0, 0, 0, 1, 0, 0] [n0, n1 + 1] (F.slices_partitionCmpFunc_apiEntry_by_keys_row_1.l1111111110000100.st a0 a1 a2 a3 x0 x1 x2)).trans ((show ∀ H, F.slices_partitionCmpFunc_apiEntry_by_keys_row_1.in K H [1, 1, 1, 1, 1, 1, 1, 1, 1, 0, 0, 0, 0, 1, 0, 0] [n0, n1 + 1] (F.slices_partitionCmpFunc_apiEntry_by_keys_row_1.l1111111110000100.st a0 a1 a2 a3 x0 x1 x2) = F.slices_partitionCmpFunc_apiEntry_by_keys_row_1.l1111111110000100.B (F.keys_row_1 K) (fun a0 a1 a2 a3 x0 x1 x2 x3 => H [1, 1, 1, 1, 1, 1, 1, 1, 1, 0, 0, 0, 0, 1, 0, 0, 0, 0, 1] [n0, n1] (F.slices_partitionCmpFunc_apiEntry_by_keys_row_1.j1111111110000100001.st a0 a1 a2 a3 x0 x1 x2 x3)) a0 a1 a2 a3 x0 x1 x2 from by intro H; kernel_rfl) (F.slices_partitionCmpFunc_apiEntry_by_keys_row_1.at K))
noncomputable def F.slices_partitionCmpFunc_apiEntry_by_keys_row_1.j1111111110000100001.B (c0 : (List TEntry) → (Int) → (Int) → (Int) → (Int) → (Int) → (List TEntry) → Option (Int × Bool × (List TEntry))) (c1 : (List TEntry) → (Int) → (Int) → (Int) → (Int) → (Int) → (List TEntry) → Option (Int × Bool × (List TEntry))) (a0 : List TEntry) (a1 : Int) (a2 : Int) (a3 : Int) (x0 : Int) (x1 : Int) (x2 : Bool) (x3 : List TEntry) : Option (Int × Bool × (List TEntry)) :=
    (bif x2 then (c0 a0 a1 a2 a3 x0 (w64 (x1 - 1)) x3) else (c1 a0 a1 a2 a3 x0 x1 x3))
theorem F.slices_partitionCmpFunc_apiEntry_by_keys_row_1.j1111111110000100001.eq K n0 n1 a0 a1 a2 a3 x0 x1 x2 x3 : F.slices_partitionCmpFunc_apiEntry_by_keys_row_1.j1111111110000100001 K n0 n1 a0 a1 a2 a3 x0 x1 x2 x3 = F.slices_partitionCmpFunc_apiEntry_by_keys_row_1.j1111111110000100001.B (F.slices_partitionCmpFunc_apiEntry_by_keys_row_1.l1111111110000100 K n0 n1) (F.slices_partitionCmpFunc_apiEntry_by_keys_row_1.j111111111000011 K n0) a0 a1 a2 a3 x0 x1 x2 x3 := (F.slices_partitionCmpFunc_apiEntry_by_keys_row_1.in_eq K [1, 1, 1, 1, 1, 1, 1, 1, 1, 0, 0, 0, 0, 1, 0, 0, 0, 0, 1] [n0, n1] (F.slices_partitionCmpFunc_apiEntry_by_keys_row_1.j1111111110000100001.st a0 a1 a2 a3 x0 x1 x2 x3)).trans ((show ∀ H, F.slices_partitionCmpFunc_apiEntry_by_keys_row_1.in K H [1, 1, 1, 1, 1, 1, 1, 1, 1, 0, 0, 0, 0, 1, 0, 0, 0, 0, 1] [n0, n1] (F.slices_partitionCmpFunc_apiEntry_by_keys_row_1.j1111111110000100001.st a0 a1 a2 a3 x0 x1 x2 x3) = F.slices_partitionCmpFunc_apiEntry_by_keys_row_1.j1111111110000100001.B (fun a0 a1 a2 a3 x0 x1 x2 => H [1, 1, 1, 1, 1, 1, 1, 1, 1, 0, 0, 0, 0, 1, 0, 0] [n0, n1] (F.slices_partitionCmpFunc_apiEntry_by_keys_row_1.l1111111110000100.st a0 a1 a2 a3 x0 x1 x2)) (fun a0 a1 a2 a3 x0 x1 x2 => H [1, 1, 1, 1, 1, 1, 1, 1, 1, 0, 0, 0, 0, 1, 1] [n0] (F.slices_partitionCmpFunc_apiEntry_by_keys_row_1.j111111111000011.st a0 a1 a2 a3 x0 x1 x2)) a0 a1 a2 a3 x0 x1 x2 x3 from by intro H; kernel_rfl) (F.slices_partitionCmpFunc_apiEntry_by_keys_row_1.at K))
noncomputable def F.slices_partitionCmpFunc_apiEntry_by_keys_row_1.j111111111000011.B (c0 : (List TEntry) → (Int) → (Int) → (Int) → (Int) → (List TEntry) → Option (Int × Bool × (List TEntry))) (c1 : (List TEntry) → (Int) → (Int) → (Int) → (Int) → (Int) → (List TEntry) → Option (Int × Bool × (List TEntry))) (a0 : List TEntry) (a1 : Int) (a2 : Int) (a3 : Int) (x0 : Int) (x1 : Int) (x2 : List TEntry) : Option (Int × Bool × (List TEntry)) :=
    (bif (decide (x0 > x1)) then (c0 a0 a1 a2 a3 x1 x2) else (c1 a0 a1 a2 a3 x0 x1 x2))
theorem F.slices_partitionCmpFunc_apiEntry_by_keys_row_1.j111111111000011.eq K n0 a0 a1 a2 a3 x0 x1 x2 : F.slices_partitionCmpFunc_apiEntry_by_keys_row_1.j111111111000011 K n0 a0 a1 a2 a3 x0 x1 x2 = F.slices_partitionCmpFunc_apiEntry_by_keys_row_1.j111111111000011.B (F.slices_partitionCmpFunc_apiEntry_by_keys_row_1.j1111111111 K) (F.slices_partitionCmpFunc_apiEntry_by_keys_row_1.j1111111110000111 K n0) a0 a1 a2 a3 x0 x1 x2 := (F.slices_partitionCmpFunc_apiEntry_by_keys_row_1.in_eq K [1, 1, 1, 1, 1, 1, 1, 1, 1, 0, 0, 0, 0, 1, 1] [n0] (F.slices_partitionCmpFunc_apiEntry_by_keys_row_1.j111111111000011.st a0 a1 a2 a3 x0 x1 x2)).trans ((show ∀ H, F.slices_partitionCmpFunc_apiEntry_by_keys_row_1.in K H [1, 1, 1, 1, 1, 1, 1, 1, 1, 0, 0, 0, 0, 1, 1] [n0] (F.slices_partitionCmpFunc_apiEntry_by_keys_row_1.j111111111000011.st a0 a1 a2 a3 x0 x1 x2) = F.slices_partitionCmpFunc_apiEntry_by_keys_row_1.j111111111000011.B (fun a0 a1 a2 a3 x0 x1 => H [1, 1, 1, 1, 1, 1, 1, 1, 1, 1] [] (F.slices_partitionCmpFunc_apiEntry_by_keys_row_1.j1111111111.st a0 a1 a2 a3 x0 x1)) (fun a0 a1 a2 a3 x0 x1 x2 => H [1, 1, 1, 1, 1, 1, 1, 1, 1, 0, 0, 0, 0, 1, 1, 1] [n0] (F.slices_partitionCmpFunc_apiEntry_by_keys_row_1.j1111111110000111.st a0 a1 a2 a3 x0 x1 x2)) a0 a1 a2 a3 x0 x1 x2 from by intro H; kernel_rfl) (F.slices_partitionCmpFunc_apiEntry_by_keys_row_1.at K))
noncomputable def F.slices_partitionCmpFunc_apiEntry_by_keys_row_1.j1111111110000111.B (c0 : (List TEntry) → (Int) → (Int) → (Int) → (Int) → (Int) → (List TEntry) → Option (Int × Bool × (List TEntry))) (a0 : List TEntry) (a1 : Int) (a2 : Int) (a3 : Int) (x0 : Int) (x1 : Int) (x2 : List TEntry) : Option (Int × Bool × (List TEntry)) :=
    (guardK (decide (0 ≤ x1) && decide (x1 < (x2.length : Int))) (guardK (decide (0 ≤ x0) && decide (x0 < (x2.length : Int))) (meet (guardK (decide (0 ≤ x0) && decide (x0 < (x2.length : Int))) (guardK (decide (0 ≤ x1) && decide (x1 < ((x2.set x0.toNat ((rd sEntry x2 x1.toNat).1, (rd sEntry x2 x1.toNat).2)).length : Int))) (c0 a0 a1 a2 a3 x0 x1 ((x2.set x0.toNat ((rd sEntry x2 x1.toNat).1, (rd sEntry x2 x1.toNat).2)).set x1.toNat ((rd sEntry x2 x0.toNat).1, (rd sEntry x2 x0.toNat).2))))) (guardK (decide (0 ≤ x0) && decide (x0 < (x2.length : Int))) (guardK (decide (0 ≤ x1) && decide (x1 < ((x2.set x0.toNat ((rd sEntry x2 x1.toNat).1, (rd sEntry x2 x1.toNat).2)).length : Int))) (c0 a0 a1 a2 a3 x0 x1 ((x2.set x0.toNat ((rd sEntry x2 x1.toNat).1, (rd sEntry x2 x1.toNat).2)).set x1.toNat ((rd sEntry x2 x0.toNat).1, (rd sEntry x2 x0.toNat).2))))))))
theorem F.slices_partitionCmpFunc_apiEntry_by_keys_row_1.j1111111110000111.eq K n0 a0 a1 a2 a3 x0 x1 x2 : F.slices_partitionCmpFunc_apiEntry_by_keys_row_1.j1111111110000111 K n0 a0 a1 a2 a3 x0 x1 x2 = F.slices_partitionCmpFunc_apiEntry_by_keys_row_1.j1111111110000111.B (F.slices_partitionCmpFunc_apiEntry_by_keys_row_1.j11111111100001111 K n0) a0 a1 a2 a3 x0 x1 x2 := (F.slices_partitionCmpFunc_apiEntry_by_keys_row_1.in_eq K [1, 1, 1, 1, 1, 1, 1, 1, 1, 0, 0, 0, 0, 1, 1, 1] [n0] (F.slices_partitionCmpFunc_apiEntry_by_keys_row_1.j1111111110000111.st a0 a1 a2 a3 x0 x1 x2)).trans ((show ∀ H, F.slices_partitionCmpFunc_apiEntry_by_keys_row_1.in K H [1, 1, 1, 1, 1, 1, 1, 1, 1, 0, 0, 0, 0, 1, 1, 1] [n0] (F.slices_partitionCmpFunc_apiEntry_by_keys_row_1.j1111111110000111.st a0 a1 a2 a3 x0 x1 x2) = F.slices_partitionCmpFunc_apiEntry_by_keys_row_1.j1111111110000111.B (fun a0 a1 a2 a3 x0 x1 x2 => H [1, 1, 1, 1, 1, 1, 1, 1, 1, 0, 0, 0, 0, 1, 1, 1, 1] [n0] (F.slices_partitionCmpFunc_apiEntry_by_keys_row_1.j11111111100001111.st a0 a1 a2 a3 x0 x1 x2)) a0 a1 a2 a3 x0 x1 x2 from by intro H; kernel_rfl) (F.slices_partitionCmpFunc_apiEntry_by_keys_row_1.at K))
noncomputable def F.slices_partitionCmpFunc_apiEntry_by_keys_row_1.j11111111100001111.B (c0 : (List TEntry) → (Int) → (Int) → (Int) → (Int) → (Int) → (List TEntry) → Option (Int × Bool × (List TEntry))) (a0 : List TEntry) (a1 : Int) (a2 : Int) (a3 : Int) (x0 : Int) (x1 : Int) (x2 : List TEntry) : Option (Int × Bool × (List TEntry)) :=
    (c0 a0 a1 a2 a3 (w64 (x0 + 1)) (w64 (x1 - 1)) x2)
theorem F.slices_partitionCmpFunc_apiEntry_by_keys_row_1.j11111111100001111.eq K n0 a0 a1 a2 a3 x0 x1 x2 : F.slices_partitionCmpFunc_apiEntry_by_keys_row_1.j11111111100001111 K n0 a0 a1 a2 a3 x0 x1 x2 = F.slices_partitionCmpFunc_apiEntry_by_keys_row_1.j11111111100001111.B (F.slices_partitionCmpFunc_apiEntry_by_keys_row_1.l11111111100 K n0) a0 a1 a2 a3 x0 x1 x2 := (F.slices_partitionCmpFunc_apiEntry_by_keys_row_1.in_eq K [1, 1, 1, 1, 1, 1, 1, 1, 1, 0, 0, 0, 0, 1, 1, 1, 1] [n0] (F.slices_partitionCmpFunc_apiEntry_by_keys_row_1.j11111111100001111.st a0 a1 a2 a3 x0 x1 x2)).trans ((show ∀ H, F.slices_partitionCmpFunc_apiEntry_by_keys_row_1.in K H [1, 1, 1, 1, 1, 1, 1, 1, 1, 0, 0, 0, 0, 1, 1, 1, 1] [n0] (F.slices_partitionCmpFunc_apiEntry_by_keys_row_1.j11111111100001111.st a0 a1 a2 a3 x0 x1 x2) = F.slices_partitionCmpFunc_apiEntry_by_keys_row_1.j11111111100001111.B (fun a0 a1 a2 a3 x0 x1 x2 => H [1, 1, 1, 1, 1, 1, 1, 1, 1, 0, 0] [n0] (F.slices_partitionCmpFunc_apiEntry_by_keys_row_1.l11111111100.st a0 a1 a2 a3 x0 x1 x2)) a0 a1 a2 a3 x0 x1 x2 from by intro H; kernel_rfl) (F.slices_partitionCmpFunc_apiEntry_by_keys_row_1.at K))
noncomputable def F.slices_partitionCmpFunc_apiEntry_by_keys_row_1.j1111111111.B (c0 : (List TEntry) → (Int) → (Int) → (Int) → (Int) → (List TEntry) → Option (Int × Bool × (List TEntry))) (a0 : List TEntry) (a1 : Int) (a2 : Int) (a3 : Int) (x0 : Int) (x1 : List TEntry) : Option (Int × Bool × (List TEntry)) :=
    (guardK (decide (0 ≤ a1) && decide (a1 < (x1.length : Int))) (guardK (decide (0 ≤ x0) && decide (x0 < (x1.length : Int))) (meet (guardK (decide (0 ≤ x0) && decide (x0 < (x1.length : Int))) (guardK (decide (0 ≤ a1) && decide (a1 < ((x1.set x0.toNat ((rd sEntry x1 a1.toNat).1, (rd sEntry x1 a1.toNat).2)).length : Int))) (c0 a0 a1 a2 a3 x0 ((x1.set x0.toNat ((rd sEntry x1 a1.toNat).1, (rd sEntry x1 a1.toNat).2)).set a1.toNat ((rd sEntry x1 x0.toNat).1, (rd sEntry x1 x0.toNat).2))))) (guardK (decide (0 ≤ x0) && decide (x0 < (x1.length : Int))) (guardK (decide (0 ≤ a1) && decide (a1 < ((x1.set x0.toNat ((rd sEntry x1 a1.toNat).1, (rd sEntry x1 a1.toNat).2)).length : Int))) (c0 a0 a1 a2 a3 x0 ((x1.set x0.toNat ((rd sEntry x1 a1.toNat).1, (rd sEntry x1 a1.toNat).2)).set a1.toNat ((rd sEntry x1 x0.toNat).1, (rd sEntry x1 x0.toNat).2))))))))
theorem F.slices_partitionCmpFunc_apiEntry_by_keys_row_1.j1111111111.eq K a0 a1 a2 a3 x0 x1 : F.slices_partitionCmpFunc_apiEntry_by_keys_row_1.j1111111111 K a0 a1 a2 a3 x0 x1 = F.slices_partitionCmpFunc_apiEntry_by_keys_row_1.j1111111111.B (F.slices_partitionCmpFunc_apiEntry_by_keys_row_1.j11111111111 K) a0 a1 a2 a3 x0 x1 := (F.slices_partitionCmpFunc_apiEntry_by_keys_row_1.in_eq K [1, 1, 1, 1, 1, 1, 1, 1, 1, 1] [] (F.slices_partitionCmpFunc_apiEntry_by_keys_row_1.j1111111111.st a0 a1 a2 a3 x0 x1)).trans ((show ∀ H, F.slices_partitionCmpFunc_apiEntry_by_keys_row_1.in K H [1, 1, 1, 1, 1, 1, 1, 1, 1, 1] [] (F.slices_partitionCmpFunc_apiEntry_by_keys_row_1.j1111111111.st a0 a1 a2 a3 x0 x1) = F.slices_partitionCmpFunc_apiEntry_by_keys_row_1.j1111111111.B (fun a0 a1 a2 a3 x0 x1 => H [1, 1, 1, 1, 1, 1, 1, 1, 1, 1, 1] [] (F.slices_partitionCmpFunc_apiEntry_by_keys_row_1.j11111111111.st a0 a1 a2 a3 x0 x1)) a0 a1 a2 a3 x0 x1 from by intro H; kernel_rfl) (F.slices_partitionCmpFunc_apiEntry_by_keys_row_1.at K))
noncomputable def F.slices_partitionCmpFunc_apiEntry_by_keys_row_1.j11111111111.B (a0 : List TEntry) (a1 : Int) (a2 : Int) (a3 : Int) (x0 : Int) (x1 : List TEntry) : Option (Int × Bool × (List TEntry)) :=
    (some (x0, false, x1))
theorem F.slices_partitionCmpFunc_apiEntry_by_keys_row_1.j11111111111.eq K a0 a1 a2 a3 x0 x1 : F.slices_partitionCmpFunc_apiEntry_by_keys_row_1.j11111111111 K a0 a1 a2 a3 x0 x1 = F.slices_partitionCmpFunc_apiEntry_by_keys_row_1.j11111111111.B a0 a1 a2 a3 x0 x1 := (F.slices_partitionCmpFunc_apiEntry_by_keys_row_1.in_eq K [1, 1, 1, 1, 1, 1, 1, 1, 1, 1, 1] [] (F.slices_partitionCmpFunc_apiEntry_by_keys_row_1.j11111111111.st a0 a1 a2 a3 x0 x1)).trans ((show ∀ H, F.slices_partitionCmpFunc_apiEntry_by_keys_row_1.in K H [1, 1, 1, 1, 1, 1, 1, 1, 1, 1, 1] [] (F.slices_partitionCmpFunc_apiEntry_by_keys_row_1.j11111111111.st a0 a1 a2 a3 x0 x1) = F.slices_partitionCmpFunc_apiEntry_by_keys_row_1.j11111111111.B a0 a1 a2 a3 x0 x1 from by intro H; kernel_rfl) (F.slices_partitionCmpFunc_apiEntry_by_keys_row_1.at K))
noncomputable def F.slices_partitionCmpFunc_apiEntry_by_keys_row_1.B (c0 : (List TEntry) → (Int) → (Int) → (Int) → Option (Int × Bool × (List TEntry))) (a0 : List TEntry) (a1 : Int) (a2 : Int) (a3 : Int) : Option (Int × Bool × (List TEntry)) :=
    (guardK (decide (0 ≤ a3) && decide (a3 < (a0.length : Int))) (guardK (decide (0 ≤ a1) && decide (a1 < (a0.length : Int))) (meet (guardK (decide (0 ≤ a1) && decide (a1 < (a0.length : Int))) (guardK (decide (0 ≤ a3) && decide (a3 < ((a0.set a1.toNat ((rd sEntry a0 a3.toNat).1, (rd sEntry a0 a3.toNat).2)).length : Int))) (c0 a0 a1 a2 a3))) (guardK (decide (0 ≤ a1) && decide (a1 < (a0.length : Int))) (guardK (decide (0 ≤ a3) && decide (a3 < ((a0.set a1.toNat ((rd sEntry a0 a3.toNat).1, (rd sEntry a0 a3.toNat).2)).length : Int))) (c0 a0 a1 a2 a3))))))
theorem F.slices_partitionCmpFunc_apiEntry_by_keys_row_1.eq K a0 a1 a2 a3 : F.slices_partitionCmpFunc_apiEntry_by_keys_row_1 (K + 1) a0 a1 a2 a3 = F.slices_partitionCmpFunc_apiEntry_by_keys_row_1.B (F.slices_partitionCmpFunc_apiEntry_by_keys_row_1.j11 K) a0 a1 a2 a3 := (F.slices_partitionCmpFunc_apiEntry_by_keys_row_1.in_main K a0 a1 a2 a3).trans ((show ∀ H, F.slices_partitionCmpFunc_apiEntry_by_keys_row_1.in K H [] [] ⟨slots [.sc (.own 0 none), .sc (.val (.int .i64 a1)), .sc (.val (.int .i64 a2)), .sc (.val (.int .i64 a3)), .sc (.fn 142 [])] 0, [.elems sEntry a0]⟩ = F.slices_partitionCmpFunc_apiEntry_by_keys_row_1.B (fun a0 a1 a2 a3 => H [1, 1] [] (F.slices_partitionCmpFunc_apiEntry_by_keys_row_1.j11.st a0 a1 a2 a3)) a0 a1 a2 a3 from by intro H; kernel_rfl) (F.slices_partitionCmpFunc_apiEntry_by_keys_row_1.at K))
noncomputable def V.slices_partitionCmpFunc_apiEntry_by_keys_row_1.j11 (a0 : List TEntry) (a1 : Int) (a2 : Int) (a3 : Int) := lim fun v => F.slices_partitionCmpFunc_apiEntry_by_keys_row_1.j11 (v 0) a0 a1 a2 a3
noncomputable def V.slices_partitionCmpFunc_apiEntry_by_keys_row_1.l11100 (a0 : List TEntry) (a1 : Int) (a2 : Int) (a3 : Int) (x0 : Int) := lim fun v => F.slices_partitionCmpFunc_apiEntry_by_keys_row_1.l11100 (v 0) (v 1) a0 a1 a2 a3 x0
noncomputable def V.slices_partitionCmpFunc_apiEntry_by_keys_row_1.j11100001 (a0 : List TEntry) (a1 : Int) (a2 : Int) (a3 : Int) (x0 : Int) (x1 : Bool) := lim fun v => F.slices_partitionCmpFunc_apiEntry_by_keys_row_1.j11100001 (v 0) (v 1) a0 a1 a2 a3 x0 x1
noncomputable def V.slices_partitionCmpFunc_apiEntry_by_keys_row_1.j1111 (a0 : List TEntry) (a1 : Int) (a2 : Int) (a3 : Int) (x0 : Int) := lim fun v => F.slices_partitionCmpFunc_apiEntry_by_keys_row_1.j1111 (v 0) a0 a1 a2 a3 x0
noncomputable def V.slices_partitionCmpFunc_apiEntry_by_keys_row_1.l111100 (a0 : List TEntry) (a1 : Int) (a2 : Int) (a3 : Int) (x0 : Int) (x1 : Int) := lim fun v => F.slices_partitionCmpFunc_apiEntry_by_keys_row_1.l111100 (v 0) (v 1) a0 a1 a2 a3 x0 x1
noncomputable def V.slices_partitionCmpFunc_apiEntry_by_keys_row_1.j111100001 (a0 : List TEntry) (a1 : Int) (a2 : Int) (a3 : Int) (x0 : Int) (x1 : Int) (x2 : Bool) := lim fun v => F.slices_partitionCmpFunc_apiEntry_by_keys_row_1.j111100001 (v 0) (v 1) a0 a1 a2 a3 x0 x1 x2
noncomputable def V.slices_partitionCmpFunc_apiEntry_by_keys_row_1.j11111 (a0 : List TEntry) (a1 : Int) (a2 : Int) (a3 : Int) (x0 : Int) (x1 : Int) := lim fun v => F.slices_partitionCmpFunc_apiEntry_by_keys_row_1.j11111 (v 0) a0 a1 a2 a3 x0 x1
noncomputable def V.slices_partitionCmpFunc_apiEntry_by_keys_row_1.j111110101 (a0 : List TEntry) (a1 : Int) (a2 : Int) (a3 : Int) (x0 : Int) (x1 : List TEntry) := lim fun v => F.slices_partitionCmpFunc_apiEntry_by_keys_row_1.j111110101 (v 0) a0 a1 a2 a3 x0 x1
noncomputable def V.slices_partitionCmpFunc_apiEntry_by_keys_row_1.j111111 (a0 : List TEntry) (a1 : Int) (a2 : Int) (a3 : Int) (x0 : Int) (x1 : Int) := lim fun v => F.slices_partitionCmpFunc_apiEntry_by_keys_row_1.j111111 (v 0) a0 a1 a2 a3 x0 x1
noncomputable def V.slices_partitionCmpFunc_apiEntry_by_keys_row_1.j1111111 (a0 : List TEntry) (a1 : Int) (a2 : Int) (a3 : Int) (x0 : Int) (x1 : Int) (x2 : List TEntry) := lim fun v => F.slices_partitionCmpFunc_apiEntry_by_keys_row_1.j1111111 (v 0) a0 a1 a2 a3 x0 x1 x2
noncomputable def V.slices_partitionCmpFunc_apiEntry_by_keys_row_1.l11111111100 (a0 : List TEntry) (a1 : Int) (a2 : Int) (a3 : Int) (x0 : Int) (x1 : Int) (x2 : List TEntry) := lim fun v => F.slices_partitionCmpFunc_apiEntry_by_keys_row_1.l11111111100 (v 0) (v 1) a0 a1 a2 a3 x0 x1 x2
noncomputable def V.slices_partitionCmpFunc_apiEntry_by_keys_row_1.l111111111000000 (a0 : List TEntry) (a1 : Int) (a2 : Int) (a3 : Int) (x0 : Int) (x1 : Int) (x2 : List TEntry) := lim fun v => F.slices_partitionCmpFunc_apiEntry_by_keys_row_1.l111111111000000 (v 0) (v 1) (v 2) a0 a1 a2 a3 x0 x1 x2
noncomputable def V.slices_partitionCmpFunc_apiEntry_by_keys_row_1.j111111111000000001 (a0 : List TEntry) (a1 : Int) (a2 : Int) (a3 : Int) (x0 : Int) (x1 : Int) (x2 : Bool) (x3 : List TEntry) := lim fun v => F.slices_partitionCmpFunc_apiEntry_by_keys_row_1.j111111111000000001 (v 0) (v 1) (v 2) a0 a1 a2 a3 x0 x1 x2 x3
noncomputable def V.slices_partitionCmpFunc_apiEntry_by_keys_row_1.j11111111100001 (a0 : List TEntry) (a1 : Int) (a2 : Int) (a3 : Int) (x0 : Int) (x1 : Int) (x2 : List TEntry) := lim fun v => F.slices_partitionCmpFunc_apiEntry_by_keys_row_1.j11111111100001 (v 0) (v 1) a0 a1 a2 a3 x0 x1 x2
noncomputable def V.slices_partitionCmpFunc_apiEntry_by_keys_row_1.l1111111110000100 (a0 : List TEntry) (a1 : Int) (a2 : Int) (a3 : Int) (x0 : Int) (x1 : Int) (x2 : List TEntry) := lim fun v => F.slices_partitionCmpFunc_apiEntry_by_keys_row_1.l1111111110000100 (v 0) (v 1) (v 2) a0 a1 a2 a3 x0 x1 x2
noncomputable def V.slices_partitionCmpFunc_apiEntry_by_keys_row_1.j1111111110000100001 (a0 : List TEntry) (a1 : Int) (a2 : Int) (a3 : Int) (x0 : Int) (x1 : Int) (x2 : Bool) (x3 : List TEntry) := lim fun v => F.slices_partitionCmpFunc_apiEntry_by_keys_row_1.j1111111110000100001 (v 0) (v 1) (v 2) a0 a1 a2 a3 x0 x1 x2 x3
noncomputable def V.slices_partitionCmpFunc_apiEntry_by_keys_row_1.j111111111000011 (a0 : List TEntry) (a1 : Int) (a2 : Int) (a3 : Int) (x0 : Int) (x1 : Int) (x2 : List TEntry) := lim fun v => F.slices_partitionCmpFunc_apiEntry_by_keys_row_1.j111111111000011 (v 0) (v 1) a0 a1 a2 a3 x0 x1 x2
noncomputable def V.slices_partitionCmpFunc_apiEntry_by_keys_row_1.j1111111110000111 (a0 : List TEntry) (a1 : Int) (a2 : Int) (a3 : Int) (x0 : Int) (x1 : Int) (x2 : List TEntry) := lim fun v => F.slices_partitionCmpFunc_apiEntry_by_keys_row_1.j1111111110000111 (v 0) (v 1) a0 a1 a2 a3 x0 x1 x2
noncomputable def V.slices_partitionCmpFunc_apiEntry_by_keys_row_1.j11111111100001111 (a0 : List TEntry) (a1 : Int) (a2 : Int) (a3 : Int) (x0 : Int) (x1 : Int) (x2 : List TEntry) := lim fun v => F.slices_partitionCmpFunc_apiEntry_by_keys_row_1.j11111111100001111 (v 0) (v 1) a0 a1 a2 a3 x0 x1 x2
noncomputable def V.slices_partitionCmpFunc_apiEntry_by_keys_row_1.j1111111111 (a0 : List TEntry) (a1 : Int) (a2 : Int) (a3 : Int) (x0 : Int) (x1 : List TEntry) := lim fun v => F.slices_partitionCmpFunc_apiEntry_by_keys_row_1.j1111111111 (v 0) a0 a1 a2 a3 x0 x1
noncomputable def V.slices_partitionCmpFunc_apiEntry_by_keys_row_1.j11111111111 (a0 : List TEntry) (a1 : Int) (a2 : Int) (a3 : Int) (x0 : Int) (x1 : List TEntry) := lim fun v => F.slices_partitionCmpFunc_apiEntry_by_keys_row_1.j11111111111 (v 0) a0 a1 a2 a3 x0 x1
noncomputable def V.slices_partitionCmpFunc_apiEntry_by_keys_row_1 (a0 : List TEntry) (a1 : Int) (a2 : Int) (a3 : Int) := lim fun v => F.slices_partitionCmpFunc_apiEntry_by_keys_row_1 (v 0) a0 a1 a2 a3
theorem V.slices_partitionCmpFunc_apiEntry_by_keys_row_1.j11.of a0 a1 a2 a3 {r} (h : F.slices_partitionCmpFunc_apiEntry_by_keys_row_1.j11.B V.slices_partitionCmpFunc_apiEntry_by_keys_row_1.l11100 a0 a1 a2 a3 = some r) : V.slices_partitionCmpFunc_apiEntry_by_keys_row_1.j11 a0 a1 a2 a3 = some r :=
  App.to (App.same (fun v => F.slices_partitionCmpFunc_apiEntry_by_keys_row_1.j11.eq (v 0) a0 a1 a2 a3) (by unfold F.slices_partitionCmpFunc_apiEntry_by_keys_row_1.j11.B; repeat' first | exact App.val | exact App.no | exact App.lim | exact (App.enter 1 App.lim) | apply App.cond | apply App.guard | apply App.meet | apply App.ite | refine App.bind ?_ fun _ => ?_)) h
theorem V.slices_partitionCmpFunc_apiEntry_by_keys_row_1.l11100.of a0 a1 a2 a3 x0 {r} (h : F.slices_partitionCmpFunc_apiEntry_by_keys_row_1.l11100.B V.keys_row_1 V.slices_partitionCmpFunc_apiEntry_by_keys_row_1.j11100001 a0 a1 a2 a3 x0 = some r) : V.slices_partitionCmpFunc_apiEntry_by_keys_row_1.l11100 a0 a1 a2 a3 x0 = some r :=
  App.to (App.step 1 (fun v => F.slices_partitionCmpFunc_apiEntry_by_keys_row_1.l11100.eq (v 0) (v 1) a0 a1 a2 a3 x0) (by unfold F.slices_partitionCmpFunc_apiEntry_by_keys_row_1.l11100.B; repeat' first | exact App.val | exact App.no | exact App.lim | apply App.cond | apply App.guard | apply App.meet | apply App.ite | refine App.bind ?_ fun _ => ?_)) h
theorem V.slices_partitionCmpFunc_apiEntry_by_keys_row_1.j11100001.of a0 a1 a2 a3 x0 x1 {r} (h : F.slices_partitionCmpFunc_apiEntry_by_keys_row_1.j11100001.B V.slices_partitionCmpFunc_apiEntry_by_keys_row_1.l11100 V.slices_partitionCmpFunc_apiEntry_by_keys_row_1.j1111 a0 a1 a2 a3 x0 x1 = some r) : V.slices_partitionCmpFunc_apiEntry_by_keys_row_1.j11100001 a0 a1 a2 a3 x0 x1 = some r :=
  App.to (App.same (fun v => F.slices_partitionCmpFunc_apiEntry_by_keys_row_1.j11100001.eq (v 0) (v 1) a0 a1 a2 a3 x0 x1) (by unfold F.slices_partitionCmpFunc_apiEntry_by_keys_row_1.j11100001.B; repeat' first | exact App.val | exact App.no | exact App.lim | apply App.cond | apply App.guard | apply App.meet | apply App.ite | refine App.bind ?_ fun _ => ?_)) h
theorem V.slices_partitionCmpFunc_apiEntry_by_keys_row_1.j1111.of a0 a1 a2 a3 x0 {r} (h : F.slices_partitionCmpFunc_apiEntry_by_keys_row_1.j1111.B V.slices_partitionCmpFunc_apiEntry_by_keys_row_1.l111100 a0 a1 a2 a3 x0 = some r) : V.slices_partitionCmpFunc_apiEntry_by_keys_row_1.j1111 a0 a1 a2 a3 x0 = some r :=
  App.to (App.same (fun v => F.slices_partitionCmpFunc_apiEntry_by_keys_row_1.j1111.eq (v 0) a0 a1 a2 a3 x0) (by unfold F.slices_partitionCmpFunc_apiEntry_by_keys_row_1.j1111.B; repeat' first | exact App.val | exact App.no | exact App.lim | exact (App.enter 1 App.lim) | apply App.cond | apply App.guard | apply App.meet | apply App.ite | refine App.bind ?_ fun _ => ?_)) h
theorem V.slices_partitionCmpFunc_apiEntry_by_keys_row_1.l111100.of a0 a1 a2 a3 x0 x1 {r} (h : F.slices_partitionCmpFunc_apiEntry_by_keys_row_1.l111100.B V.keys_row_1 V.slices_partitionCmpFunc_apiEntry_by_keys_row_1.j111100001 a0 a1 a2 a3 x0 x1 = some r) : V.slices_partitionCmpFunc_apiEntry_by_keys_row_1.l111100 a0 a1 a2 a3 x0 x1 = some r :=
  App.to (App.step 1 (fun v => F.slices_partitionCmpFunc_apiEntry_by_keys_row_1.l111100.eq (v 0) (v 1) a0 a1 a2 a3 x0 x1) (by unfold F.slices_partitionCmpFunc_apiEntry_by_keys_row_1.l111100.B; repeat' first | exact App.val | exact App.no | exact App.lim | apply App.cond | apply App.guard | apply App.meet | apply App.ite | refine App.bind ?_ fun _ => ?_)) h
theorem V.slices_partitionCmpFunc_apiEntry_by_keys_row_1.j111100001.of a0 a1 a2 a3 x0 x1 x2 {r} (h : F.slices_partitionCmpFunc_apiEntry_by_keys_row_1.j111100001.B V.slices_partitionCmpFunc_apiEntry_by_keys_row_1.l111100 V.slices_partitionCmpFunc_apiEntry_by_keys_row_1.j11111 a0 a1 a2 a3 x0 x1 x2 = some r) : V.slices_partitionCmpFunc_apiEntry_by_keys_row_1.j111100001 a0 a1 a2 a3 x0 x1 x2 = some r :=
  App.to (App.same (fun v => F.slices_partitionCmpFunc_apiEntry_by_keys_row_1.j111100001.eq (v 0) (v 1) a0 a1 a2 a3 x0 x1 x2) (by unfold F.slices_partitionCmpFunc_apiEntry_by_keys_row_1.j111100001.B; repeat' first | exact App.val | exact App.no | exact App.lim | apply App.cond | apply App.guard | apply App.meet | apply App.ite | refine App.bind ?_ fun _ => ?_)) h
theorem V.slices_partitionCmpFunc_apiEntry_by_keys_row_1.j11111.of a0 a1 a2 a3 x0 x1 {r} (h : F.slices_partitionCmpFunc_apiEntry_by_keys_row_1.j11111.B V.slices_partitionCmpFunc_apiEntry_by_keys_row_1.j111110101 V.slices_partitionCmpFunc_apiEntry_by_keys_row_1.j111111 a0 a1 a2 a3 x0 x1 = some r) : V.slices_partitionCmpFunc_apiEntry_by_keys_row_1.j11111 a0 a1 a2 a3 x0 x1 = some r :=
  App.to (App.same (fun v => F.slices_partitionCmpFunc_apiEntry_by_keys_row_1.j11111.eq (v 0) a0 a1 a2 a3 x0 x1) (by unfold F.slices_partitionCmpFunc_apiEntry_by_keys_row_1.j11111.B; repeat' first | exact App.val | exact App.no | exact App.lim | apply App.cond | apply App.guard | apply App.meet | apply App.ite | refine App.bind ?_ fun _ => ?_)) h
theorem V.slices_partitionCmpFunc_apiEntry_by_keys_row_1.j111110101.of a0 a1 a2 a3 x0 x1 {r} (h : F.slices_partitionCmpFunc_apiEntry_by_keys_row_1.j111110101.B a0 a1 a2 a3 x0 x1 = some r) : V.slices_partitionCmpFunc_apiEntry_by_keys_row_1.j111110101 a0 a1 a2 a3 x0 x1 = some r :=
  App.to (App.same (fun v => F.slices_partitionCmpFunc_apiEntry_by_keys_row_1.j111110101.eq (v 0) a0 a1 a2 a3 x0 x1) (by unfold F.slices_partitionCmpFunc_apiEntry_by_keys_row_1.j111110101.B; repeat' first | exact App.val | exact App.no | exact App.lim | apply App.cond | apply App.guard | apply App.meet | apply App.ite | refine App.bind ?_ fun _ => ?_)) h
theorem V.slices_partitionCmpFunc_apiEntry_by_keys_row_1.j111111.of a0 a1 a2 a3 x0 x1 {r} (h : F.slices_partitionCmpFunc_apiEntry_by_keys_row_1.j111111.B V.slices_partitionCmpFunc_apiEntry_by_keys_row_1.j1111111 a0 a1 a2 a3 x0 x1 = some r) : V.slices_partitionCmpFunc_apiEntry_by_keys_row_1.j111111 a0 a1 a2 a3 x0 x1 = some r :=
  App.to (App.same (fun v => F.slices_partitionCmpFunc_apiEntry_by_keys_row_1.j111111.eq (v 0) a0 a1 a2 a3 x0 x1) (by unfold F.slices_partitionCmpFunc_apiEntry_by_keys_row_1.j111111.B; repeat' first | exact App.val | exact App.no | exact App.lim | apply App.cond | apply App.guard | apply App.meet | apply App.ite | refine App.bind ?_ fun _ => ?_)) h
theorem V.slices_partitionCmpFunc_apiEntry_by_keys_row_1.j1111111.of a0 a1 a2 a3 x0 x1 x2 {r} (h : F.slices_partitionCmpFunc_apiEntry_by_keys_row_1.j1111111.B V.slices_partitionCmpFunc_apiEntry_by_keys_row_1.l11111111100 a0 a1 a2 a3 x0 x1 x2 = some r) : V.slices_partitionCmpFunc_apiEntry_by_keys_row_1.j1111111 a0 a1 a2 a3 x0 x1 x2 = some r :=
  App.to (App.same (fun v => F.slices_partitionCmpFunc_apiEntry_by_keys_row_1.j1111111.eq (v 0) a0 a1 a2 a3 x0 x1 x2) (by unfold F.slices_partitionCmpFunc_apiEntry_by_keys_row_1.j1111111.B; repeat' first | exact App.val | exact App.no | exact App.lim | exact (App.enter 1 App.lim) | apply App.cond | apply App.guard | apply App.meet | apply App.ite | refine App.bind ?_ fun _ => ?_)) h
theorem V.slices_partitionCmpFunc_apiEntry_by_keys_row_1.l11111111100.of a0 a1 a2 a3 x0 x1 x2 {r} (h : F.slices_partitionCmpFunc_apiEntry_by_keys_row_1.l11111111100.B V.slices_partitionCmpFunc_apiEntry_by_keys_row_1.l111111111000000 a0 a1 a2 a3 x0 x1 x2 = some r) : V.slices_partitionCmpFunc_apiEntry_by_keys_row_1.l11111111100 a0 a1 a2 a3 x0 x1 x2 = some r :=
  App.to (App.step 1 (fun v => F.slices_partitionCmpFunc_apiEntry_by_keys_row_1.l11111111100.eq (v 0) (v 1) a0 a1 a2 a3 x0 x1 x2) (by unfold F.slices_partitionCmpFunc_apiEntry_by_keys_row_1.l11111111100.B; repeat' first | exact App.val | exact App.no | exact App.lim | exact (App.enter 2 App.lim) | apply App.cond | apply App.guard | apply App.meet | apply App.ite | refine App.bind ?_ fun _ => ?_)) h
theorem V.slices_partitionCmpFunc_apiEntry_by_keys_row_1.l111111111000000.of a0 a1 a2 a3 x0 x1 x2 {r} (h : F.slices_partitionCmpFunc_apiEntry_by_keys_row_1.l111111111000000.B V.keys_row_1 V.slices_partitionCmpFunc_apiEntry_by_keys_row_1.j111111111000000001 a0 a1 a2 a3 x0 x1 x2 = some r) : V.slices_partitionCmpFunc_apiEntry_by_keys_row_1.l111111111000000 a0 a1 a2 a3 x0 x1 x2 = some r :=
  App.to (App.step 2 (fun v => F.slices_partitionCmpFunc_apiEntry_by_keys_row_1.l111111111000000.eq (v 0) (v 1) (v 2) a0 a1 a2 a3 x0 x1 x2) (by unfold F.slices_partitionCmpFunc_apiEntry_by_keys_row_1.l111111111000000.B; repeat' first | exact App.val | exact App.no | exact App.lim | apply App.cond | apply App.guard | apply App.meet | apply App.ite | refine App.bind ?_ fun _ => ?_)) h
theorem V.slices_partitionCmpFunc_apiEntry_by_keys_row_1.j111111111000000001.of a0 a1 a2 a3 x0 x1 x2 x3 {r} (h : F.slices_partitionCmpFunc_apiEntry_by_keys_row_1.j111111111000000001.B V.slices_partitionCmpFunc_apiEntry_by_keys_row_1.l111111111000000 V.slices_partitionCmpFunc_apiEntry_by_keys_row_1.j11111111100001 a0 a1 a2 a3 x0 x1 x2 x3 = some r) : V.slices_partitionCmpFunc_apiEntry_by_keys_row_1.j111111111000000001 a0 a1 a2 a3 x0 x1 x2 x3 = some r :=
  App.to (App.same (fun v => F.slices_partitionCmpFunc_apiEntry_by_keys_row_1.j111111111000000001.eq (v 0) (v 1) (v 2) a0 a1 a2 a3 x0 x1 x2 x3) (by unfold F.slices_partitionCmpFunc_apiEntry_by_keys_row_1.j111111111000000001.B; repeat' first | exact App.val | exact App.no | exact App.lim | apply App.cond | apply App.guard | apply App.meet | apply App.ite | refine App.bind ?_ fun _ => ?_)) h
theorem V.slices_partitionCmpFunc_apiEntry_by_keys_row_1.j11111111100001.of a0 a1 a2 a3 x0 x1 x2 {r} (h : F.slices_partitionCmpFunc_apiEntry_by_keys_row_1.j11111111100001.B V.slices_partitionCmpFunc_apiEntry_by_keys_row_1.l1111111110000100 a0 a1 a2 a3 x0 x1 x2 = some r) : V.slices_partitionCmpFunc_apiEntry_by_keys_row_1.j11111111100001 a0 a1 a2 a3 x0 x1 x2 = some r :=
  App.to (App.same (fun v => F.slices_partitionCmpFunc_apiEntry_by_keys_row_1.j11111111100001.eq (v 0) (v 1) a0 a1 a2 a3 x0 x1 x2) (by unfold F.slices_partitionCmpFunc_apiEntry_by_keys_row_1.j11111111100001.B; repeat' first | exact App.val | exact App.no | exact App.lim | exact (App.enter 2 App.lim) | apply App.cond | apply App.guard | apply App.meet | apply App.ite | refine App.bind ?_ fun _ => ?_)) h
theorem V.slices_partitionCmpFunc_apiEntry_by_keys_row_1.l1111111110000100.of a0 a1 a2 a3 x0 x1 x2 {r} (h : F.slices_partitionCmpFunc_apiEntry_by_keys_row_1.l1111111110000100.B V.keys_row_1 V.slices_partitionCmpFunc_apiEntry_by_keys_row_1.j1111111110000100001 a0 a1 a2 a3 x0 x1 x2 = some r) : V.slices_partitionCmpFunc_apiEntry_by_keys_row_1.l1111111110000100 a0 a1 a2 a3 x0 x1 x2 = some r :=
  App.to (App.step 2 (fun v => F.slices_partitionCmpFunc_apiEntry_by_keys_row_1.l1111111110000100.eq (v 0) (v 1) (v 2) a0 a1 a2 a3 x0 x1 x2) (by unfold F.slices_partitionCmpFunc_apiEntry_by_keys_row_1.l1111111110000100.B; repeat' first | exact App.val | exact App.no | exact App.lim | apply App.cond | apply App.guard | apply App.meet | apply App.ite | refine App.bind ?_ fun _ => ?_)) h
theorem V.slices_partitionCmpFunc_apiEntry_by_keys_row_1.j1111111110000100001.of a0 a1 a2 a3 x0 x1 x2 x3 {r} (h : F.slices_partitionCmpFunc_apiEntry_by_keys_row_1.j1111111110000100001.B V.slices_partitionCmpFunc_apiEntry_by_keys_row_1.l1111111110000100 V.slices_partitionCmpFunc_apiEntry_by_keys_row_1.j111111111000011 a0 a1 a2 a3 x0 x1 x2 x3 = some r) : V.slices_partitionCmpFunc_apiEntry_by_keys_row_1.j1111111110000100001 a0 a1 a2 a3 x0 x1 x2 x3 = some r :=
  App.to (App.same (fun v => F.slices_partitionCmpFunc_apiEntry_by_keys_row_1.j1111111110000100001.eq (v 0) (v 1) (v 2) a0 a1 a2 a3 x0 x1 x2 x3) (by unfold F.slices_partitionCmpFunc_apiEntry_by_keys_row_1.j1111111110000100001.B; repeat' first | exact App.val | exact App.no | exact App.lim | apply App.cond | apply App.guard | apply App.meet | apply App.ite | refine App.bind ?_ fun _ => ?_)) h
theorem V.slices_partitionCmpFunc_apiEntry_by_keys_row_1.j111111111000011.of a0 a1 a2 a3 x0 x1 x2 {r} (h : F.slices_partitionCmpFunc_apiEntry_by_keys_row_1.j111111111000011.B V.slices_partitionCmpFunc_apiEntry_by_keys_row_1.j1111111111 V.slices_partitionCmpFunc_apiEntry_by_keys_row_1.j1111111110000111 a0 a1 a2 a3 x0 x1 x2 = some r) : V.slices_partitionCmpFunc_apiEntry_by_keys_row_1.j111111111000011 a0 a1 a2 a3 x0 x1 x2 = some r :=
  App.to (App.same (fun v => F.slices_partitionCmpFunc_apiEntry_by_keys_row_1.j111111111000011.eq (v 0) (v 1) a0 a1 a2 a3 x0 x1 x2) (by unfold F.slices_partitionCmpFunc_apiEntry_by_keys_row_1.j111111111000011.B; repeat' first | exact App.val | exact App.no | exact App.lim | apply App.cond | apply App.guard | apply App.meet | apply App.ite | refine App.bind ?_ fun _ => ?_)) h
theorem V.slices_partitionCmpFunc_apiEntry_by_keys_row_1.j1111111110000111.of a0 a1 a2 a3 x0 x1 x2 {r} (h : F.slices_partitionCmpFunc_apiEntry_by_keys_row_1.j1111111110000111.B V.slices_partitionCmpFunc_apiEntry_by_keys_row_1.j11111111100001111 a0 a1 a2 a3 x0 x1 x2 = some r) : V.slices_partitionCmpFunc_apiEntry_by_keys_row_1.j1111111110000111 a0 a1 a2 a3 x0 x1 x2 = some r :=
  App.to (App.same (fun v => F.slices_partitionCmpFunc_apiEntry_by_keys_row_1.j1111111110000111.eq (v 0) (v 1) a0 a1 a2 a3 x0 x1 x2) (by unfold F.slices_partitionCmpFunc_apiEntry_by_keys_row_1.j1111111110000111.B; repeat' first | exact App.val | exact App.no | exact App.lim | apply App.cond | apply App.guard | apply App.meet | apply App.ite | refine App.bind ?_ fun _ => ?_)) h
theorem V.slices_partitionCmpFunc_apiEntry_by_keys_row_1.j11111111100001111.of a0 a1 a2 a3 x0 x1 x2 {r} (h : F.slices_partitionCmpFunc_apiEntry_by_keys_row_1.j11111111100001111.B V.slices_partitionCmpFunc_apiEntry_by_keys_row_1.l11111111100 a0 a1 a2 a3 x0 x1 x2 = some r) : V.slices_partitionCmpFunc_apiEntry_by_keys_row_1.j11111111100001111 a0 a1 a2 a3 x0 x1 x2 = some r :=
  App.to (App.same (fun v => F.slices_partitionCmpFunc_apiEntry_by_keys_row_1.j11111111100001111.eq (v 0) (v 1) a0 a1 a2 a3 x0 x1 x2) (by unfold F.slices_partitionCmpFunc_apiEntry_by_keys_row_1.j11111111100001111.B; repeat' first | exact App.val | exact App.no | exact App.lim | apply App.cond | apply App.guard | apply App.meet | apply App.ite | refine App.bind ?_ fun _ => ?_)) h
theorem V.slices_partitionCmpFunc_apiEntry_by_keys_row_1.j1111111111.of a0 a1 a2 a3 x0 x1 {r} (h : F.slices_partitionCmpFunc_apiEntry_by_keys_row_1.j1111111111.B V.slices_partitionCmpFunc_apiEntry_by_keys_row_1.j11111111111 a0 a1 a2 a3 x0 x1 = some r) : V.slices_partitionCmpFunc_apiEntry_by_keys_row_1.j1111111111 a0 a1 a2 a3 x0 x1 = some r :=
  App.to (App.same (fun v => F.slices_partitionCmpFunc_apiEntry_by_keys_row_1.j1111111111.eq (v 0) a0 a1 a2 a3 x0 x1) (by unfold F.slices_partitionCmpFunc_apiEntry_by_keys_row_1.j1111111111.B; repeat' first | exact App.val | exact App.no | exact App.lim | apply App.cond | apply App.guard | apply App.meet | apply App.ite | refine App.bind ?_ fun _ => ?_)) h
theorem V.slices_partitionCmpFunc_apiEntry_by_keys_row_1.j11111111111.of a0 a1 a2 a3 x0 x1 {r} (h : F.slices_partitionCmpFunc_apiEntry_by_keys_row_1.j11111111111.B a0 a1 a2 a3 x0 x1 = some r) : V.slices_partitionCmpFunc_apiEntry_by_keys_row_1.j11111111111 a0 a1 a2 a3 x0 x1 = some r :=
  App.to (App.same (fun v => F.slices_partitionCmpFunc_apiEntry_by_keys_row_1.j11111111111.eq (v 0) a0 a1 a2 a3 x0 x1) (by unfold F.slices_partitionCmpFunc_apiEntry_by_keys_row_1.j11111111111.B; repeat' first | exact App.val | exact App.no | exact App.lim | apply App.cond | apply App.guard | apply App.meet | apply App.ite | refine App.bind ?_ fun _ => ?_)) h
theorem V.slices_partitionCmpFunc_apiEntry_by_keys_row_1.of a0 a1 a2 a3 {r} (h : F.slices_partitionCmpFunc_apiEntry_by_keys_row_1.B V.slices_partitionCmpFunc_apiEntry_by_keys_row_1.j11 a0 a1 a2 a3 = some r) : V.slices_partitionCmpFunc_apiEntry_by_keys_row_1 a0 a1 a2 a3 = some r :=
  App.to (App.step 0 (fun v => F.slices_partitionCmpFunc_apiEntry_by_keys_row_1.eq (v 0) a0 a1 a2 a3) (by unfold F.slices_partitionCmpFunc_apiEntry_by_keys_row_1.B; repeat' first | exact App.val | exact App.no | exact App.lim | apply App.cond | apply App.guard | apply App.meet | apply App.ite | refine App.bind ?_ fun _ => ?_)) h
noncomputable def F.slices_nextPowerOfTwo (K : Nat) (a0 : Int) : Option (Int) := evFn Try.prog sg K 229 [.sc (.val (.int .i64 a0))] []
noncomputable def F.slices_nextPowerOfTwo.B (c0 : (Int) → Option (Int)) (a0 : Int) : Option (Int) :=
    ((c0 (IntKind.wrap .u64 a0)).bind fun t0 => (if t0 < 0 then none else (some (IntKind.wrap .u64 (1 * 2 ^ (min t0.toNat 64))))))
theorem F.slices_nextPowerOfTwo.eq K a0 : F.slices_nextPowerOfTwo (K + 1) a0 = F.slices_nextPowerOfTwo.B (F.math_bits_Len K) a0 := by kernel_rfl
noncomputable def V.slices_nextPowerOfTwo (a0 : Int) := lim fun v => F.slices_nextPowerOfTwo (v 0) a0
theorem V.slices_nextPowerOfTwo.of a0 {r} (h : F.slices_nextPowerOfTwo.B V.math_bits_Len a0 = some r) : V.slices_nextPowerOfTwo a0 = some r :=
  App.to (App.step 0 (fun v => F.slices_nextPowerOfTwo.eq (v 0) a0) (by unfold F.slices_nextPowerOfTwo.B; repeat' first | exact App.val | exact App.no | exact App.lim | apply App.cond | apply App.guard | apply App.meet | apply App.ite | refine App.bind ?_ fun _ => ?_)) h
noncomputable def F.slices_xorshift_Next (K : Nat) (a0 : Int) : Option (Int × Int) := evFn Try.prog sg K 230 [.sc (.ref 0 0)] [.cells 261 [.val (.int .u64 a0)]]
noncomputable def F.slices_xorshift_Next.at (K : Nat) (p ns : List Nat) (s : St) : Option (Int × Int) := atFn Try.prog sg K 230 1 p ns s
noncomputable def F.slices_xorshift_Next.in (K : Nat) (H : List Nat → List Nat → St → Option (Int × Int)) (p ns : List Nat) (s : St) : Option (Int × Int) := inFn Try.prog sg K 230 1 [[1, 1], [1, 1, 1], [1, 1, 1, 1]] H p ns s
theorem F.slices_xorshift_Next.in_eq K p ns s : F.slices_xorshift_Next.at K p ns s = F.slices_xorshift_Next.in K (F.slices_xorshift_Next.at K) p ns s := atFn_eq (P := Try.prog) (sg := sg) (K := K) (f := 230) (m := 1) [[1, 1], [1, 1, 1], [1, 1, 1, 1]] p ns s
theorem F.slices_xorshift_Next.in_main K a0 : F.slices_xorshift_Next (K + 1) a0 = F.slices_xorshift_Next.in K (F.slices_xorshift_Next.at K) [] [] ⟨slots [.sc (.ref 0 0)] 0, [.cells 261 [.val (.int .u64 a0)]]⟩ := evFn_eq (P := Try.prog) (sg := sg) (K := K) (f := 230) (args := [.sc (.ref 0 0)]) (σ := [.cells 261 [.val (.int .u64 a0)]]) [[1, 1], [1, 1, 1], [1, 1, 1, 1]] (by kernel_rfl)
def F.slices_xorshift_Next.j11.st (a0 : Int) : St := ⟨[(0, .one (.sc (.ref 0 0)))], [.cells 261 [.val (.int .u64 (IntKind.wrap .u64 ((BitVec.ofInt 64 a0 ^^^ BitVec.ofInt 64 (IntKind.wrap .u64 (a0 * 2 ^ 13))).toNat : Int)))]]⟩
noncomputable def F.slices_xorshift_Next.j11 (K : Nat) (a0 : Int) := F.slices_xorshift_Next.at K [1, 1] [] (F.slices_xorshift_Next.j11.st a0)
def F.slices_xorshift_Next.j111.st (a0 : Int) : St := ⟨[(0, .one (.sc (.ref 0 0)))], [.cells 261 [.val (.int .u64 (IntKind.wrap .u64 ((BitVec.ofInt 64 (IntKind.wrap .u64 ((BitVec.ofInt 64 a0 ^^^ BitVec.ofInt 64 (IntKind.wrap .u64 (a0 * 2 ^ 13))).toNat : Int)) ^^^ BitVec.ofInt 64 (Int.fdiv (IntKind.wrap .u64 ((BitVec.ofInt 64 a0 ^^^ BitVec.ofInt 64 (IntKind.wrap .u64 (a0 * 2 ^ 13))).toNat : Int)) (2 ^ 7))).toNat : Int)))]]⟩
noncomputable def F.slices_xorshift_Next.j111 (K : Nat) (a0 : Int) := F.slices_xorshift_Next.at K [1, 1, 1] [] (F.slices_xorshift_Next.j111.st a0)
def F.slices_xorshift_Next.j1111.st (a0 : Int) : St := ⟨[(0, .one (.sc (.ref 0 0)))], [.cells 261 [.val (.int .u64 (IntKind.wrap .u64 ((BitVec.ofInt 64 (IntKind.wrap .u64 ((BitVec.ofInt 64 (IntKind.wrap .u64 ((BitVec.ofInt 64 a0 ^^^ BitVec.ofInt 64 (IntKind.wrap .u64 (a0 * 2 ^ 13))).toNat : Int)) ^^^ BitVec.ofInt 64 (Int.fdiv (IntKind.wrap .u64 ((BitVec.ofInt 64 a0 ^^^ BitVec.ofInt 64 (IntKind.wrap .u64 (a0 * 2 ^ 13))).toNat : Int)) (2 ^ 7))).toNat : Int)) ^^^ BitVec.ofInt 64 (IntKind.wrap .u64 ((IntKind.wrap .u64 ((BitVec.ofInt 64 (IntKind.wrap .u64 ((BitVec.ofInt 64 a0 ^^^ BitVec.ofInt 64 (IntKind.wrap .u64 (a0 * 2 ^ 13))).toNat : Int)) ^^^ BitVec.ofInt 64 (Int.fdiv (IntKind.wrap .u64 ((BitVec.ofInt 64 a0 ^^^ BitVec.ofInt 64 (IntKind.wrap .u64 (a0 * 2 ^ 13))).toNat : Int)) (2 ^ 7))).toNat : Int)) * 2 ^ 17))).toNat : Int)))]]⟩
noncomputable def F.slices_xorshift_Next.j1111 (K : Nat) (a0 : Int) := F.slices_xorshift_Next.at K [1, 1, 1, 1] [] (F.slices_xorshift_Next.j1111.st a0)
noncomputable def F.slices_xorshift_Next.j11.B (c0 : (Int) → Option (Int × Int)) (a0 : Int) : Option (Int × Int) :=
    (meet (c0 a0) (c0 a0))
theorem F.slices_xorshift_Next.j11.eq K a0 : F.slices_xorshift_Next.j11 K a0 = F.slices_xorshift_Next.j11.B (F.slices_xorshift_Next.j111 K) a0 := (F.slices_xorshift_Next.in_eq K [1, 1] [] (F.slices_xorshift_Next.j11.st a0)).trans ((show ∀ H, F.slices_xorshift_Next.in K H [1, 1] [] (F.slices_xorshift_Next.j11.st a0) = F.slices_xorshift_Next.j11.B (fun a0 => H [1, 1, 1] [] (F.slices_xorshift_Next.j111.st a0)) a0 from by intro H; kernel_rfl) (F.slices_xorshift_Next.at K))
noncomputable def F.slices_xorshift_Next.j111.B (c0 : (Int) → Option (Int × Int)) (a0 : Int) : Option (Int × Int) :=
    (meet (c0 a0) (c0 a0))
theorem F.slices_xorshift_Next.j111.eq K a0 : F.slices_xorshift_Next.j111 K a0 = F.slices_xorshift_Next.j111.B (F.slices_xorshift_Next.j1111 K) a0 := (F.slices_xorshift_Next.in_eq K [1, 1, 1] [] (F.slices_xorshift_Next.j111.st a0)).trans ((show ∀ H, F.slices_xorshift_Next.in K H [1, 1, 1] [] (F.slices_xorshift_Next.j111.st a0) = F.slices_xorshift_Next.j111.B (fun a0 => H [1, 1, 1, 1] [] (F.slices_xorshift_Next.j1111.st a0)) a0 from by intro H; kernel_rfl) (F.slices_xorshift_Next.at K))
noncomputable def F.slices_xorshift_Next.j1111.B (a0 : Int) : Option (Int × Int) :=
    (some ((IntKind.wrap .u64 ((BitVec.ofInt 64 (IntKind.wrap .u64 ((BitVec.ofInt 64 (IntKind.wrap .u64 ((BitVec.ofInt 64 a0 ^^^ BitVec.ofInt 64 (IntKind.wrap .u64 (a0 * 2 ^ 13))).toNat : Int)) ^^^ BitVec.ofInt 64 (Int.fdiv (IntKind.wrap .u64 ((BitVec.ofInt 64 a0 ^^^ BitVec.ofInt 64 (IntKind.wrap .u64 (a0 * 2 ^ 13))).toNat : Int)) (2 ^ 7))).toNat : Int)) ^^^ BitVec.ofInt 64 (IntKind.wrap .u64 ((IntKind.wrap .u64 ((BitVec.ofInt 64 (IntKind.wrap .u64 ((BitVec.ofInt 64 a0 ^^^ BitVec.ofInt 64 (IntKind.wrap .u64 (a0 * 2 ^ 13))).toNat : Int)) ^^^ BitVec.ofInt 64 (Int.fdiv (IntKind.wrap .u64 ((BitVec.ofInt 64 a0 ^^^ BitVec.ofInt 64 (IntKind.wrap .u64 (a0 * 2 ^ 13))).toNat : Int)) (2 ^ 7))).toNat : Int)) * 2 ^ 17))).toNat : Int)), (IntKind.wrap .u64 ((BitVec.ofInt 64 (IntKind.wrap .u64 ((BitVec.ofInt 64 (IntKind.wrap .u64 ((BitVec.ofInt 64 a0 ^^^ BitVec.ofInt 64 (IntKind.wrap .u64 (a0 * 2 ^ 13))).toNat : Int)) ^^^ BitVec.ofInt 64 (Int.fdiv (IntKind.wrap .u64 ((BitVec.ofInt 64 a0 ^^^ BitVec.ofInt 64 (IntKind.wrap .u64 (a0 * 2 ^ 13))).toNat : Int)) (2 ^ 7))).toNat : Int)) ^^^ BitVec.ofInt 64 (IntKind.wrap .u64 ((IntKind.wrap .u64 ((BitVec.ofInt 64 (IntKind.wrap .u64 ((BitVec.ofInt 64 a0 ^^^ BitVec.ofInt 64 (IntKind.wrap .u64 (a0 * 2 ^ 13))).toNat : Int)) ^^^ BitVec.ofInt 64 (Int.fdiv (IntKind.wrap .u64 ((BitVec.ofInt 64 a0 ^^^ BitVec.ofInt 64 (IntKind.wrap .u64 (a0 * 2 ^ 13))).toNat : Int)) (2 ^ 7))).toNat : Int)) * 2 ^ 17))).toNat : Int))))
theorem F.slices_xorshift_Next.j1111.eq K a0 : F.slices_xorshift_Next.j1111 K a0 = F.slices_xorshift_Next.j1111.B a0 := (F.slices_xorshift_Next.in_eq K [1, 1, 1, 1] [] (F.slices_xorshift_Next.j1111.st a0)).trans ((show ∀ H, F.slices_xorshift_Next.in K H [1, 1, 1, 1] [] (F.slices_xorshift_Next.j1111.st a0) = F.slices_xorshift_Next.j1111.B a0 from by intro H; kernel_rfl) (F.slices_xorshift_Next.at K))
noncomputable def F.slices_xorshift_Next.B (c0 : (Int) → Option (Int × Int)) (a0 : Int) : Option (Int × Int) :=
    (meet (c0 a0) (c0 a0))
theorem F.slices_xorshift_Next.eq K a0 : F.slices_xorshift_Next (K + 1) a0 = F.slices_xorshift_Next.B (F.slices_xorshift_Next.j11 K) a0 := (F.slices_xorshift_Next.in_main K a0).trans ((show ∀ H, F.slices_xorshift_Next.in K H [] [] ⟨slots [.sc (.ref 0 0)] 0, [.cells 261 [.val (.int .u64 a0)]]⟩ = F.slices_xorshift_Next.B (fun a0 => H [1, 1] [] (F.slices_xorshift_Next.j11.st a0)) a0 from by intro H; kernel_rfl) (F.slices_xorshift_Next.at K))
noncomputable def V.slices_xorshift_Next.j11 (a0 : Int) := lim fun v => F.slices_xorshift_Next.j11 (v 0) a0
noncomputable def V.slices_xorshift_Next.j111 (a0 : Int) := lim fun v => F.slices_xorshift_Next.j111 (v 0) a0
noncomputable def V.slices_xorshift_Next.j1111 (a0 : Int) := lim fun v => F.slices_xorshift_Next.j1111 (v 0) a0
noncomputable def V.slices_xorshift_Next (a0 : Int) := lim fun v => F.slices_xorshift_Next (v 0) a0
theorem V.slices_xorshift_Next.j11.of a0 {r} (h : F.slices_xorshift_Next.j11.B V.slices_xorshift_Next.j111 a0 = some r) : V.slices_xorshift_Next.j11 a0 = some r :=
  App.to (App.same (fun v => F.slices_xorshift_Next.j11.eq (v 0) a0) (by unfold F.slices_xorshift_Next.j11.B; repeat' first | exact App.val | exact App.no | exact App.lim | apply App.cond | apply App.guard | apply App.meet | apply App.ite | refine App.bind ?_ fun _ => ?_)) h
theorem V.slices_xorshift_Next.j111.of a0 {r} (h : F.slices_xorshift_Next.j111.B V.slices_xorshift_Next.j1111 a0 = some r) : V.slices_xorshift_Next.j111 a0 = some r :=
  App.to (App.same (fun v => F.slices_xorshift_Next.j111.eq (v 0) a0) (by unfold F.slices_xorshift_Next.j111.B; repeat' first | exact App.val | exact App.no | exact App.lim | apply App.cond | apply App.guard | apply App.meet | apply App.ite | refine App.bind ?_ fun _ => ?_)) h
theorem V.slices_xorshift_Next.j1111.of a0 {r} (h : F.slices_xorshift_Next.j1111.B a0 = some r) : V.slices_xorshift_Next.j1111 a0 = some r :=
  App.to (App.same (fun v => F.slices_xorshift_Next.j1111.eq (v 0) a0) (by unfold F.slices_xorshift_Next.j1111.B; repeat' first | exact App.val | exact App.no | exact App.lim | apply App.cond | apply App.guard | apply App.meet | apply App.ite | refine App.bind ?_ fun _ => ?_)) h
theorem V.slices_xorshift_Next.of a0 {r} (h : F.slices_xorshift_Next.B V.slices_xorshift_Next.j11 a0 = some r) : V.slices_xorshift_Next a0 = some r :=
  App.to (App.step 0 (fun v => F.slices_xorshift_Next.eq (v 0) a0) (by unfold F.slices_xorshift_Next.B; repeat' first | exact App.val | exact App.no | exact App.lim | apply App.cond | apply App.guard | apply App.meet | apply App.ite | refine App.bind ?_ fun _ => ?_)) h
noncomputable def F.slices_breakPatternsCmpFunc_apiEntry_by_keys_row_1 (K : Nat) (a0 : List TEntry) (a1 : Int) (a2 : Int) : Option ((List TEntry)) := evFn Try.prog sg K 205 [.sc (.own 0 none), .sc (.val (.int .i64 a1)), .sc (.val (.int .i64 a2)), .sc (.fn 142 [])] [.elems sEntry a0]
noncomputable def F.slices_breakPatternsCmpFunc_apiEntry_by_keys_row_1.at (K : Nat) (p ns : List Nat) (s : St) : Option ((List TEntry)) := atFn Try.prog sg K 205 1 p ns s
noncomputable def F.slices_breakPatternsCmpFunc_apiEntry_by_keys_row_1.in (K : Nat) (H : List Nat → List Nat → St → Option ((List TEntry))) (p ns : List Nat) (s : St) : Option ((List TEntry)) := inFn Try.prog sg K 205 1 [[1, 1, 0, 1, 1, 1, 0, 0, 1, 0, 0, 1, 1], [1, 1, 0, 1, 1, 1, 0, 0, 1, 1]] H p ns s
theorem F.slices_breakPatternsCmpFunc_apiEntry_by_keys_row_1.in_eq K p ns s : F.slices_breakPatternsCmpFunc_apiEntry_by_keys_row_1.at K p ns s = F.slices_breakPatternsCmpFunc_apiEntry_by_keys_row_1.in K (F.slices_breakPatternsCmpFunc_apiEntry_by_keys_row_1.at K) p ns s := atFn_eq (P := Try.prog) (sg := sg) (K := K) (f := 205) (m := 1) [[1, 1, 0, 1, 1, 1, 0, 0, 1, 0, 0, 1, 1], [1, 1, 0, 1, 1, 1, 0, 0, 1, 1]] p ns s
theorem F.slices_breakPatternsCmpFunc_apiEntry_by_keys_row_1.in_main K a0 a1 a2 : F.slices_breakPatternsCmpFunc_apiEntry_by_keys_row_1 (K + 1) a0 a1 a2 = F.slices_breakPatternsCmpFunc_apiEntry_by_keys_row_1.in K (F.slices_breakPatternsCmpFunc_apiEntry_by_keys_row_1.at K) [] [] ⟨slots [.sc (.own 0 none), .sc (.val (.int .i64 a1)), .sc (.val (.int .i64 a2)), .sc (.fn 142 [])] 0, [.elems sEntry a0]⟩ := evFn_eq (P := Try.prog) (sg := sg) (K := K) (f := 205) (args := [.sc (.own 0 none), .sc (.val (.int .i64 a1)), .sc (.val (.int .i64 a2)), .sc (.fn 142 [])]) (σ := [.elems sEntry a0]) [[1, 1, 0, 1, 1, 1, 0, 0, 1, 0, 0, 1, 1], [1, 1, 0, 1, 1, 1, 0, 0, 1, 1]] (by kernel_rfl)
def F.slices_breakPatternsCmpFunc_apiEntry_by_keys_row_1.l1101110.st (a0 : List TEntry) (a1 : Int) (a2 : Int) (x0 : Int) (x1 : Int) (x2 : List TEntry) (x3 : Int) : St := ⟨[(0, .one (.sc (.own 0 none))), (1, vI a1), (8, vI (w64 (a2 - a1))), (9, .one (.sc (.ref 1 0))), (10, .one (.sc (.val (.int .u64 x0)))), (11, vI x1)], [.elems sEntry x2, .cells 261 [.val (.int .u64 x3)]]⟩
noncomputable def F.slices_breakPatternsCmpFunc_apiEntry_by_keys_row_1.l1101110 (K n0 : Nat) (a0 : List TEntry) (a1 : Int) (a2 : Int) (x0 : Int) (x1 : Int) (x2 : List TEntry) (x3 : Int) := F.slices_breakPatternsCmpFunc_apiEntry_by_keys_row_1.at K [1, 1, 0, 1, 1, 1, 0] [n0] (F.slices_breakPatternsCmpFunc_apiEntry_by_keys_row_1.l1101110.st a0 a1 a2 x0 x1 x2 x3)
def F.slices_breakPatternsCmpFunc_apiEntry_by_keys_row_1.j1101110010011.st (a0 : List TEntry) (a1 : Int) (a2 : Int) (x0 : Int) (x1 : Int) (x2 : Int) (x3 : List TEntry) (x4 : Int) : St := ⟨[(0, .one (.sc (.own 0 none))), (1, vI a1), (8, vI (w64 (a2 - a1))), (9, .one (.sc (.ref 1 0))), (10, .one (.sc (.val (.int .u64 x0)))), (11, vI x1), (12, vI x2)], [.elems sEntry x3, .cells 261 [.val (.int .u64 x4)]]⟩
noncomputable def F.slices_breakPatternsCmpFunc_apiEntry_by_keys_row_1.j1101110010011 (K n0 : Nat) (a0 : List TEntry) (a1 : Int) (a2 : Int) (x0 : Int) (x1 : Int) (x2 : Int) (x3 : List TEntry) (x4 : Int) := F.slices_breakPatternsCmpFunc_apiEntry_by_keys_row_1.at K [1, 1, 0, 1, 1, 1, 0, 0, 1, 0, 0, 1, 1] [n0] (F.slices_breakPatternsCmpFunc_apiEntry_by_keys_row_1.j1101110010011.st a0 a1 a2 x0 x1 x2 x3 x4)
def F.slices_breakPatternsCmpFunc_apiEntry_by_keys_row_1.j1101110011.st (a0 : List TEntry) (a1 : Int) (a2 : Int) (x0 : Int) (x1 : Int) (x2 : List TEntry) (x3 : Int) : St := ⟨[(0, .one (.sc (.own 0 none))), (1, vI a1), (8, vI (w64 (a2 - a1))), (9, .one (.sc (.ref 1 0))), (10, .one (.sc (.val (.int .u64 x0)))), (11, vI x1)], [.elems sEntry x2, .cells 261 [.val (.int .u64 x3)]]⟩
noncomputable def F.slices_breakPatternsCmpFunc_apiEntry_by_keys_row_1.j1101110011 (K n0 : Nat) (a0 : List TEntry) (a1 : Int) (a2 : Int) (x0 : Int) (x1 : Int) (x2 : List TEntry) (x3 : Int) := F.slices_breakPatternsCmpFunc_apiEntry_by_keys_row_1.at K [1, 1, 0, 1, 1, 1, 0, 0, 1, 1] [n0] (F.slices_breakPatternsCmpFunc_apiEntry_by_keys_row_1.j1101110011.st a0 a1 a2 x0 x1 x2 x3)
noncomputable def F.slices_breakPatternsCmpFunc_apiEntry_by_keys_row_1.l1101110.B (c0 : (Int) → Option (Int × Int)) (c1 : (List TEntry) → (Int) → (Int) → (Int) → (Int) → (Int) → (List TEntry) → (Int) → Option ((List TEntry))) (a0 : List TEntry) (a1 : Int) (a2 : Int) (x0 : Int) (x1 : Int) (x2 : List TEntry) (x3 : Int) : Option ((List TEntry)) :=
    (bif (decide (x1 ≤ (w64 ((w64 (a1 + (w64 ((w64 (Int.tdiv (w64 (a2 - a1)) 4)) * 2)))) + 1)))) then ((c0 x3).bind fun t1 => (bif (decide ((w64 (IntKind.wrap .u64 ((BitVec.ofInt 64 t1.1 &&& BitVec.ofInt 64 (IntKind.wrap .u64 (x0 - 1))).toNat : Int))) ≥ (w64 (a2 - a1)))) then (c1 a0 a1 a2 x0 x1 (w64 ((w64 (IntKind.wrap .u64 ((BitVec.ofInt 64 t1.1 &&& BitVec.ofInt 64 (IntKind.wrap .u64 (x0 - 1))).toNat : Int))) - (w64 (a2 - a1)))) x2 t1.2) else (c1 a0 a1 a2 x0 x1 (w64 (IntKind.wrap .u64 ((BitVec.ofInt 64 t1.1 &&& BitVec.ofInt 64 (IntKind.wrap .u64 (x0 - 1))).toNat : Int))) x2 t1.2))) else (some x2))
theorem F.slices_breakPatternsCmpFunc_apiEntry_by_keys_row_1.l1101110.eq K n0 a0 a1 a2 x0 x1 x2 x3 : F.slices_breakPatternsCmpFunc_apiEntry_by_keys_row_1.l1101110 K (n0 + 1) a0 a1 a2 x0 x1 x2 x3 = F.slices_breakPatternsCmpFunc_apiEntry_by_keys_row_1.l1101110.B (F.slices_xorshift_Next K) (F.slices_breakPatternsCmpFunc_apiEntry_by_keys_row_1.j1101110010011 K n0) a0 a1 a2 x0 x1 x2 x3 := (F.slices_breakPatternsCmpFunc_apiEntry_by_keys_row_1.in_eq K [1, 1, 0, 1, 1, 1, 0] [n0 + 1] (F.slices_breakPatternsCmpFunc_apiEntry_by_keys_row_1.l1101110.st a0 a1 a2 x0 x1 x2 x3)).trans ((show ∀ H, F.slices_breakPatternsCmpFunc_apiEntry_by_keys_row_1.in K H [1, 1, 0, 1, 1, 1, 0] [n0 + 1] (F.slices_breakPatternsCmpFunc_apiEntry_by_keys_row_1.l1101110.st a0 a1 a2 x0 x1 x2 x3) = F.slices_breakPatternsCmpFunc_apiEntry_by_keys_row_1.l1101110.B (F.slices_xorshift_Next K) (fun a0 a1 a2 x0 x1 x2 x3 x4 => H [1, 1, 0, 1, 1, 1, 0, 0, 1, 0, 0, 1, 1] [n0] (F.slices_breakPatternsCmpFunc_apiEntry_by_keys_row_1.j1101110010011.st a0 a1 a2 x0 x1 x2 x3 x4)) a0 a1 a2 x0 x1 x2 x3 from by intro H; kernel_rfl) (F.slices_breakPatternsCmpFunc_apiEntry_by_keys_row_1.at K))
noncomputable def F.slices_breakPatternsCmpFunc_apiEntry_by_keys_row_1.j1101110010011.B (c0 : (List TEntry) → (Int) → (Int) → (Int) → (Int) → (List TEntry) → (Int) → Option ((List TEntry))) (a0 : List TEntry) (a1 : Int) (a2 : Int) (x0 : Int) (x1 : Int) (x2 : Int) (x3 : List TEntry) (x4 : Int) : Option ((List TEntry)) :=
    (guardK (decide (0 ≤ (w64 (a1 + x2))) && decide ((w64 (a1 + x2)) < (x3.length : Int))) (guardK (decide (0 ≤ x1) && decide (x1 < (x3.length : Int))) (meet (guardK (decide (0 ≤ x1) && decide (x1 < (x3.length : Int))) (guardK (decide (0 ≤ (w64 (a1 + x2))) && decide ((w64 (a1 + x2)) < ((x3.set x1.toNat ((rd sEntry x3 ((w64 (a1 + x2)).toNat)).1, (rd sEntry x3 ((w64 (a1 + x2)).toNat)).2)).length : Int))) (c0 a0 a1 a2 x0 x1 ((x3.set x1.toNat ((rd sEntry x3 ((w64 (a1 + x2)).toNat)).1, (rd sEntry x3 ((w64 (a1 + x2)).toNat)).2)).set ((w64 (a1 + x2)).toNat) ((rd sEntry x3 x1.toNat).1, (rd sEntry x3 x1.toNat).2)) x4))) (guardK (decide (0 ≤ x1) && decide (x1 < (x3.length : Int))) (guardK (decide (0 ≤ (w64 (a1 + x2))) && decide ((w64 (a1 + x2)) < ((x3.set x1.toNat ((rd sEntry x3 ((w64 (a1 + x2)).toNat)).1, (rd sEntry x3 ((w64 (a1 + x2)).toNat)).2)).length : Int))) (c0 a0 a1 a2 x0 x1 ((x3.set x1.toNat ((rd sEntry x3 ((w64 (a1 + x2)).toNat)).1, (rd sEntry x3 ((w64 (a1 + x2)).toNat)).2)).set ((w64 (a1 + x2)).toNat) ((rd sEntry x3 x1.toNat).1, (rd sEntry x3 x1.toNat).2)) x4))))))
theorem F.slices_breakPatternsCmpFunc_apiEntry_by_keys_row_1.j1101110010011.eq K n0 a0 a1 a2 x0 x1 x2 x3 x4 : F.slices_breakPatternsCmpFunc_apiEntry_by_keys_row_1.j1101110010011 K n0 a0 a1 a2 x0 x1 x2 x3 x4 = F.slices_breakPatternsCmpFunc_apiEntry_by_keys_row_1.j1101110010011.B (F.slices_breakPatternsCmpFunc_apiEntry_by_keys_row_1.j1101110011 K n0) a0 a1 a2 x0 x1 x2 x3 x4 := (F.slices_breakPatternsCmpFunc_apiEntry_by_keys_row_1.in_eq K [1, 1, 0, 1, 1, 1, 0, 0, 1, 0, 0, 1, 1] [n0] (F.slices_breakPatternsCmpFunc_apiEntry_by_keys_row_1.j1101110010011.st a0 a1 a2 x0 x1 x2 x3 x4)).trans ((show ∀ H, F.slices_breakPatternsCmpFunc_apiEntry_by_keys_row_1.in K H [1, 1, 0, 1, 1, 1, 0, 0, 1, 0, 0, 1, 1] [n0] (F.slices_breakPatternsCmpFunc_apiEntry_by_keys_row_1.j1101110010011.st a0 a1 a2 x0 x1 x2 x3 x4) = F.slices_breakPatternsCmpFunc_apiEntry_by_keys_row_1.j1101110010011.B (fun a0 a1 a2 x0 x1 x2 x3 => H [1, 1, 0, 1, 1, 1, 0, 0, 1, 1] [n0] (F.slices_breakPatternsCmpFunc_apiEntry_by_keys_row_1.j1101110011.st a0 a1 a2 x0 x1 x2 x3)) a0 a1 a2 x0 x1 x2 x3 x4 from by intro H; kernel_rfl) (F.slices_breakPatternsCmpFunc_apiEntry_by_keys_row_1.at K))
noncomputable def F.slices_breakPatternsCmpFunc_apiEntry_by_keys_row_1.j1101110011.B (c0 : (List TEntry) → (Int) → (Int) → (Int) → (Int) → (List TEntry) → (Int) → Option ((List TEntry))) (a0 : List TEntry) (a1 : Int) (a2 : Int) (x0 : Int) (x1 : Int) (x2 : List TEntry) (x3 : Int) : Option ((List TEntry)) :=
    (c0 a0 a1 a2 x0 (w64 (x1 + 1)) x2 x3)
theorem F.slices_breakPatternsCmpFunc_apiEntry_by_keys_row_1.j1101110011.eq K n0 a0 a1 a2 x0 x1 x2 x3 : F.slices_breakPatternsCmpFunc_apiEntry_by_keys_row_1.j1101110011 K n0 a0 a1 a2 x0 x1 x2 x3 = F.slices_breakPatternsCmpFunc_apiEntry_by_keys_row_1.j1101110011.B (F.slices_breakPatternsCmpFunc_apiEntry_by_keys_row_1.l1101110 K n0) a0 a1 a2 x0 x1 x2 x3 := (F.slices_breakPatternsCmpFunc_apiEntry_by_keys_row_1.in_eq K [1, 1, 0, 1, 1, 1, 0, 0, 1, 1] [n0] (F.slices_breakPatternsCmpFunc_apiEntry_by_keys_row_1.j1101110011.st a0 a1 a2 x0 x1 x2 x3)).trans ((show ∀ H, F.slices_breakPatternsCmpFunc_apiEntry_by_keys_row_1.in K H [1, 1, 0, 1, 1, 1, 0, 0, 1, 1] [n0] (F.slices_breakPatternsCmpFunc_apiEntry_by_keys_row_1.j1101110011.st a0 a1 a2 x0 x1 x2 x3) = F.slices_breakPatternsCmpFunc_apiEntry_by_keys_row_1.j1101110011.B (fun a0 a1 a2 x0 x1 x2 x3 => H [1, 1, 0, 1, 1, 1, 0] [n0] (F.slices_breakPatternsCmpFunc_apiEntry_by_keys_row_1.l1101110.st a0 a1 a2 x0 x1 x2 x3)) a0 a1 a2 x0 x1 x2 x3 from by intro H; kernel_rfl) (F.slices_breakPatternsCmpFunc_apiEntry_by_keys_row_1.at K))
noncomputable def F.slices_breakPatternsCmpFunc_apiEntry_by_keys_row_1.B (c0 : (Int) → Option (Int)) (c1 : (List TEntry) → (Int) → (Int) → (Int) → (Int) → (List TEntry) → (Int) → Option ((List TEntry))) (a0 : List TEntry) (a1 : Int) (a2 : Int) : Option ((List TEntry)) :=
    (bif (decide ((w64 (a2 - a1)) ≥ 8)) then ((c0 (w64 (a2 - a1))).bind fun t0 => (c1 a0 a1 a2 t0 (w64 ((w64 (a1 + (w64 ((w64 (Int.tdiv (w64 (a2 - a1)) 4)) * 2)))) - 1)) a0 (IntKind.wrap .u64 (w64 (a2 - a1))))) else (some a0))
theorem F.slices_breakPatternsCmpFunc_apiEntry_by_keys_row_1.eq K a0 a1 a2 : F.slices_breakPatternsCmpFunc_apiEntry_by_keys_row_1 (K + 1) a0 a1 a2 = F.slices_breakPatternsCmpFunc_apiEntry_by_keys_row_1.B (F.slices_nextPowerOfTwo K) (F.slices_breakPatternsCmpFunc_apiEntry_by_keys_row_1.l1101110 K K) a0 a1 a2 := (F.slices_breakPatternsCmpFunc_apiEntry_by_keys_row_1.in_main K a0 a1 a2).trans ((show ∀ H, F.slices_breakPatternsCmpFunc_apiEntry_by_keys_row_1.in K H [] [] ⟨slots [.sc (.own 0 none), .sc (.val (.int .i64 a1)), .sc (.val (.int .i64 a2)), .sc (.fn 142 [])] 0, [.elems sEntry a0]⟩ = F.slices_breakPatternsCmpFunc_apiEntry_by_keys_row_1.B (F.slices_nextPowerOfTwo K) (fun a0 a1 a2 x0 x1 x2 x3 => H [1, 1, 0, 1, 1, 1, 0] [K] (F.slices_breakPatternsCmpFunc_apiEntry_by_keys_row_1.l1101110.st a0 a1 a2 x0 x1 x2 x3)) a0 a1 a2 from by intro H; kernel_rfl) (F.slices_breakPatternsCmpFunc_apiEntry_by_keys_row_1.at K))
noncomputable def V.slices_breakPatternsCmpFunc_apiEntry_by_keys_row_1.l1101110 (a0 : List TEntry) (a1 : Int) (a2 : Int) (x0 : Int) (x1 : Int) (x2 : List TEntry) (x3 : Int) := lim fun v => F.slices_breakPatternsCmpFunc_apiEntry_by_keys_row_1.l1101110 (v 0) (v 1) a0 a1 a2 x0 x1 x2 x3
noncomputable def V.slices_breakPatternsCmpFunc_apiEntry_by_keys_row_1.j1101110010011 (a0 : List TEntry) (a1 : Int) (a2 : Int) (x0 : Int) (x1 : Int) (x2 : Int) (x3 : List TEntry) (x4 : Int) := lim fun v => F.slices_breakPatternsCmpFunc_apiEntry_by_keys_row_1.j1101110010011 (v 0) (v 1) a0 a1 a2 x0 x1 x2 x3 x4
noncomputable def V.slices_breakPatternsCmpFunc_apiEntry_by_keys_row_1.j1101110011 (a0 : List TEntry) (a1 : Int) (a2 : Int) (x0 : Int) (x1 : Int) (x2 : List TEntry) (x3 : Int) := lim fun v => F.slices_breakPatternsCmpFunc_apiEntry_by_keys_row_1.j1101110011 (v 0) (v 1) a0 a1 a2 x0 x1 x2 x3
noncomputable def V.slices_breakPatternsCmpFunc_apiEntry_by_keys_row_1 (a0 : List TEntry) (a1 : Int) (a2 : Int) := lim fun v => F.slices_breakPatternsCmpFunc_apiEntry_by_keys_row_1 (v 0) a0 a1 a2
theorem V.slices_breakPatternsCmpFunc_apiEntry_by_keys_row_1.l1101110.of a0 a1 a2 x0 x1 x2 x3 {r} (h : F.slices_breakPatternsCmpFunc_apiEntry_by_keys_row_1.l1101110.B V.slices_xorshift_Next V.slices_breakPatternsCmpFunc_apiEntry_by_keys_row_1.j1101110010011 a0 a1 a2 x0 x1 x2 x3 = some r) : V.slices_breakPatternsCmpFunc_apiEntry_by_keys_row_1.l1101110 a0 a1 a2 x0 x1 x2 x3 = some r :=
  App.to (App.step 1 (fun v => F.slices_breakPatternsCmpFunc_apiEntry_by_keys_row_1.l1101110.eq (v 0) (v 1) a0 a1 a2 x0 x1 x2 x3) (by unfold F.slices_breakPatternsCmpFunc_apiEntry_by_keys_row_1.l1101110.B; repeat' first | exact App.val | exact App.no | exact App.lim | apply App.cond | apply App.guard | apply App.meet | apply App.ite | refine App.bind ?_ fun _ => ?_)) h
theorem V.slices_breakPatternsCmpFunc_apiEntry_by_keys_row_1.j1101110010011.of a0 a1 a2 x0 x1 x2 x3 x4 {r} (h : F.slices_breakPatternsCmpFunc_apiEntry_by_keys_row_1.j1101110010011.B V.slices_breakPatternsCmpFunc_apiEntry_by_keys_row_1.j1101110011 a0 a1 a2 x0 x1 x2 x3 x4 = some r) : V.slices_breakPatternsCmpFunc_apiEntry_by_keys_row_1.j1101110010011 a0 a1 a2 x0 x1 x2 x3 x4 = some r :=
  App.to (App.same (fun v => F.slices_breakPatternsCmpFunc_apiEntry_by_keys_row_1.j1101110010011.eq (v 0) (v 1) a0 a1 a2 x0 x1 x2 x3 x4) (by unfold F.slices_breakPatternsCmpFunc_apiEntry_by_keys_row_1.j1101110010011.B; repeat' first | exact App.val | exact App.no | exact App.lim | apply App.cond | apply App.guard | apply App.meet | apply App.ite | refine App.bind ?_ fun _ => ?_)) h
theorem V.slices_breakPatternsCmpFunc_apiEntry_by_keys_row_1.j1101110011.of a0 a1 a2 x0 x1 x2 x3 {r} (h : F.slices_breakPatternsCmpFunc_apiEntry_by_keys_row_1.j1101110011.B V.slices_breakPatternsCmpFunc_apiEntry_by_keys_row_1.l1101110 a0 a1 a2 x0 x1 x2 x3 = some r) : V.slices_breakPatternsCmpFunc_apiEntry_by_keys_row_1.j1101110011 a0 a1 a2 x0 x1 x2 x3 = some r :=
  App.to (App.same (fun v => F.slices_breakPatternsCmpFunc_apiEntry_by_keys_row_1.j1101110011.eq (v 0) (v 1) a0 a1 a2 x0 x1 x2 x3) (by unfold F.slices_breakPatternsCmpFunc_apiEntry_by_keys_row_1.j1101110011.B; repeat' first | exact App.val | exact App.no | exact App.lim | apply App.cond | apply App.guard | apply App.meet | apply App.ite | refine App.bind ?_ fun _ => ?_)) h
theorem V.slices_breakPatternsCmpFunc_apiEntry_by_keys_row_1.of a0 a1 a2 {r} (h : F.slices_breakPatternsCmpFunc_apiEntry_by_keys_row_1.B V.slices_nextPowerOfTwo V.slices_breakPatternsCmpFunc_apiEntry_by_keys_row_1.l1101110 a0 a1 a2 = some r) : V.slices_breakPatternsCmpFunc_apiEntry_by_keys_row_1 a0 a1 a2 = some r :=
  App.to (App.step 0 (fun v => F.slices_breakPatternsCmpFunc_apiEntry_by_keys_row_1.eq (v 0) a0 a1 a2) (by unfold F.slices_breakPatternsCmpFunc_apiEntry_by_keys_row_1.B; repeat' first | exact App.val | exact App.no | exact App.lim | exact (App.enter 1 App.lim) | apply App.cond | apply App.guard | apply App.meet | apply App.ite | refine App.bind ?_ fun _ => ?_)) h
noncomputable def F.slices_pdqsortCmpFunc_apiEntry_by_keys_row_1 (K : Nat) (a0 : List TEntry) (a1 : Int) (a2 : Int) (a3 : Int) : Option ((List TEntry)) := evFn Try.prog sg K 178 [.sc (.own 0 none), .sc (.val (.int .i64 a1)), .sc (.val (.int .i64 a2)), .sc (.val (.int .i64 a3)), .sc (.fn 142 [])] [.elems sEntry a0]
noncomputable def F.slices_pdqsortCmpFunc_apiEntry_by_keys_row_1.at (K : Nat) (p ns : List Nat) (s : St) : Option ((List TEntry)) := atFn Try.prog sg K 178 1 p ns s
noncomputable def F.slices_pdqsortCmpFunc_apiEntry_by_keys_row_1.in (K : Nat) (H : List Nat → List Nat → St → Option ((List TEntry))) (p ns : List Nat) (s : St) : Option ((List TEntry)) := inFn Try.prog sg K 178 1 [[1, 1, 0, 0, 0, 1, 1, 1, 1], [1, 1, 0, 0, 0, 1, 1, 1, 1, 1, 1], [1, 1, 0, 0, 0, 1, 1, 1, 1, 1, 1, 0, 1], [1, 1, 0, 0, 0, 1, 1, 1, 1, 1, 1, 1], [1, 1, 0, 0, 0, 1, 1, 1, 1, 1, 1, 1, 0, 1], [1, 1, 0, 0, 0, 1, 1, 1, 1, 1, 1, 1, 1]] H p ns s
theorem F.slices_pdqsortCmpFunc_apiEntry_by_keys_row_1.in_eq K p ns s : F.slices_pdqsortCmpFunc_apiEntry_by_keys_row_1.at K p ns s = F.slices_pdqsortCmpFunc_apiEntry_by_keys_row_1.in K (F.slices_pdqsortCmpFunc_apiEntry_by_keys_row_1.at K) p ns s := atFn_eq (P := Try.prog) (sg := sg) (K := K) (f := 178) (m := 1) [[1, 1, 0, 0, 0, 1, 1, 1, 1], [1, 1, 0, 0, 0, 1, 1, 1, 1, 1, 1], [1, 1, 0, 0, 0, 1, 1, 1, 1, 1, 1, 0, 1], [1, 1, 0, 0, 0, 1, 1, 1, 1, 1, 1, 1], [1, 1, 0, 0, 0, 1, 1, 1, 1, 1, 1, 1, 0, 1], [1, 1, 0, 0, 0, 1, 1, 1, 1, 1, 1, 1, 1]] p ns s
theorem F.slices_pdqsortCmpFunc_apiEntry_by_keys_row_1.in_main K a0 a1 a2 a3 : F.slices_pdqsortCmpFunc_apiEntry_by_keys_row_1 (K + 1) a0 a1 a2 a3 = F.slices_pdqsortCmpFunc_apiEntry_by_keys_row_1.in K (F.slices_pdqsortCmpFunc_apiEntry_by_keys_row_1.at K) [] [] ⟨slots [.sc (.own 0 none), .sc (.val (.int .i64 a1)), .sc (.val (.int .i64 a2)), .sc (.val (.int .i64 a3)), .sc (.fn 142 [])] 0, [.elems sEntry a0]⟩ := evFn_eq (P := Try.prog) (sg := sg) (K := K) (f := 178) (args := [.sc (.own 0 none), .sc (.val (.int .i64 a1)), .sc (.val (.int .i64 a2)), .sc (.val (.int .i64 a3)), .sc (.fn 142 [])]) (σ := [.elems sEntry a0]) [[1, 1, 0, 0, 0, 1, 1, 1, 1], [1, 1, 0, 0, 0, 1, 1, 1, 1, 1, 1], [1, 1, 0, 0, 0, 1, 1, 1, 1, 1, 1, 0, 1], [1, 1, 0, 0, 0, 1, 1, 1, 1, 1, 1, 1], [1, 1, 0, 0, 0, 1, 1, 1, 1, 1, 1, 1, 0, 1], [1, 1, 0, 0, 0, 1, 1, 1, 1, 1, 1, 1, 1]] (by kernel_rfl)
def F.slices_pdqsortCmpFunc_apiEntry_by_keys_row_1.l110.st (a0 : List TEntry) (a1 : Int) (a2 : Int) (a3 : Int) (x0 : Int) (x1 : Int) (x2 : Int) (x3 : Bool) (x4 : Bool) (x5 : List TEntry) : St := ⟨[(0, .one (.sc (.own 0 none))), (1, vI x0), (2, vI x1), (3, vI x2), (4, .one (.sc (.fn 142 []))), (10, vB x3), (11, vB x4)], [.elems sEntry x5]⟩
noncomputable def F.slices_pdqsortCmpFunc_apiEntry_by_keys_row_1.l110 (K n0 : Nat) (a0 : List TEntry) (a1 : Int) (a2 : Int) (a3 : Int) (x0 : Int) (x1 : Int) (x2 : Int) (x3 : Bool) (x4 : Bool) (x5 : List TEntry) := F.slices_pdqsortCmpFunc_apiEntry_by_keys_row_1.at K [1, 1, 0] [n0] (F.slices_pdqsortCmpFunc_apiEntry_by_keys_row_1.l110.st a0 a1 a2 a3 x0 x1 x2 x3 x4 x5)
def F.slices_pdqsortCmpFunc_apiEntry_by_keys_row_1.j110001111.st (a0 : List TEntry) (a1 : Int) (a2 : Int) (a3 : Int) (x0 : Int) (x1 : Int) (x2 : Int) (x3 : Bool) (x4 : Bool) (x5 : Int) (x6 : List TEntry) : St := ⟨[(0, .one (.sc (.own 0 none))), (1, vI x0), (2, vI x1), (3, vI x2), (4, .one (.sc (.fn 142 []))), (10, vB x3), (11, vB x4), (12, vI x5)], [.elems sEntry x6]⟩
noncomputable def F.slices_pdqsortCmpFunc_apiEntry_by_keys_row_1.j110001111 (K n0 : Nat) (a0 : List TEntry) (a1 : Int) (a2 : Int) (a3 : Int) (x0 : Int) (x1 : Int) (x2 : Int) (x3 : Bool) (x4 : Bool) (x5 : Int) (x6 : List TEntry) := F.slices_pdqsortCmpFunc_apiEntry_by_keys_row_1.at K [1, 1, 0, 0, 0, 1, 1, 1, 1] [n0] (F.slices_pdqsortCmpFunc_apiEntry_by_keys_row_1.j110001111.st a0 a1 a2 a3 x0 x1 x2 x3 x4 x5 x6)
def F.slices_pdqsortCmpFunc_apiEntry_by_keys_row_1.j11000111111.st (a0 : List TEntry) (a1 : Int) (a2 : Int) (a3 : Int) (x0 : Int) (x1 : Int) (x2 : Int) (x3 : Bool) (x4 : Bool) (x5 : Int) (x6 : Int) (x7 : Int) (x8 : List TEntry) : St := ⟨[(0, .one (.sc (.own 0 none))), (1, vI x0), (2, vI x1), (3, vI x2), (4, .one (.sc (.fn 142 []))), (10, vB x3), (11, vB x4), (12, vI x5), (13, vI x6), (14, vI x7)], [.elems sEntry x8]⟩
noncomputable def F.slices_pdqsortCmpFunc_apiEntry_by_keys_row_1.j11000111111 (K n0 : Nat) (a0 : List TEntry) (a1 : Int) (a2 : Int) (a3 : Int) (x0 : Int) (x1 : Int) (x2 : Int) (x3 : Bool) (x4 : Bool) (x5 : Int) (x6 : Int) (x7 : Int) (x8 : List TEntry) := F.slices_pdqsortCmpFunc_apiEntry_by_keys_row_1.at K [1, 1, 0, 0, 0, 1, 1, 1, 1, 1, 1] [n0] (F.slices_pdqsortCmpFunc_apiEntry_by_keys_row_1.j11000111111.st a0 a1 a2 a3 x0 x1 x2 x3 x4 x5 x6 x7 x8)
def F.slices_pdqsortCmpFunc_apiEntry_by_keys_row_1.j1100011111101.st (a0 : List TEntry) (a1 : Int) (a2 : Int) (a3 : Int) (x0 : Int) (x1 : Int) (x2 : Int) (x3 : Bool) (x4 : Bool) (x5 : Int) (x6 : Int) (x7 : Bool) (x8 : List TEntry) : St := ⟨[(0, .one (.sc (.own 0 none))), (1, vI x0), (2, vI x1), (3, vI x2), (4, .one (.sc (.fn 142 []))), (10, vB x3), (11, vB x4), (12, vI x5), (13, vI x6), (75, vB x7)], [.elems sEntry x8]⟩
noncomputable def F.slices_pdqsortCmpFunc_apiEntry_by_keys_row_1.j1100011111101 (K n0 : Nat) (a0 : List TEntry) (a1 : Int) (a2 : Int) (a3 : Int) (x0 : Int) (x1 : Int) (x2 : Int) (x3 : Bool) (x4 : Bool) (x5 : Int) (x6 : Int) (x7 : Bool) (x8 : List TEntry) := F.slices_pdqsortCmpFunc_apiEntry_by_keys_row_1.at K [1, 1, 0, 0, 0, 1, 1, 1, 1, 1, 1, 0, 1] [n0] (F.slices_pdqsortCmpFunc_apiEntry_by_keys_row_1.j1100011111101.st a0 a1 a2 a3 x0 x1 x2 x3 x4 x5 x6 x7 x8)
def F.slices_pdqsortCmpFunc_apiEntry_by_keys_row_1.j110001111111.st (a0 : List TEntry) (a1 : Int) (a2 : Int) (a3 : Int) (x0 : Int) (x1 : Int) (x2 : Int) (x3 : Bool) (x4 : Bool) (x5 : Int) (x6 : Int) (x7 : List TEntry) : St := ⟨[(0, .one (.sc (.own 0 none))), (1, vI x0), (2, vI x1), (3, vI x2), (4, .one (.sc (.fn 142 []))), (10, vB x3), (11, vB x4), (12, vI x5), (13, vI x6)], [.elems sEntry x7]⟩
noncomputable def F.slices_pdqsortCmpFunc_apiEntry_by_keys_row_1.j110001111111 (K n0 : Nat) (a0 : List TEntry) (a1 : Int) (a2 : Int) (a3 : Int) (x0 : Int) (x1 : Int) (x2 : Int) (x3 : Bool) (x4 : Bool) (x5 : Int) (x6 : Int) (x7 : List TEntry) := F.slices_pdqsortCmpFunc_apiEntry_by_keys_row_1.at K [1, 1, 0, 0, 0, 1, 1, 1, 1, 1, 1, 1] [n0] (F.slices_pdqsortCmpFunc_apiEntry_by_keys_row_1.j110001111111.st a0 a1 a2 a3 x0 x1 x2 x3 x4 x5 x6 x7)
def F.slices_pdqsortCmpFunc_apiEntry_by_keys_row_1.j11000111111101.st (a0 : List TEntry) (a1 : Int) (a2 : Int) (a3 : Int) (x0 : Int) (x1 : Int) (x2 : Int) (x3 : Bool) (x4 : Bool) (x5 : Int) (x6 : Int) (x7 : Bool) (x8 : List TEntry) : St := ⟨[(0, .one (.sc (.own 0 none))), (1, vI x0), (2, vI x1), (3, vI x2), (4, .one (.sc (.fn 142 []))), (10, vB x3), (11, vB x4), (12, vI x5), (13, vI x6), (97, vB x7)], [.elems sEntry x8]⟩
noncomputable def F.slices_pdqsortCmpFunc_apiEntry_by_keys_row_1.j11000111111101 (K n0 : Nat) (a0 : List TEntry) (a1 : Int) (a2 : Int) (a3 : Int) (x0 : Int) (x1 : Int) (x2 : Int) (x3 : Bool) (x4 : Bool) (x5 : Int) (x6 : Int) (x7 : Bool) (x8 : List TEntry) := F.slices_pdqsortCmpFunc_apiEntry_by_keys_row_1.at K [1, 1, 0, 0, 0, 1, 1, 1, 1, 1, 1, 1, 0, 1] [n0] (F.slices_pdqsortCmpFunc_apiEntry_by_keys_row_1.j11000111111101.st a0 a1 a2 a3 x0 x1 x2 x3 x4 x5 x6 x7 x8)
def F.slices_pdqsortCmpFunc_apiEntry_by_keys_row_1.j1100011111111.st (a0 : List TEntry) (a1 : Int) (a2 : Int) (a3 : Int) (x0 : Int) (x1 : Int) (x2 : Int) (x3 : Int) (x4 : Int) (x5 : List TEntry) : St := ⟨[(0, .one (.sc (.own 0 none))), (1, vI x0), (2, vI x1), (3, vI x2), (4, .one (.sc (.fn 142 []))), (12, vI x3), (13, vI x4)], [.elems sEntry x5]⟩
noncomputable def F.slices_pdqsortCmpFunc_apiEntry_by_keys_row_1.j1100011111111 (K n0 : Nat) (a0 : List TEntry) (a1 : Int) (a2 : Int) (a3 : Int) (x0 : Int) (x1 : Int) (x2 : Int) (x3 : Int) (x4 : Int) (x5 : List TEntry) := F.slices_pdqsortCmpFunc_apiEntry_by_keys_row_1.at K [1, 1, 0, 0, 0, 1, 1, 1, 1, 1, 1, 1, 1] [n0] (F.slices_pdqsortCmpFunc_apiEntry_by_keys_row_1.j1100011111111.st a0 a1 a2 a3 x0 x1 x2 x3 x4 x5)
noncomputable def F.slices_pdqsortCmpFunc_apiEntry_by_keys_row_1.l110.B (c0 : (List TEntry) → (Int) → (Int) → Option ((List TEntry))) (c1 : (List TEntry) → (Int) → (Int) → Option ((List TEntry))) (c2 : (List TEntry) → (Int) → (Int) → Option ((List TEntry))) (c3 : (List TEntry) → (Int) → (Int) → (Int) → (Int) → (Int) → (Int) → (Bool) → (Bool) → (Int) → (List TEntry) → Option ((List TEntry))) (a0 : List TEntry) (a1 : Int) (a2 : Int) (a3 : Int) (x0 : Int) (x1 : Int) (x2 : Int) (x3 : Bool) (x4 : Bool) (x5 : List TEntry) : Option ((List TEntry)) :=
    (bif (decide ((w64 (x1 - x0)) ≤ 12)) then ((c0 x5 x0 x1).bind fun t0 => (some t0)) else (bif (x2 == 0) then ((c1 x5 x0 x1).bind fun t1 => (some t1)) else (bif (!x3) then ((c2 x5 x0 x1).bind fun t2 => (c3 a0 a1 a2 a3 x0 x1 (w64 (x2 - 1)) x3 x4 (w64 (x1 - x0)) t2)) else (c3 a0 a1 a2 a3 x0 x1 x2 x3 x4 (w64 (x1 - x0)) x5))))
theorem F.slices_pdqsortCmpFunc_apiEntry_by_keys_row_1.l110.eq K n0 a0 a1 a2 a3 x0 x1 x2 x3 x4 x5 : F.slices_pdqsortCmpFunc_apiEntry_by_keys_row_1.l110 K (n0 + 1) a0 a1 a2 a3 x0 x1 x2 x3 x4 x5 = F.slices_pdqsortCmpFunc_apiEntry_by_keys_row_1.l110.B (F.slices_insertionSortCmpFunc_apiEntry_by_keys_row_1 K) (F.slices_heapSortCmpFunc_apiEntry_by_keys_row_1 K) (F.slices_breakPatternsCmpFunc_apiEntry_by_keys_row_1 K) (F.slices_pdqsortCmpFunc_apiEntry_by_keys_row_1.j110001111 K n0) a0 a1 a2 a3 x0 x1 x2 x3 x4 x5 := (F.slices_pdqsortCmpFunc_apiEntry_by_keys_row_1.in_eq K [1, 1, 0] [n0 + 1] (F.slices_pdqsortCmpFunc_apiEntry_by_keys_row_1.l110.st a0 a1 a2 a3 x0 x1 x2 x3 x4 x5)).trans ((show ∀ H, F.slices_pdqsortCmpFunc_apiEntry_by_keys_row_1.in K H [1, 1, 0] [n0 + 1] (F.slices_pdqsortCmpFunc_apiEntry_by_keys_row_1.l110.st a0 a1 a2 a3 x0 x1 x2 x3 x4 x5) = F.slices_pdqsortCmpFunc_apiEntry_by_keys_row_1.l110.B (F.slices_insertionSortCmpFunc_apiEntry_by_keys_row_1 K) (F.slices_heapSortCmpFunc_apiEntry_by_keys_row_1 K) (F.slices_breakPatternsCmpFunc_apiEntry_by_keys_row_1 K) (fun a0 a1 a2 a3 x0 x1 x2 x3 x4 x5 x6 => H [1, 1, 0, 0, 0, 1, 1, 1, 1] [n0] (F.slices_pdqsortCmpFunc_apiEntry_by_keys_row_1.j110001111.st a0 a1 a2 a3 x0 x1 x2 x3 x4 x5 x6)) a0 a1 a2 a3 x0 x1 x2 x3 x4 x5 from by intro H; kernel_rfl) (F.slices_pdqsortCmpFunc_apiEntry_by_keys_row_1.at K))
noncomputable def F.slices_pdqsortCmpFunc_apiEntry_by_keys_row_1.j110001111.B (c0 : (List TEntry) → (Int) → (Int) → Option (Int × Int × (List TEntry))) (c1 : (List TEntry) → (Int) → (Int) → Option ((List TEntry))) (c2 : (List TEntry) → (Int) → (Int) → (Int) → (Int) → (Int) → (Int) → (Bool) → (Bool) → (Int) → (Int) → (Int) → (List TEntry) → Option ((List TEntry))) (a0 : List TEntry) (a1 : Int) (a2 : Int) (a3 : Int) (x0 : Int) (x1 : Int) (x2 : Int) (x3 : Bool) (x4 : Bool) (x5 : Int) (x6 : List TEntry) : Option ((List TEntry)) :=
    ((c0 x6 x0 x1).bind fun t3 => (bif (t3.2.1 == 2) then ((c1 t3.2.2 x0 x1).bind fun t4 => (c2 a0 a1 a2 a3 x0 x1 x2 x3 x4 x5 (w64 ((w64 (x1 - 1)) - (w64 (t3.1 - x0)))) 1 t4)) else (c2 a0 a1 a2 a3 x0 x1 x2 x3 x4 x5 t3.1 t3.2.1 t3.2.2)))
theorem F.slices_pdqsortCmpFunc_apiEntry_by_keys_row_1.j110001111.eq K n0 a0 a1 a2 a3 x0 x1 x2 x3 x4 x5 x6 : F.slices_pdqsortCmpFunc_apiEntry_by_keys_row_1.j110001111 K n0 a0 a1 a2 a3 x0 x1 x2 x3 x4 x5 x6 = F.slices_pdqsortCmpFunc_apiEntry_by_keys_row_1.j110001111.B (F.slices_choosePivotCmpFunc_apiEntry_by_keys_row_1 K) (F.slices_reverseRangeCmpFunc_apiEntry_by_keys_row_1 K) (F.slices_pdqsortCmpFunc_apiEntry_by_keys_row_1.j11000111111 K n0) a0 a1 a2 a3 x0 x1 x2 x3 x4 x5 x6 := (F.slices_pdqsortCmpFunc_apiEntry_by_keys_row_1.in_eq K [1, 1, 0, 0, 0, 1, 1, 1, 1] [n0] (F.slices_pdqsortCmpFunc_apiEntry_by_keys_row_1.j110001111.st a0 a1 a2 a3 x0 x1 x2 x3 x4 x5 x6)).trans ((show ∀ H, F.slices_pdqsortCmpFunc_apiEntry_by_keys_row_1.in K H [1, 1, 0, 0, 0, 1, 1, 1, 1] [n0] (F.slices_pdqsortCmpFunc_apiEntry_by_keys_row_1.j110001111.st a0 a1 a2 a3 x0 x1 x2 x3 x4 x5 x6) = F.slices_pdqsortCmpFunc_apiEntry_by_keys_row_1.j110001111.B (F.slices_choosePivotCmpFunc_apiEntry_by_keys_row_1 K) (F.slices_reverseRangeCmpFunc_apiEntry_by_keys_row_1 K) (fun a0 a1 a2 a3 x0 x1 x2 x3 x4 x5 x6 x7 x8 => H [1, 1, 0, 0, 0, 1, 1, 1, 1, 1, 1] [n0] (F.slices_pdqsortCmpFunc_apiEntry_by_keys_row_1.j11000111111.st a0 a1 a2 a3 x0 x1 x2 x3 x4 x5 x6 x7 x8)) a0 a1 a2 a3 x0 x1 x2 x3 x4 x5 x6 from by intro H; kernel_rfl) (F.slices_pdqsortCmpFunc_apiEntry_by_keys_row_1.at K))
noncomputable def F.slices_pdqsortCmpFunc_apiEntry_by_keys_row_1.j11000111111.B (c0 : (List TEntry) → (Int) → (Int) → (Int) → (Int) → (Int) → (Int) → (Bool) → (Bool) → (Int) → (Int) → (Bool) → (List TEntry) → Option ((List TEntry))) (a0 : List TEntry) (a1 : Int) (a2 : Int) (a3 : Int) (x0 : Int) (x1 : Int) (x2 : Int) (x3 : Bool) (x4 : Bool) (x5 : Int) (x6 : Int) (x7 : Int) (x8 : List TEntry) : Option ((List TEntry)) :=
    (bif x3 then (bif x4 then (c0 a0 a1 a2 a3 x0 x1 x2 x3 x4 x5 x6 (x7 == 1) x8) else (c0 a0 a1 a2 a3 x0 x1 x2 x3 x4 x5 x6 false x8)) else (c0 a0 a1 a2 a3 x0 x1 x2 x3 x4 x5 x6 false x8))
theorem F.slices_pdqsortCmpFunc_apiEntry_by_keys_row_1.j11000111111.eq K n0 a0 a1 a2 a3 x0 x1 x2 x3 x4 x5 x6 x7 x8 : F.slices_pdqsortCmpFunc_apiEntry_by_keys_row_1.j11000111111 K n0 a0 a1 a2 a3 x0 x1 x2 x3 x4 x5 x6 x7 x8 = F.slices_pdqsortCmpFunc_apiEntry_by_keys_row_1.j11000111111.B (F.slices_pdqsortCmpFunc_apiEntry_by_keys_row_1.j1100011111101 K n0) a0 a1 a2 a3 x0 x1 x2 x3 x4 x5 x6 x7 x8 := (F.slices_pdqsortCmpFunc_apiEntry_by_keys_row_1.in_eq K [1, 1, 0, 0, 0, 1, 1, 1, 1, 1, 1] [n0] (F.slices_pdqsortCmpFunc_apiEntry_by_keys_row_1.j11000111111.st a0 a1 a2 a3 x0 x1 x2 x3 x4 x5 x6 x7 x8)).trans ((show ∀ H, F.slices_pdqsortCmpFunc_apiEntry_by_keys_row_1.in K H [1, 1, 0, 0, 0, 1, 1, 1, 1, 1, 1] [n0] (F.slices_pdqsortCmpFunc_apiEntry_by_keys_row_1.j11000111111.st a0 a1 a2 a3 x0 x1 x2 x3 x4 x5 x6 x7 x8) = F.slices_pdqsortCmpFunc_apiEntry_by_keys_row_1.j11000111111.B (fun a0 a1 a2 a3 x0 x1 x2 x3 x4 x5 x6 x7 x8 => H [1, 1, 0, 0, 0, 1, 1, 1, 1, 1, 1, 0, 1] [n0] (F.slices_pdqsortCmpFunc_apiEntry_by_keys_row_1.j1100011111101.st a0 a1 a2 a3 x0 x1 x2 x3 x4 x5 x6 x7 x8)) a0 a1 a2 a3 x0 x1 x2 x3 x4 x5 x6 x7 x8 from by intro H; kernel_rfl) (F.slices_pdqsortCmpFunc_apiEntry_by_keys_row_1.at K))
noncomputable def F.slices_pdqsortCmpFunc_apiEntry_by_keys_row_1.j1100011111101.B (c0 : (List TEntry) → (Int) → (Int) → Option (Bool × (List TEntry))) (c1 : (List TEntry) → (Int) → (Int) → (Int) → (Int) → (Int) → (Int) → (Bool) → (Bool) → (Int) → (Int) → (List TEntry) → Option ((List TEntry))) (a0 : List TEntry) (a1 : Int) (a2 : Int) (a3 : Int) (x0 : Int) (x1 : Int) (x2 : Int) (x3 : Bool) (x4 : Bool) (x5 : Int) (x6 : Int) (x7 : Bool) (x8 : List TEntry) : Option ((List TEntry)) :=
    (bif x7 then ((c0 x8 x0 x1).bind fun t5 => (bif t5.1 then (some t5.2) else (c1 a0 a1 a2 a3 x0 x1 x2 x3 x4 x5 x6 t5.2))) else (c1 a0 a1 a2 a3 x0 x1 x2 x3 x4 x5 x6 x8))
theorem F.slices_pdqsortCmpFunc_apiEntry_by_keys_row_1.j1100011111101.eq K n0 a0 a1 a2 a3 x0 x1 x2 x3 x4 x5 x6 x7 x8 : F.slices_pdqsortCmpFunc_apiEntry_by_keys_row_1.j1100011111101 K n0 a0 a1 a2 a3 x0 x1 x2 x3 x4 x5 x6 x7 x8 = F.slices_pdqsortCmpFunc_apiEntry_by_keys_row_1.j1100011111101.B (F.slices_partialInsertionSortCmpFunc_apiEntry_by_keys_row_1 K) (F.slices_pdqsortCmpFunc_apiEntry_by_keys_row_1.j110001111111 K n0) a0 a1 a2 a3 x0 x1 x2 x3 x4 x5 x6 x7 x8 := (F.slices_pdqsortCmpFunc_apiEntry_by_keys_row_1.in_eq K [1, 1, 0, 0, 0, 1, 1, 1, 1, 1, 1, 0, 1] [n0] (F.slices_pdqsortCmpFunc_apiEntry_by_keys_row_1.j1100011111101.st a0 a1 a2 a3 x0 x1 x2 x3 x4 x5 x6 x7 x8)).trans ((show ∀ H, F.slices_pdqsortCmpFunc_apiEntry_by_keys_row_1.in K H [1, 1, 0, 0, 0, 1, 1, 1, 1, 1, 1, 0, 1] [n0] (F.slices_pdqsortCmpFunc_apiEntry_by_keys_row_1.j1100011111101.st a0 a1 a2 a3 x0 x1 x2 x3 x4 x5 x6 x7 x8) = F.slices_pdqsortCmpFunc_apiEntry_by_keys_row_1.j1100011111101.B (F.slices_partialInsertionSortCmpFunc_apiEntry_by_keys_row_1 K) (fun a0 a1 a2 a3 x0 x1 x2 x3 x4 x5 x6 x7 => H [1, 1, 0, 0, 0, 1, 1, 1, 1, 1, 1, 1] [n0] (F.slices_pdqsortCmpFunc_apiEntry_by_keys_row_1.j110001111111.st a0 a1 a2 a3 x0 x1 x2 x3 x4 x5 x6 x7)) a0 a1 a2 a3 x0 x1 x2 x3 x4 x5 x6 x7 x8 from by intro H; kernel_rfl) (F.slices_pdqsortCmpFunc_apiEntry_by_keys_row_1.at K))
noncomputable def F.slices_pdqsortCmpFunc_apiEntry_by_keys_row_1.j110001111111.B (c0 : (TEntry) → (TEntry) → Option (Int)) (c1 : (List TEntry) → (Int) → (Int) → (Int) → (Int) → (Int) → (Int) → (Bool) → (Bool) → (Int) → (Int) → (Bool) → (List TEntry) → Option ((List TEntry))) (a0 : List TEntry) (a1 : Int) (a2 : Int) (a3 : Int) (x0 : Int) (x1 : Int) (x2 : Int) (x3 : Bool) (x4 : Bool) (x5 : Int) (x6 : Int) (x7 : List TEntry) : Option ((List TEntry)) :=
    (bif (decide (x0 > 0)) then (guardK (decide (0 ≤ (w64 (x0 - 1))) && decide ((w64 (x0 - 1)) < (x7.length : Int))) (guardK (decide (0 ≤ x6) && decide (x6 < (x7.length : Int))) ((c0 ((rd sEntry x7 ((w64 (x0 - 1)).toNat)).1, (rd sEntry x7 ((w64 (x0 - 1)).toNat)).2) ((rd sEntry x7 x6.toNat).1, (rd sEntry x7 x6.toNat).2)).bind fun t6 => (c1 a0 a1 a2 a3 x0 x1 x2 x3 x4 x5 x6 (!(decide (t6 < 0))) x7)))) else (c1 a0 a1 a2 a3 x0 x1 x2 x3 x4 x5 x6 false x7))
theorem F.slices_pdqsortCmpFunc_apiEntry_by_keys_row_1.j110001111111.eq K n0 a0 a1 a2 a3 x0 x1 x2 x3 x4 x5 x6 x7 : F.slices_pdqsortCmpFunc_apiEntry_by_keys_row_1.j110001111111 K n0 a0 a1 a2 a3 x0 x1 x2 x3 x4 x5 x6 x7 = F.slices_pdqsortCmpFunc_apiEntry_by_keys_row_1.j110001111111.B (F.keys_row_1 K) (F.slices_pdqsortCmpFunc_apiEntry_by_keys_row_1.j11000111111101 K n0) a0 a1 a2 a3 x0 x1 x2 x3 x4 x5 x6 x7 := (F.slices_pdqsortCmpFunc_apiEntry_by_keys_row_1.in_eq K [1, 1, 0, 0, 0, 1, 1, 1, 1, 1, 1, 1] [n0] (F.slices_pdqsortCmpFunc_apiEntry_by_keys_row_1.j110001111111.st a0 a1 a2 a3 x0 x1 x2 x3 x4 x5 x6 x7)).trans ((show ∀ H, F.slices_pdqsortCmpFunc_apiEntry_by_keys_row_1.in K H [1, 1, 0, 0, 0, 1, 1, 1, 1, 1, 1, 1] [n0] (F.slices_pdqsortCmpFunc_apiEntry_by_keys_row_1.j110001111111.st a0 a1 a2 a3 x0 x1 x2 x3 x4 x5 x6 x7) = F.slices_pdqsortCmpFunc_apiEntry_by_keys_row_1.j110001111111.B (F.keys_row_1 K) (fun a0 a1 a2 a3 x0 x1 x2 x3 x4 x5 x6 x7 x8 => H [1, 1, 0, 0, 0, 1, 1, 1, 1, 1, 1, 1, 0, 1] [n0] (F.slices_pdqsortCmpFunc_apiEntry_by_keys_row_1.j11000111111101.st a0 a1 a2 a3 x0 x1 x2 x3 x4 x5 x6 x7 x8)) a0 a1 a2 a3 x0 x1 x2 x3 x4 x5 x6 x7 from by intro H; kernel_rfl) (F.slices_pdqsortCmpFunc_apiEntry_by_keys_row_1.at K))
noncomputable def F.slices_pdqsortCmpFunc_apiEntry_by_keys_row_1.j11000111111101.B (c0 : (List TEntry) → (Int) → (Int) → (Int) → Option (Int × (List TEntry))) (c1 : (List TEntry) → (Int) → (Int) → (Int) → (Int) → (Int) → (Int) → (Bool) → (Bool) → (List TEntry) → Option ((List TEntry))) (c2 : (List TEntry) → (Int) → (Int) → (Int) → (Int) → (Int) → (Int) → (Int) → (Int) → (List TEntry) → Option ((List TEntry))) (a0 : List TEntry) (a1 : Int) (a2 : Int) (a3 : Int) (x0 : Int) (x1 : Int) (x2 : Int) (x3 : Bool) (x4 : Bool) (x5 : Int) (x6 : Int) (x7 : Bool) (x8 : List TEntry) : Option ((List TEntry)) :=
    (bif x7 then ((c0 x8 x0 x1 x6).bind fun t7 => (c1 a0 a1 a2 a3 t7.1 x1 x2 x3 x4 t7.2)) else (c2 a0 a1 a2 a3 x0 x1 x2 x5 x6 x8))
theorem F.slices_pdqsortCmpFunc_apiEntry_by_keys_row_1.j11000111111101.eq K n0 a0 a1 a2 a3 x0 x1 x2 x3 x4 x5 x6 x7 x8 : F.slices_pdqsortCmpFunc_apiEntry_by_keys_row_1.j11000111111101 K n0 a0 a1 a2 a3 x0 x1 x2 x3 x4 x5 x6 x7 x8 = F.slices_pdqsortCmpFunc_apiEntry_by_keys_row_1.j11000111111101.B (F.slices_partitionEqualCmpFunc_apiEntry_by_keys_row_1 K) (F.slices_pdqsortCmpFunc_apiEntry_by_keys_row_1.l110 K n0) (F.slices_pdqsortCmpFunc_apiEntry_by_keys_row_1.j1100011111111 K n0) a0 a1 a2 a3 x0 x1 x2 x3 x4 x5 x6 x7 x8 := (F.slices_pdqsortCmpFunc_apiEntry_by_keys_row_1.in_eq K [1, 1, 0, 0, 0, 1, 1, 1, 1, 1, 1, 1, 0, 1] [n0] (F.slices_pdqsortCmpFunc_apiEntry_by_keys_row_1.j11000111111101.st a0 a1 a2 a3 x0 x1 x2 x3 x4 x5 x6 x7 x8)).trans ((show ∀ H, F.slices_pdqsortCmpFunc_apiEntry_by_keys_row_1.in K H [1, 1, 0, 0, 0, 1, 1, 1, 1, 1, 1, 1, 0, 1] [n0] (F.slices_pdqsortCmpFunc_apiEntry_by_keys_row_1.j11000111111101.st a0 a1 a2 a3 x0 x1 x2 x3 x4 x5 x6 x7 x8) = F.slices_pdqsortCmpFunc_apiEntry_by_keys_row_1.j11000111111101.B (F.slices_partitionEqualCmpFunc_apiEntry_by_keys_row_1 K) (fun a0 a1 a2 a3 x0 x1 x2 x3 x4 x5 => H [1, 1, 0] [n0] (F.slices_pdqsortCmpFunc_apiEntry_by_keys_row_1.l110.st a0 a1 a2 a3 x0 x1 x2 x3 x4 x5)) (fun a0 a1 a2 a3 x0 x1 x2 x3 x4 x5 => H [1, 1, 0, 0, 0, 1, 1, 1, 1, 1, 1, 1, 1] [n0] (F.slices_pdqsortCmpFunc_apiEntry_by_keys_row_1.j1100011111111.st a0 a1 a2 a3 x0 x1 x2 x3 x4 x5)) a0 a1 a2 a3 x0 x1 x2 x3 x4 x5 x6 x7 x8 from by intro H; kernel_rfl) (F.slices_pdqsortCmpFunc_apiEntry_by_keys_row_1.at K))
noncomputable def F.slices_pdqsortCmpFunc_apiEntry_by_keys_row_1.j1100011111111.B (c0 : (List TEntry) → (Int) → (Int) → (Int) → Option (Int × Bool × (List TEntry))) (c1 : (List TEntry) → (Int) → (Int) → (Int) → Option ((List TEntry))) (c2 : (List TEntry) → (Int) → (Int) → (Int) → (Int) → (Int) → (Int) → (Bool) → (Bool) → (List TEntry) → Option ((List TEntry))) (a0 : List TEntry) (a1 : Int) (a2 : Int) (a3 : Int) (x0 : Int) (x1 : Int) (x2 : Int) (x3 : Int) (x4 : Int) (x5 : List TEntry) : Option ((List TEntry)) :=
    ((c0 x5 x0 x1 x4).bind fun t8 => (bif (decide ((w64 (t8.1 - x0)) < (w64 (x1 - t8.1)))) then ((c1 t8.2.2 x0 t8.1 x2).bind fun t9 => (c2 a0 a1 a2 a3 (w64 (t8.1 + 1)) x1 x2 (decide ((w64 (t8.1 - x0)) ≥ (w64 (Int.tdiv x3 8)))) t8.2.1 t9)) else ((c1 t8.2.2 (w64 (t8.1 + 1)) x1 x2).bind fun t10 => (c2 a0 a1 a2 a3 x0 t8.1 x2 (decide ((w64 (x1 - t8.1)) ≥ (w64 (Int.tdiv x3 8)))) t8.2.1 t10))))
theorem F.slices_pdqsortCmpFunc_apiEntry_by_keys_row_1.j1100011111111.eq K n0 a0 a1 a2 a3 x0 x1 x2 x3 x4 x5 : F.slices_pdqsortCmpFunc_apiEntry_by_keys_row_1.j1100011111111 K n0 a0 a1 a2 a3 x0 x1 x2 x3 x4 x5 = F.slices_pdqsortCmpFunc_apiEntry_by_keys_row_1.j1100011111111.B (F.slices_partitionCmpFunc_apiEntry_by_keys_row_1 K) (F.slices_pdqsortCmpFunc_apiEntry_by_keys_row_1 K) (F.slices_pdqsortCmpFunc_apiEntry_by_keys_row_1.l110 K n0) a0 a1 a2 a3 x0 x1 x2 x3 x4 x5 := (F.slices_pdqsortCmpFunc_apiEntry_by_keys_row_1.in_eq K [1, 1, 0, 0, 0, 1, 1, 1, 1, 1, 1, 1, 1] [n0] (F.slices_pdqsortCmpFunc_apiEntry_by_keys_row_1.j1100011111111.st a0 a1 a2 a3 x0 x1 x2 x3 x4 x5)).trans ((show ∀ H, F.slices_pdqsortCmpFunc_apiEntry_by_keys_row_1.in K H [1, 1, 0, 0, 0, 1, 1, 1, 1, 1, 1, 1, 1] [n0] (F.slices_pdqsortCmpFunc_apiEntry_by_keys_row_1.j1100011111111.st a0 a1 a2 a3 x0 x1 x2 x3 x4 x5) = F.slices_pdqsortCmpFunc_apiEntry_by_keys_row_1.j1100011111111.B (F.slices_partitionCmpFunc_apiEntry_by_keys_row_1 K) (F.slices_pdqsortCmpFunc_apiEntry_by_keys_row_1 K) (fun a0 a1 a2 a3 x0 x1 x2 x3 x4 x5 => H [1, 1, 0] [n0] (F.slices_pdqsortCmpFunc_apiEntry_by_keys_row_1.l110.st a0 a1 a2 a3 x0 x1 x2 x3 x4 x5)) a0 a1 a2 a3 x0 x1 x2 x3 x4 x5 from by intro H; kernel_rfl) (F.slices_pdqsortCmpFunc_apiEntry_by_keys_row_1.at K))
noncomputable def F.slices_pdqsortCmpFunc_apiEntry_by_keys_row_1.B (c0 : (List TEntry) → (Int) → (Int) → (Int) → (Int) → (Int) → (Int) → (Bool) → (Bool) → (List TEntry) → Option ((List TEntry))) (a0 : List TEntry) (a1 : Int) (a2 : Int) (a3 : Int) : Option ((List TEntry)) :=
    (c0 a0 a1 a2 a3 a1 a2 a3 true true a0)
theorem F.slices_pdqsortCmpFunc_apiEntry_by_keys_row_1.eq K a0 a1 a2 a3 : F.slices_pdqsortCmpFunc_apiEntry_by_keys_row_1 (K + 1) a0 a1 a2 a3 = F.slices_pdqsortCmpFunc_apiEntry_by_keys_row_1.B (F.slices_pdqsortCmpFunc_apiEntry_by_keys_row_1.l110 K K) a0 a1 a2 a3 := (F.slices_pdqsortCmpFunc_apiEntry_by_keys_row_1.in_main K a0 a1 a2 a3).trans ((show ∀ H, F.slices_pdqsortCmpFunc_apiEntry_by_keys_row_1.in K H [] [] ⟨slots [.sc (.own 0 none), .sc (.val (.int .i64 a1)), .sc (.val (.int .i64 a2)), .sc (.val (.int .i64 a3)), .sc (.fn 142 [])] 0, [.elems sEntry a0]⟩ = F.slices_pdqsortCmpFunc_apiEntry_by_keys_row_1.B (fun a0 a1 a2 a3 x0 x1 x2 x3 x4 x5 => H [1, 1, 0] [K] (F.slices_pdqsortCmpFunc_apiEntry_by_keys_row_1.l110.st a0 a1 a2 a3 x0 x1 x2 x3 x4 x5)) a0 a1 a2 a3 from by intro H; kernel_rfl) (F.slices_pdqsortCmpFunc_apiEntry_by_keys_row_1.at K))
noncomputable def V.slices_pdqsortCmpFunc_apiEntry_by_keys_row_1.l110 (a0 : List TEntry) (a1 : Int) (a2 : Int) (a3 : Int) (x0 : Int) (x1 : Int) (x2 : Int) (x3 : Bool) (x4 : Bool) (x5 : List TEntry) := lim fun v => F.slices_pdqsortCmpFunc_apiEntry_by_keys_row_1.l110 (v 0) (v 1) a0 a1 a2 a3 x0 x1 x2 x3 x4 x5
noncomputable def V.slices_pdqsortCmpFunc_apiEntry_by_keys_row_1.j110001111 (a0 : List TEntry) (a1 : Int) (a2 : Int) (a3 : Int) (x0 : Int) (x1 : Int) (x2 : Int) (x3 : Bool) (x4 : Bool) (x5 : Int) (x6 : List TEntry) := lim fun v => F.slices_pdqsortCmpFunc_apiEntry_by_keys_row_1.j110001111 (v 0) (v 1) a0 a1 a2 a3 x0 x1 x2 x3 x4 x5 x6
noncomputable def V.slices_pdqsortCmpFunc_apiEntry_by_keys_row_1.j11000111111 (a0 : List TEntry) (a1 : Int) (a2 : Int) (a3 : Int) (x0 : Int) (x1 : Int) (x2 : Int) (x3 : Bool) (x4 : Bool) (x5 : Int) (x6 : Int) (x7 : Int) (x8 : List TEntry) := lim fun v => F.slices_pdqsortCmpFunc_apiEntry_by_keys_row_1.j11000111111 (v 0) (v 1) a0 a1 a2 a3 x0 x1 x2 x3 x4 x5 x6 x7 x8
noncomputable def V.slices_pdqsortCmpFunc_apiEntry_by_keys_row_1.j1100011111101 (a0 : List TEntry) (a1 : Int) (a2 : Int) (a3 : Int) (x0 : Int) (x1 : Int) (x2 : Int) (x3 : Bool) (x4 : Bool) (x5 : Int) (x6 : Int) (x7 : Bool) (x8 : List TEntry) := lim fun v => F.slices_pdqsortCmpFunc_apiEntry_by_keys_row_1.j1100011111101 (v 0) (v 1) a0 a1 a2 a3 x0 x1 x2 x3 x4 x5 x6 x7 x8
noncomputable def V.slices_pdqsortCmpFunc_apiEntry_by_keys_row_1.j110001111111 (a0 : List TEntry) (a1 : Int) (a2 : Int) (a3 : Int) (x0 : Int) (x1 : Int) (x2 : Int) (x3 : Bool) (x4 : Bool) (x5 : Int) (x6 : Int) (x7 : List TEntry) := lim fun v => F.slices_pdqsortCmpFunc_apiEntry_by_keys_row_1.j110001111111 (v 0) (v 1) a0 a1 a2 a3 x0 x1 x2 x3 x4 x5 x6 x7
noncomputable def V.slices_pdqsortCmpFunc_apiEntry_by_keys_row_1.j11000111111101 (a0 : List TEntry) (a1 : Int) (a2 : Int) (a3 : Int) (x0 : Int) (x1 : Int) (x2 : Int) (x3 : Bool) (x4 : Bool) (x5 : Int) (x6 : Int) (x7 : Bool) (x8 : List TEntry) := lim fun v => F.slices_pdqsortCmpFunc_apiEntry_by_keys_row_1.j11000111111101 (v 0) (v 1) a0 a1 a2 a3 x0 x1 x2 x3 x4 x5 x6 x7 x8
noncomputable def V.slices_pdqsortCmpFunc_apiEntry_by_keys_row_1.j1100011111111 (a0 : List TEntry) (a1 : Int) (a2 : Int) (a3 : Int) (x0 : Int) (x1 : Int) (x2 : Int) (x3 : Int) (x4 : Int) (x5 : List TEntry) := lim fun v => F.slices_pdqsortCmpFunc_apiEntry_by_keys_row_1.j1100011111111 (v 0) (v 1) a0 a1 a2 a3 x0 x1 x2 x3 x4 x5
noncomputable def V.slices_pdqsortCmpFunc_apiEntry_by_keys_row_1 (a0 : List TEntry) (a1 : Int) (a2 : Int) (a3 : Int) := lim fun v => F.slices_pdqsortCmpFunc_apiEntry_by_keys_row_1 (v 0) a0 a1 a2 a3
theorem V.slices_pdqsortCmpFunc_apiEntry_by_keys_row_1.l110.of a0 a1 a2 a3 x0 x1 x2 x3 x4 x5 {r} (h : F.slices_pdqsortCmpFunc_apiEntry_by_keys_row_1.l110.B V.slices_insertionSortCmpFunc_apiEntry_by_keys_row_1 V.slices_heapSortCmpFunc_apiEntry_by_keys_row_1 V.slices_breakPatternsCmpFunc_apiEntry_by_keys_row_1 V.slices_pdqsortCmpFunc_apiEntry_by_keys_row_1.j110001111 a0 a1 a2 a3 x0 x1 x2 x3 x4 x5 = some r) : V.slices_pdqsortCmpFunc_apiEntry_by_keys_row_1.l110 a0 a1 a2 a3 x0 x1 x2 x3 x4 x5 = some r :=
  App.to (App.step 1 (fun v => F.slices_pdqsortCmpFunc_apiEntry_by_keys_row_1.l110.eq (v 0) (v 1) a0 a1 a2 a3 x0 x1 x2 x3 x4 x5) (by unfold F.slices_pdqsortCmpFunc_apiEntry_by_keys_row_1.l110.B; repeat' first | exact App.val | exact App.no | exact App.lim | apply App.cond | apply App.guard | apply App.meet | apply App.ite | refine App.bind ?_ fun _ => ?_)) h
theorem V.slices_pdqsortCmpFunc_apiEntry_by_keys_row_1.j110001111.of a0 a1 a2 a3 x0 x1 x2 x3 x4 x5 x6 {r} (h : F.slices_pdqsortCmpFunc_apiEntry_by_keys_row_1.j110001111.B V.slices_choosePivotCmpFunc_apiEntry_by_keys_row_1 V.slices_reverseRangeCmpFunc_apiEntry_by_keys_row_1 V.slices_pdqsortCmpFunc_apiEntry_by_keys_row_1.j11000111111 a0 a1 a2 a3 x0 x1 x2 x3 x4 x5 x6 = some r) : V.slices_pdqsortCmpFunc_apiEntry_by_keys_row_1.j110001111 a0 a1 a2 a3 x0 x1 x2 x3 x4 x5 x6 = some r :=
  App.to (App.same (fun v => F.slices_pdqsortCmpFunc_apiEntry_by_keys_row_1.j110001111.eq (v 0) (v 1) a0 a1 a2 a3 x0 x1 x2 x3 x4 x5 x6) (by unfold F.slices_pdqsortCmpFunc_apiEntry_by_keys_row_1.j110001111.B; repeat' first | exact App.val | exact App.no | exact App.lim | apply App.cond | apply App.guard | apply App.meet | apply App.ite | refine App.bind ?_ fun _ => ?_)) h
theorem V.slices_pdqsortCmpFunc_apiEntry_by_keys_row_1.j11000111111.of a0 a1 a2 a3 x0 x1 x2 x3 x4 x5 x6 x7 x8 {r} (h : F.slices_pdqsortCmpFunc_apiEntry_by_keys_row_1.j11000111111.B V.slices_pdqsortCmpFunc_apiEntry_by_keys_row_1.j1100011111101 a0 a1 a2 a3 x0 x1 x2 x3 x4 x5 x6 x7 x8 = some r) : V.slices_pdqsortCmpFunc_apiEntry_by_keys_row_1.j11000111111 a0 a1 a2 a3 x0 x1 x2 x3 x4 x5 x6 x7 x8 = some r :=
  App.to (App.same (fun v => F.slices_pdqsortCmpFunc_apiEntry_by_keys_row_1.j11000111111.eq (v 0) (v 1) a0 a1 a2 a3 x0 x1 x2 x3 x4 x5 x6 x7 x8) (by unfold F.slices_pdqsortCmpFunc_apiEntry_by_keys_row_1.j11000111111.B; repeat' first | exact App.val | exact App.no | exact App.lim | apply App.cond | apply App.guard | apply App.meet | apply App.ite | refine App.bind ?_ fun _ => ?_)) h
theorem V.slices_pdqsortCmpFunc_apiEntry_by_keys_row_1.j1100011111101.of a0 a1 a2 a3 x0 x1 x2 x3 x4 x5 x6 x7 x8 {r} (h : F.slices_pdqsortCmpFunc_apiEntry_by_keys_row_1.j1100011111101.B V.slices_partialInsertionSortCmpFunc_apiEntry_by_keys_row_1 V.slices_pdqsortCmpFunc_apiEntry_by_keys_row_1.j110001111111 a0 a1 a2 a3 x0 x1 x2 x3 x4 x5 x6 x7 x8 = some r) : V.slices_pdqsortCmpFunc_apiEntry_by_keys_row_1.j1100011111101 a0 a1 a2 a3 x0 x1 x2 x3 x4 x5 x6 x7 x8 = some r :=
  App.to (App.same (fun v => F.slices_pdqsortCmpFunc_apiEntry_by_keys_row_1.j1100011111101.eq (v 0) (v 1) a0 a1 a2 a3 x0 x1 x2 x3 x4 x5 x6 x7 x8) (by unfold F.slices_pdqsortCmpFunc_apiEntry_by_keys_row_1.j1100011111101.B; repeat' first | exact App.val | exact App.no | exact App.lim | apply App.cond | apply App.guard | apply App.meet | apply App.ite | refine App.bind ?_ fun _ => ?_)) h
theorem V.slices_pdqsortCmpFunc_apiEntry_by_keys_row_1.j110001111111.of a0 a1 a2 a3 x0 x1 x2 x3 x4 x5 x6 x7 {r} (h : F.slices_pdqsortCmpFunc_apiEntry_by_keys_row_1.j110001111111.B V.keys_row_1 V.slices_pdqsortCmpFunc_apiEntry_by_keys_row_1.j11000111111101 a0 a1 a2 a3 x0 x1 x2 x3 x4 x5 x6 x7 = some r) : V.slices_pdqsortCmpFunc_apiEntry_by_keys_row_1.j110001111111 a0 a1 a2 a3 x0 x1 x2 x3 x4 x5 x6 x7 = some r :=
  App.to (App.same (fun v => F.slices_pdqsortCmpFunc_apiEntry_by_keys_row_1.j110001111111.eq (v 0) (v 1) a0 a1 a2 a3 x0 x1 x2 x3 x4 x5 x6 x7) (by unfold F.slices_pdqsortCmpFunc_apiEntry_by_keys_row_1.j110001111111.B; repeat' first | exact App.val | exact App.no | exact App.lim | apply App.cond | apply App.guard | apply App.meet | apply App.ite | refine App.bind ?_ fun _ => ?_)) h
theorem V.slices_pdqsortCmpFunc_apiEntry_by_keys_row_1.j11000111111101.of a0 a1 a2 a3 x0 x1 x2 x3 x4 x5 x6 x7 x8 {r} (h : F.slices_pdqsortCmpFunc_apiEntry_by_keys_row_1.j11000111111101.B V.slices_partitionEqualCmpFunc_apiEntry_by_keys_row_1 V.slices_pdqsortCmpFunc_apiEntry_by_keys_row_1.l110 V.slices_pdqsortCmpFunc_apiEntry_by_keys_row_1.j1100011111111 a0 a1 a2 a3 x0 x1 x2 x3 x4 x5 x6 x7 x8 = some r) : V.slices_pdqsortCmpFunc_apiEntry_by_keys_row_1.j11000111111101 a0 a1 a2 a3 x0 x1 x2 x3 x4 x5 x6 x7 x8 = some r :=
  App.to (App.same (fun v => F.slices_pdqsortCmpFunc_apiEntry_by_keys_row_1.j11000111111101.eq (v 0) (v 1) a0 a1 a2 a3 x0 x1 x2 x3 x4 x5 x6 x7 x8) (by unfold F.slices_pdqsortCmpFunc_apiEntry_by_keys_row_1.j11000111111101.B; repeat' first | exact App.val | exact App.no | exact App.lim | apply App.cond | apply App.guard | apply App.meet | apply App.ite | refine App.bind ?_ fun _ => ?_)) h
theorem V.slices_pdqsortCmpFunc_apiEntry_by_keys_row_1.j1100011111111.of a0 a1 a2 a3 x0 x1 x2 x3 x4 x5 {r} (h : F.slices_pdqsortCmpFunc_apiEntry_by_keys_row_1.j1100011111111.B V.slices_partitionCmpFunc_apiEntry_by_keys_row_1 V.slices_pdqsortCmpFunc_apiEntry_by_keys_row_1 V.slices_pdqsortCmpFunc_apiEntry_by_keys_row_1.l110 a0 a1 a2 a3 x0 x1 x2 x3 x4 x5 = some r) : V.slices_pdqsortCmpFunc_apiEntry_by_keys_row_1.j1100011111111 a0 a1 a2 a3 x0 x1 x2 x3 x4 x5 = some r :=
  App.to (App.same (fun v => F.slices_pdqsortCmpFunc_apiEntry_by_keys_row_1.j1100011111111.eq (v 0) (v 1) a0 a1 a2 a3 x0 x1 x2 x3 x4 x5) (by unfold F.slices_pdqsortCmpFunc_apiEntry_by_keys_row_1.j1100011111111.B; repeat' first | exact App.val | exact App.no | exact App.lim | apply App.cond | apply App.guard | apply App.meet | apply App.ite | refine App.bind ?_ fun _ => ?_)) h
theorem V.slices_pdqsortCmpFunc_apiEntry_by_keys_row_1.of a0 a1 a2 a3 {r} (h : F.slices_pdqsortCmpFunc_apiEntry_by_keys_row_1.B V.slices_pdqsortCmpFunc_apiEntry_by_keys_row_1.l110 a0 a1 a2 a3 = some r) : V.slices_pdqsortCmpFunc_apiEntry_by_keys_row_1 a0 a1 a2 a3 = some r :=
  App.to (App.step 0 (fun v => F.slices_pdqsortCmpFunc_apiEntry_by_keys_row_1.eq (v 0) a0 a1 a2 a3) (by unfold F.slices_pdqsortCmpFunc_apiEntry_by_keys_row_1.B; repeat' first | exact App.val | exact App.no | exact App.lim | exact (App.enter 1 App.lim) | apply App.cond | apply App.guard | apply App.meet | apply App.ite | refine App.bind ?_ fun _ => ?_)) h
noncomputable def F.slices_SortFunc_apiEntryapiEntry_by_keys_row_1 (K : Nat) (a0 : List TEntry) : Option ((List TEntry)) := evFn Try.prog sg K 141 [.sc (.own 0 none), .sc (.fn 142 [])] [.elems sEntry a0]
noncomputable def F.slices_SortFunc_apiEntryapiEntry_by_keys_row_1.B (c0 : (Int) → Option (Int)) (c1 : (List TEntry) → (Int) → (Int) → (Int) → Option ((List TEntry))) (a0 : List TEntry) : Option ((List TEntry)) :=
    ((c0 (IntKind.wrap .u64 (a0.length : Int))).bind fun t0 => ((c1 a0 0 (a0.length : Int) t0).bind fun t1 => (some t1)))
theorem F.slices_SortFunc_apiEntryapiEntry_by_keys_row_1.eq K a0 : F.slices_SortFunc_apiEntryapiEntry_by_keys_row_1 (K + 1) a0 = F.slices_SortFunc_apiEntryapiEntry_by_keys_row_1.B (F.math_bits_Len K) (F.slices_pdqsortCmpFunc_apiEntry_by_keys_row_1 K) a0 := by kernel_rfl
noncomputable def V.slices_SortFunc_apiEntryapiEntry_by_keys_row_1 (a0 : List TEntry) := lim fun v => F.slices_SortFunc_apiEntryapiEntry_by_keys_row_1 (v 0) a0
theorem V.slices_SortFunc_apiEntryapiEntry_by_keys_row_1.of a0 {r} (h : F.slices_SortFunc_apiEntryapiEntry_by_keys_row_1.B V.math_bits_Len V.slices_pdqsortCmpFunc_apiEntry_by_keys_row_1 a0 = some r) : V.slices_SortFunc_apiEntryapiEntry_by_keys_row_1 a0 = some r :=
  App.to (App.step 0 (fun v => F.slices_SortFunc_apiEntryapiEntry_by_keys_row_1.eq (v 0) a0) (by unfold F.slices_SortFunc_apiEntryapiEntry_by_keys_row_1.B; repeat' first | exact App.val | exact App.no | exact App.lim | apply App.cond | apply App.guard | apply App.meet | apply App.ite | refine App.bind ?_ fun _ => ?_)) h
noncomputable def F.keys_row (K : Nat) (a0 : List TEntry) : Option ((List TEntry)) := evFn Try.prog sg K 95 [.sc (.own 0 none)] [.elems sEntry a0]
noncomputable def F.keys_row.B (c0 : (List TEntry) → Option ((List TEntry))) (a0 : List TEntry) : Option ((List TEntry)) :=
    ((c0 a0).bind fun t0 => (some t0))
theorem F.keys_row.eq K a0 : F.keys_row (K + 1) a0 = F.keys_row.B (F.slices_SortFunc_apiEntryapiEntry_by_keys_row_1 K) a0 := by kernel_rfl
noncomputable def V.keys_row (a0 : List TEntry) := lim fun v => F.keys_row (v 0) a0
theorem V.keys_row.of a0 {r} (h : F.keys_row.B V.slices_SortFunc_apiEntryapiEntry_by_keys_row_1 a0 = some r) : V.keys_row a0 = some r :=
  App.to (App.step 0 (fun v => F.keys_row.eq (v 0) a0) (by unfold F.keys_row.B; repeat' first | exact App.val | exact App.no | exact App.lim | apply App.cond | apply App.guard | apply App.meet | apply App.ite | refine App.bind ?_ fun _ => ?_)) h
noncomputable def F.keys_Nodes (K : Nat) (a0 : List TNode) : Option ((List TEntry) × Int) := evFn Try.prog sg K 48 [.sc (.list sNode a0 false)] []
noncomputable def F.keys_Nodes.at (K : Nat) (p ns : List Nat) (s : St) : Option ((List TEntry) × Int) := atFn Try.prog sg K 48 0 p ns s
noncomputable def F.keys_Nodes.in (K : Nat) (H : List Nat → List Nat → St → Option ((List TEntry) × Int)) (p ns : List Nat) (s : St) : Option ((List TEntry) × Int) := inFn Try.prog sg K 48 0 [] H p ns s
theorem F.keys_Nodes.in_eq K p ns s : F.keys_Nodes.at K p ns s = F.keys_Nodes.in K (F.keys_Nodes.at K) p ns s := atFn_eq (P := Try.prog) (sg := sg) (K := K) (f := 48) (m := 0) [] p ns s
theorem F.keys_Nodes.in_main K a0 : F.keys_Nodes (K + 1) a0 = F.keys_Nodes.in K (F.keys_Nodes.at K) [] [] ⟨slots [.sc (.list sNode a0 false)] 0, []⟩ := evFn_eq (P := Try.prog) (sg := sg) (K := K) (f := 48) (args := [.sc (.list sNode a0 false)]) (σ := []) [] (by kernel_rfl)
def F.keys_Nodes.l11010.st (a0 : List TNode) (x0 : Int) (x1 : List TEntry) : St := ⟨[(4, .one (.sc (.own 0 none))), (9, vL sNode a0), (10, vI (a0.length : Int)), (11, vI x0)], [.elems sEntry x1]⟩
noncomputable def F.keys_Nodes.l11010 (K n0 : Nat) (a0 : List TNode) (x0 : Int) (x1 : List TEntry) := F.keys_Nodes.at K [1, 1, 0, 1, 0] [n0] (F.keys_Nodes.l11010.st a0 x0 x1)
noncomputable def F.keys_Nodes.l11010.B (c0 : (TNode) → Option (ByteArray × Int)) (c1 : (List TNode) → (Int) → (List TEntry) → Option ((List TEntry) × Int)) (c2 : (List TEntry) → Option ((List TEntry))) (a0 : List TNode) (x0 : Int) (x1 : List TEntry) : Option ((List TEntry) × Int) :=
    (bif (decide (x0 < (a0.length : Int))) then (guardK (decide (0 ≤ x0) && decide (x0 < (a0.length : Int))) ((c0 ((rd sNode a0 x0.toNat).1, ((rd sNode a0 x0.toNat).2).1, ((rd sNode a0 x0.toNat).2).2)).bind fun t0 => (bif (t0.2 != 0) then (some ([], t0.2)) else (guardK (decide (x1.length + ([((rd sNode a0 x0.toNat).1, t0.1)]).length ≤ nmax)) (c1 a0 (w64 (x0 + 1)) (x1 ++ [((rd sNode a0 x0.toNat).1, t0.1)])))))) else ((c2 x1).bind fun t1 => (some (t1, 0))))
theorem F.keys_Nodes.l11010.eq K n0 a0 x0 x1 : F.keys_Nodes.l11010 K (n0 + 1) a0 x0 x1 = F.keys_Nodes.l11010.B (F.elem_PutNode K) (F.keys_Nodes.l11010 K n0) (F.keys_row K) a0 x0 x1 := (F.keys_Nodes.in_eq K [1, 1, 0, 1, 0] [n0 + 1] (F.keys_Nodes.l11010.st a0 x0 x1)).trans ((show ∀ H, F.keys_Nodes.in K H [1, 1, 0, 1, 0] [n0 + 1] (F.keys_Nodes.l11010.st a0 x0 x1) = F.keys_Nodes.l11010.B (F.elem_PutNode K) (fun a0 x0 x1 => H [1, 1, 0, 1, 0] [n0] (F.keys_Nodes.l11010.st a0 x0 x1)) (F.keys_row K) a0 x0 x1 from by intro H; kernel_rfl) (F.keys_Nodes.at K))
noncomputable def F.keys_Nodes.B (c0 : (List TNode) → (Int) → (List TEntry) → Option ((List TEntry) × Int)) (a0 : List TNode) : Option ((List TEntry) × Int) :=
    (c0 a0 0 ([]))
theorem F.keys_Nodes.eq K a0 : F.keys_Nodes (K + 1) a0 = F.keys_Nodes.B (F.keys_Nodes.l11010 K K) a0 := (F.keys_Nodes.in_main K a0).trans ((show ∀ H, F.keys_Nodes.in K H [] [] ⟨slots [.sc (.list sNode a0 false)] 0, []⟩ = F.keys_Nodes.B (fun a0 x0 x1 => H [1, 1, 0, 1, 0] [K] (F.keys_Nodes.l11010.st a0 x0 x1)) a0 from by intro H; kernel_rfl) (F.keys_Nodes.at K))
noncomputable def V.keys_Nodes.l11010 (a0 : List TNode) (x0 : Int) (x1 : List TEntry) := lim fun v => F.keys_Nodes.l11010 (v 0) (v 1) a0 x0 x1
noncomputable def V.keys_Nodes (a0 : List TNode) := lim fun v => F.keys_Nodes (v 0) a0
theorem V.keys_Nodes.l11010.of a0 x0 x1 {r} (h : F.keys_Nodes.l11010.B V.elem_PutNode V.keys_Nodes.l11010 V.keys_row a0 x0 x1 = some r) : V.keys_Nodes.l11010 a0 x0 x1 = some r :=
  App.to (App.step 1 (fun v => F.keys_Nodes.l11010.eq (v 0) (v 1) a0 x0 x1) (by unfold F.keys_Nodes.l11010.B; repeat' first | exact App.val | exact App.no | exact App.lim | apply App.cond | apply App.guard | apply App.meet | apply App.ite | refine App.bind ?_ fun _ => ?_)) h
theorem V.keys_Nodes.of a0 {r} (h : F.keys_Nodes.B V.keys_Nodes.l11010 a0 = some r) : V.keys_Nodes a0 = some r :=
  App.to (App.step 0 (fun v => F.keys_Nodes.eq (v 0) a0) (by unfold F.keys_Nodes.B; repeat' first | exact App.val | exact App.no | exact App.lim | exact (App.enter 1 App.lim) | apply App.cond | apply App.guard | apply App.meet | apply App.ite | refine App.bind ?_ fun _ => ?_)) h
noncomputable def F.elem_CheckEdge (K : Nat) (a0 : TEdge) : Option (Int) := evFn Try.prog sg K 86 [.agg [.val (.string a0.1), .val (.string a0.2.1), .val (.string a0.2.2.1), .list .str a0.2.2.2.1 false, .list sProp a0.2.2.2.2 false]] []
noncomputable def F.elem_CheckEdge.at (K : Nat) (p ns : List Nat) (s : St) : Option (Int) := atFn Try.prog sg K 86 0 p ns s
noncomputable def F.elem_CheckEdge.in (K : Nat) (H : List Nat → List Nat → St → Option (Int)) (p ns : List Nat) (s : St) : Option (Int) := inFn Try.prog sg K 86 0 [] H p ns s
theorem F.elem_CheckEdge.in_eq K p ns s : F.elem_CheckEdge.at K p ns s = F.elem_CheckEdge.in K (F.elem_CheckEdge.at K) p ns s := atFn_eq (P := Try.prog) (sg := sg) (K := K) (f := 86) (m := 0) [] p ns s
theorem F.elem_CheckEdge.in_main K a0 : F.elem_CheckEdge (K + 1) a0 = F.elem_CheckEdge.in K (F.elem_CheckEdge.at K) [] [] ⟨slots [.agg [.val (.string a0.1), .val (.string a0.2.1), .val (.string a0.2.2.1), .list .str a0.2.2.2.1 false, .list sProp a0.2.2.2.2 false]] 0, []⟩ := evFn_eq (P := Try.prog) (sg := sg) (K := K) (f := 86) (args := [.agg [.val (.string a0.1), .val (.string a0.2.1), .val (.string a0.2.2.1), .list .str a0.2.2.2.1 false, .list sProp a0.2.2.2.2 false]]) (σ := []) [] (by kernel_rfl)
def F.elem_CheckEdge.l1010.st (a0 : TEdge) (x0 : Int) : St := ⟨[(1, .one (.sc (.ref 0 0))), (12, .one (.agg [.val (.string a0.1), .val (.string a0.2.1), .val (.string a0.2.2.1)])), (13, vI x0)], [.cells 95 [.val (.string a0.1), .val (.string a0.2.1), .val (.string a0.2.2.1), .list .str a0.2.2.2.1 false, .list sProp a0.2.2.2.2 false]]⟩
noncomputable def F.elem_CheckEdge.l1010 (K n0 : Nat) (a0 : TEdge) (x0 : Int) := F.elem_CheckEdge.at K [1, 0, 1, 0] [n0] (F.elem_CheckEdge.l1010.st a0 x0)
noncomputable def F.elem_CheckEdge.l1010.B (c0 : (ByteArray) → Option (Int)) (c1 : (TEdge) → (Int) → Option (Int)) (c2 : (List ByteArray) → (List TProp) → Option (Int)) (a0 : TEdge) (x0 : Int) : Option (Int) :=
    (bif (decide (x0 < 3)) then (bif (x0 == 0) then ((c0 a0.1).bind fun t0 => (bif (t0 != 0) then (some t0) else (c1 a0 (w64 (x0 + 1))))) else (bif (x0 == 1) then ((c0 a0.2.1).bind fun t1 => (bif (t1 != 0) then (some t1) else (c1 a0 (w64 (x0 + 1))))) else (bif (x0 == 2) then ((c0 a0.2.2.1).bind fun t2 => (bif (t2 != 0) then (some t2) else (c1 a0 (w64 (x0 + 1))))) else none))) else ((c2 a0.2.2.2.1 a0.2.2.2.2).bind fun t3 => (some t3)))
theorem F.elem_CheckEdge.l1010.eq K n0 a0 x0 : F.elem_CheckEdge.l1010 K (n0 + 1) a0 x0 = F.elem_CheckEdge.l1010.B (F.name_Check K) (F.elem_CheckEdge.l1010 K n0) (F.elem_rest K) a0 x0 := (F.elem_CheckEdge.in_eq K [1, 0, 1, 0] [n0 + 1] (F.elem_CheckEdge.l1010.st a0 x0)).trans ((show ∀ H, F.elem_CheckEdge.in K H [1, 0, 1, 0] [n0 + 1] (F.elem_CheckEdge.l1010.st a0 x0) = F.elem_CheckEdge.l1010.B (F.name_Check K) (fun a0 x0 => H [1, 0, 1, 0] [n0] (F.elem_CheckEdge.l1010.st a0 x0)) (F.elem_rest K) a0 x0 from by intro H; kernel_rfl) (F.elem_CheckEdge.at K))
noncomputable def F.elem_CheckEdge.B (c0 : (TEdge) → (Int) → Option (Int)) (a0 : TEdge) : Option (Int) :=
    (c0 a0 0)
theorem F.elem_CheckEdge.eq K a0 : F.elem_CheckEdge (K + 1) a0 = F.elem_CheckEdge.B (F.elem_CheckEdge.l1010 K K) a0 := (F.elem_CheckEdge.in_main K a0).trans ((show ∀ H, F.elem_CheckEdge.in K H [] [] ⟨slots [.agg [.val (.string a0.1), .val (.string a0.2.1), .val (.string a0.2.2.1), .list .str a0.2.2.2.1 false, .list sProp a0.2.2.2.2 false]] 0, []⟩ = F.elem_CheckEdge.B (fun a0 x0 => H [1, 0, 1, 0] [K] (F.elem_CheckEdge.l1010.st a0 x0)) a0 from by intro H; kernel_rfl) (F.elem_CheckEdge.at K))
noncomputable def V.elem_CheckEdge.l1010 (a0 : TEdge) (x0 : Int) := lim fun v => F.elem_CheckEdge.l1010 (v 0) (v 1) a0 x0
noncomputable def V.elem_CheckEdge (a0 : TEdge) := lim fun v => F.elem_CheckEdge (v 0) a0
theorem V.elem_CheckEdge.l1010.of a0 x0 {r} (h : F.elem_CheckEdge.l1010.B V.name_Check V.elem_CheckEdge.l1010 V.elem_rest a0 x0 = some r) : V.elem_CheckEdge.l1010 a0 x0 = some r :=
  App.to (App.step 1 (fun v => F.elem_CheckEdge.l1010.eq (v 0) (v 1) a0 x0) (by unfold F.elem_CheckEdge.l1010.B; repeat' first | exact App.val | exact App.no | exact App.lim | apply App.cond | apply App.guard | apply App.meet | apply App.ite | refine App.bind ?_ fun _ => ?_)) h
theorem V.elem_CheckEdge.of a0 {r} (h : F.elem_CheckEdge.B V.elem_CheckEdge.l1010 a0 = some r) : V.elem_CheckEdge a0 = some r :=
  App.to (App.step 0 (fun v => F.elem_CheckEdge.eq (v 0) a0) (by unfold F.elem_CheckEdge.B; repeat' first | exact App.val | exact App.no | exact App.lim | exact (App.enter 1 App.lim) | apply App.cond | apply App.guard | apply App.meet | apply App.ite | refine App.bind ?_ fun _ => ?_)) h
noncomputable def F.elem_PutEdge (K : Nat) (a0 : TEdge) : Option (ByteArray × Int) := evFn Try.prog sg K 96 [.agg [.val (.string a0.1), .val (.string a0.2.1), .val (.string a0.2.2.1), .list .str a0.2.2.2.1 false, .list sProp a0.2.2.2.2 false]] []
noncomputable def F.elem_PutEdge.B (c0 : (TEdge) → Option (Int)) (c1 : (ByteArray) → Option (ByteArray)) (c2 : (List ByteArray) → (List TProp) → Option (ByteArray)) (a0 : TEdge) : Option (ByteArray × Int) :=
    ((c0 (a0.1, a0.2.1, a0.2.2.1, a0.2.2.2.1, a0.2.2.2.2)).bind fun t0 => (bif (t0 != 0) then (some ((⟨#[]⟩ : ByteArray), t0)) else ((c1 a0.2.1).bind fun t1 => ((c1 a0.2.2.1).bind fun t2 => (guardK (decide (t1.size + t2.size ≤ i64max)) ((c2 a0.2.2.2.1 a0.2.2.2.2).bind fun t3 => (guardK (decide ((t1 ++ t2).size + t3.size ≤ i64max)) (some (((t1 ++ t2) ++ t3), 0)))))))))
theorem F.elem_PutEdge.eq K a0 : F.elem_PutEdge (K + 1) a0 = F.elem_PutEdge.B (F.elem_CheckEdge K) (F.scan_PutText K) (F.elem_put K) a0 := by kernel_rfl
noncomputable def V.elem_PutEdge (a0 : TEdge) := lim fun v => F.elem_PutEdge (v 0) a0
theorem V.elem_PutEdge.of a0 {r} (h : F.elem_PutEdge.B V.elem_CheckEdge V.scan_PutText V.elem_put a0 = some r) : V.elem_PutEdge a0 = some r :=
  App.to (App.step 0 (fun v => F.elem_PutEdge.eq (v 0) a0) (by unfold F.elem_PutEdge.B; repeat' first | exact App.val | exact App.no | exact App.lim | apply App.cond | apply App.guard | apply App.meet | apply App.ite | refine App.bind ?_ fun _ => ?_)) h
noncomputable def F.keys_Edges (K : Nat) (a0 : List TEdge) : Option ((List TEntry) × Int) := evFn Try.prog sg K 49 [.sc (.list sEdge a0 false)] []
noncomputable def F.keys_Edges.at (K : Nat) (p ns : List Nat) (s : St) : Option ((List TEntry) × Int) := atFn Try.prog sg K 49 0 p ns s
noncomputable def F.keys_Edges.in (K : Nat) (H : List Nat → List Nat → St → Option ((List TEntry) × Int)) (p ns : List Nat) (s : St) : Option ((List TEntry) × Int) := inFn Try.prog sg K 49 0 [] H p ns s
theorem F.keys_Edges.in_eq K p ns s : F.keys_Edges.at K p ns s = F.keys_Edges.in K (F.keys_Edges.at K) p ns s := atFn_eq (P := Try.prog) (sg := sg) (K := K) (f := 49) (m := 0) [] p ns s
theorem F.keys_Edges.in_main K a0 : F.keys_Edges (K + 1) a0 = F.keys_Edges.in K (F.keys_Edges.at K) [] [] ⟨slots [.sc (.list sEdge a0 false)] 0, []⟩ := evFn_eq (P := Try.prog) (sg := sg) (K := K) (f := 49) (args := [.sc (.list sEdge a0 false)]) (σ := []) [] (by kernel_rfl)
def F.keys_Edges.l11010.st (a0 : List TEdge) (x0 : Int) (x1 : List TEntry) : St := ⟨[(4, .one (.sc (.own 0 none))), (9, vL sEdge a0), (10, vI (a0.length : Int)), (11, vI x0)], [.elems sEntry x1]⟩
noncomputable def F.keys_Edges.l11010 (K n0 : Nat) (a0 : List TEdge) (x0 : Int) (x1 : List TEntry) := F.keys_Edges.at K [1, 1, 0, 1, 0] [n0] (F.keys_Edges.l11010.st a0 x0 x1)
noncomputable def F.keys_Edges.l11010.B (c0 : (TEdge) → Option (ByteArray × Int)) (c1 : (List TEdge) → (Int) → (List TEntry) → Option ((List TEntry) × Int)) (c2 : (List TEntry) → Option ((List TEntry))) (a0 : List TEdge) (x0 : Int) (x1 : List TEntry) : Option ((List TEntry) × Int) :=
    (bif (decide (x0 < (a0.length : Int))) then (guardK (decide (0 ≤ x0) && decide (x0 < (a0.length : Int))) ((c0 ((rd sEdge a0 x0.toNat).1, ((rd sEdge a0 x0.toNat).2).1, (((rd sEdge a0 x0.toNat).2).2).1, ((((rd sEdge a0 x0.toNat).2).2).2).1, ((((rd sEdge a0 x0.toNat).2).2).2).2)).bind fun t0 => (bif (t0.2 != 0) then (some ([], t0.2)) else (guardK (decide (x1.length + ([((rd sEdge a0 x0.toNat).1, t0.1)]).length ≤ nmax)) (c1 a0 (w64 (x0 + 1)) (x1 ++ [((rd sEdge a0 x0.toNat).1, t0.1)])))))) else ((c2 x1).bind fun t1 => (some (t1, 0))))
theorem F.keys_Edges.l11010.eq K n0 a0 x0 x1 : F.keys_Edges.l11010 K (n0 + 1) a0 x0 x1 = F.keys_Edges.l11010.B (F.elem_PutEdge K) (F.keys_Edges.l11010 K n0) (F.keys_row K) a0 x0 x1 := (F.keys_Edges.in_eq K [1, 1, 0, 1, 0] [n0 + 1] (F.keys_Edges.l11010.st a0 x0 x1)).trans ((show ∀ H, F.keys_Edges.in K H [1, 1, 0, 1, 0] [n0 + 1] (F.keys_Edges.l11010.st a0 x0 x1) = F.keys_Edges.l11010.B (F.elem_PutEdge K) (fun a0 x0 x1 => H [1, 1, 0, 1, 0] [n0] (F.keys_Edges.l11010.st a0 x0 x1)) (F.keys_row K) a0 x0 x1 from by intro H; kernel_rfl) (F.keys_Edges.at K))
noncomputable def F.keys_Edges.B (c0 : (List TEdge) → (Int) → (List TEntry) → Option ((List TEntry) × Int)) (a0 : List TEdge) : Option ((List TEntry) × Int) :=
    (c0 a0 0 ([]))
theorem F.keys_Edges.eq K a0 : F.keys_Edges (K + 1) a0 = F.keys_Edges.B (F.keys_Edges.l11010 K K) a0 := (F.keys_Edges.in_main K a0).trans ((show ∀ H, F.keys_Edges.in K H [] [] ⟨slots [.sc (.list sEdge a0 false)] 0, []⟩ = F.keys_Edges.B (fun a0 x0 x1 => H [1, 1, 0, 1, 0] [K] (F.keys_Edges.l11010.st a0 x0 x1)) a0 from by intro H; kernel_rfl) (F.keys_Edges.at K))
noncomputable def V.keys_Edges.l11010 (a0 : List TEdge) (x0 : Int) (x1 : List TEntry) := lim fun v => F.keys_Edges.l11010 (v 0) (v 1) a0 x0 x1
noncomputable def V.keys_Edges (a0 : List TEdge) := lim fun v => F.keys_Edges (v 0) a0
theorem V.keys_Edges.l11010.of a0 x0 x1 {r} (h : F.keys_Edges.l11010.B V.elem_PutEdge V.keys_Edges.l11010 V.keys_row a0 x0 x1 = some r) : V.keys_Edges.l11010 a0 x0 x1 = some r :=
  App.to (App.step 1 (fun v => F.keys_Edges.l11010.eq (v 0) (v 1) a0 x0 x1) (by unfold F.keys_Edges.l11010.B; repeat' first | exact App.val | exact App.no | exact App.lim | apply App.cond | apply App.guard | apply App.meet | apply App.ite | refine App.bind ?_ fun _ => ?_)) h
theorem V.keys_Edges.of a0 {r} (h : F.keys_Edges.B V.keys_Edges.l11010 a0 = some r) : V.keys_Edges a0 = some r :=
  App.to (App.step 0 (fun v => F.keys_Edges.eq (v 0) a0) (by unfold F.keys_Edges.B; repeat' first | exact App.val | exact App.no | exact App.lim | exact (App.enter 1 App.lim) | apply App.cond | apply App.guard | apply App.meet | apply App.ite | refine App.bind ?_ fun _ => ?_)) h
noncomputable def F.keys_Out_1 (K : Nat) (a0 : TEdge) : Option (ByteArray × ByteArray) := evFn Try.prog sg K 98 [.agg [.val (.string a0.1), .val (.string a0.2.1), .val (.string a0.2.2.1), .list .str a0.2.2.2.1 false, .list sProp a0.2.2.2.2 false]] []
noncomputable def F.keys_Out_1.B (a0 : TEdge) : Option (ByteArray × ByteArray) :=
    (some (a0.2.1, a0.2.2.1))
theorem F.keys_Out_1.eq K a0 : F.keys_Out_1 (K + 1) a0 = F.keys_Out_1.B a0 := by kernel_rfl
noncomputable def V.keys_Out_1 (a0 : TEdge) := lim fun v => F.keys_Out_1 (v 0) a0
theorem V.keys_Out_1.of a0 {r} (h : F.keys_Out_1.B a0 = some r) : V.keys_Out_1 a0 = some r :=
  App.to (App.step 0 (fun v => F.keys_Out_1.eq (v 0) a0) (by unfold F.keys_Out_1.B; repeat' first | exact App.val | exact App.no | exact App.lim | apply App.cond | apply App.guard | apply App.meet | apply App.ite | refine App.bind ?_ fun _ => ?_)) h
noncomputable def F.keys_sides_by_keys_Out_1 (K : Nat) (a0 : List TEdge) : Option ((List TEntry) × Int) := evFn Try.prog sg K 97 [.sc (.list sEdge a0 false), .sc (.fn 98 [])] []
noncomputable def F.keys_sides_by_keys_Out_1.at (K : Nat) (p ns : List Nat) (s : St) : Option ((List TEntry) × Int) := atFn Try.prog sg K 97 0 p ns s
noncomputable def F.keys_sides_by_keys_Out_1.in (K : Nat) (H : List Nat → List Nat → St → Option ((List TEntry) × Int)) (p ns : List Nat) (s : St) : Option ((List TEntry) × Int) := inFn Try.prog sg K 97 0 [] H p ns s
theorem F.keys_sides_by_keys_Out_1.in_eq K p ns s : F.keys_sides_by_keys_Out_1.at K p ns s = F.keys_sides_by_keys_Out_1.in K (F.keys_sides_by_keys_Out_1.at K) p ns s := atFn_eq (P := Try.prog) (sg := sg) (K := K) (f := 97) (m := 0) [] p ns s
theorem F.keys_sides_by_keys_Out_1.in_main K a0 : F.keys_sides_by_keys_Out_1 (K + 1) a0 = F.keys_sides_by_keys_Out_1.in K (F.keys_sides_by_keys_Out_1.at K) [] [] ⟨slots [.sc (.list sEdge a0 false), .sc (.fn 98 [])] 0, []⟩ := evFn_eq (P := Try.prog) (sg := sg) (K := K) (f := 97) (args := [.sc (.list sEdge a0 false), .sc (.fn 98 [])]) (σ := []) [] (by kernel_rfl)
def F.keys_sides_by_keys_Out_1.l11010.st (a0 : List TEdge) (x0 : Int) (x1 : List TEntry) : St := ⟨[(1, .one (.sc (.fn 98 []))), (6, .one (.sc (.own 0 none))), (13, vL sEdge a0), (14, vI (a0.length : Int)), (15, vI x0)], [.elems sEntry x1]⟩
noncomputable def F.keys_sides_by_keys_Out_1.l11010 (K n0 : Nat) (a0 : List TEdge) (x0 : Int) (x1 : List TEntry) := F.keys_sides_by_keys_Out_1.at K [1, 1, 0, 1, 0] [n0] (F.keys_sides_by_keys_Out_1.l11010.st a0 x0 x1)
noncomputable def F.keys_sides_by_keys_Out_1.l11010.B (c0 : (TEdge) → Option (ByteArray × ByteArray)) (c1 : (ByteArray) → (ByteArray) → Option (ByteArray × Int)) (c2 : (List TEdge) → (Int) → (List TEntry) → Option ((List TEntry) × Int)) (c3 : (List TEntry) → Option ((List TEntry))) (a0 : List TEdge) (x0 : Int) (x1 : List TEntry) : Option ((List TEntry) × Int) :=
    (bif (decide (x0 < (a0.length : Int))) then (guardK (decide (0 ≤ x0) && decide (x0 < (a0.length : Int))) ((c0 ((rd sEdge a0 x0.toNat).1, ((rd sEdge a0 x0.toNat).2).1, (((rd sEdge a0 x0.toNat).2).2).1, ((((rd sEdge a0 x0.toNat).2).2).2).1, ((((rd sEdge a0 x0.toNat).2).2).2).2)).bind fun t0 => ((c1 t0.1 ((rd sEdge a0 x0.toNat).1)).bind fun t1 => (bif (t1.2 != 0) then (some ([], t1.2)) else (guardK (decide (x1.length + ([(t1.1, t0.2)]).length ≤ nmax)) (c2 a0 (w64 (x0 + 1)) (x1 ++ [(t1.1, t0.2)]))))))) else ((c3 x1).bind fun t2 => (some (t2, 0))))
theorem F.keys_sides_by_keys_Out_1.l11010.eq K n0 a0 x0 x1 : F.keys_sides_by_keys_Out_1.l11010 K (n0 + 1) a0 x0 x1 = F.keys_sides_by_keys_Out_1.l11010.B (F.keys_Out_1 K) (F.keys_Of K) (F.keys_sides_by_keys_Out_1.l11010 K n0) (F.keys_row K) a0 x0 x1 := (F.keys_sides_by_keys_Out_1.in_eq K [1, 1, 0, 1, 0] [n0 + 1] (F.keys_sides_by_keys_Out_1.l11010.st a0 x0 x1)).trans ((show ∀ H, F.keys_sides_by_keys_Out_1.in K H [1, 1, 0, 1, 0] [n0 + 1] (F.keys_sides_by_keys_Out_1.l11010.st a0 x0 x1) = F.keys_sides_by_keys_Out_1.l11010.B (F.keys_Out_1 K) (F.keys_Of K) (fun a0 x0 x1 => H [1, 1, 0, 1, 0] [n0] (F.keys_sides_by_keys_Out_1.l11010.st a0 x0 x1)) (F.keys_row K) a0 x0 x1 from by intro H; kernel_rfl) (F.keys_sides_by_keys_Out_1.at K))
noncomputable def F.keys_sides_by_keys_Out_1.B (c0 : (List TEdge) → (Int) → (List TEntry) → Option ((List TEntry) × Int)) (a0 : List TEdge) : Option ((List TEntry) × Int) :=
    (c0 a0 0 ([]))
theorem F.keys_sides_by_keys_Out_1.eq K a0 : F.keys_sides_by_keys_Out_1 (K + 1) a0 = F.keys_sides_by_keys_Out_1.B (F.keys_sides_by_keys_Out_1.l11010 K K) a0 := (F.keys_sides_by_keys_Out_1.in_main K a0).trans ((show ∀ H, F.keys_sides_by_keys_Out_1.in K H [] [] ⟨slots [.sc (.list sEdge a0 false), .sc (.fn 98 [])] 0, []⟩ = F.keys_sides_by_keys_Out_1.B (fun a0 x0 x1 => H [1, 1, 0, 1, 0] [K] (F.keys_sides_by_keys_Out_1.l11010.st a0 x0 x1)) a0 from by intro H; kernel_rfl) (F.keys_sides_by_keys_Out_1.at K))
noncomputable def V.keys_sides_by_keys_Out_1.l11010 (a0 : List TEdge) (x0 : Int) (x1 : List TEntry) := lim fun v => F.keys_sides_by_keys_Out_1.l11010 (v 0) (v 1) a0 x0 x1
noncomputable def V.keys_sides_by_keys_Out_1 (a0 : List TEdge) := lim fun v => F.keys_sides_by_keys_Out_1 (v 0) a0
theorem V.keys_sides_by_keys_Out_1.l11010.of a0 x0 x1 {r} (h : F.keys_sides_by_keys_Out_1.l11010.B V.keys_Out_1 V.keys_Of V.keys_sides_by_keys_Out_1.l11010 V.keys_row a0 x0 x1 = some r) : V.keys_sides_by_keys_Out_1.l11010 a0 x0 x1 = some r :=
  App.to (App.step 1 (fun v => F.keys_sides_by_keys_Out_1.l11010.eq (v 0) (v 1) a0 x0 x1) (by unfold F.keys_sides_by_keys_Out_1.l11010.B; repeat' first | exact App.val | exact App.no | exact App.lim | apply App.cond | apply App.guard | apply App.meet | apply App.ite | refine App.bind ?_ fun _ => ?_)) h
theorem V.keys_sides_by_keys_Out_1.of a0 {r} (h : F.keys_sides_by_keys_Out_1.B V.keys_sides_by_keys_Out_1.l11010 a0 = some r) : V.keys_sides_by_keys_Out_1 a0 = some r :=
  App.to (App.step 0 (fun v => F.keys_sides_by_keys_Out_1.eq (v 0) a0) (by unfold F.keys_sides_by_keys_Out_1.B; repeat' first | exact App.val | exact App.no | exact App.lim | exact (App.enter 1 App.lim) | apply App.cond | apply App.guard | apply App.meet | apply App.ite | refine App.bind ?_ fun _ => ?_)) h
noncomputable def F.keys_Out (K : Nat) (a0 : List TEdge) : Option ((List TEntry) × Int) := evFn Try.prog sg K 50 [.sc (.list sEdge a0 false)] []
noncomputable def F.keys_Out.B (c0 : (List TEdge) → Option ((List TEntry) × Int)) (a0 : List TEdge) : Option ((List TEntry) × Int) :=
    ((c0 a0).bind fun t0 => (some (t0.1, t0.2)))
theorem F.keys_Out.eq K a0 : F.keys_Out (K + 1) a0 = F.keys_Out.B (F.keys_sides_by_keys_Out_1 K) a0 := by kernel_rfl
noncomputable def V.keys_Out (a0 : List TEdge) := lim fun v => F.keys_Out (v 0) a0
theorem V.keys_Out.of a0 {r} (h : F.keys_Out.B V.keys_sides_by_keys_Out_1 a0 = some r) : V.keys_Out a0 = some r :=
  App.to (App.step 0 (fun v => F.keys_Out.eq (v 0) a0) (by unfold F.keys_Out.B; repeat' first | exact App.val | exact App.no | exact App.lim | apply App.cond | apply App.guard | apply App.meet | apply App.ite | refine App.bind ?_ fun _ => ?_)) h
noncomputable def F.keys_In_1 (K : Nat) (a0 : TEdge) : Option (ByteArray × ByteArray) := evFn Try.prog sg K 99 [.agg [.val (.string a0.1), .val (.string a0.2.1), .val (.string a0.2.2.1), .list .str a0.2.2.2.1 false, .list sProp a0.2.2.2.2 false]] []
noncomputable def F.keys_In_1.B (a0 : TEdge) : Option (ByteArray × ByteArray) :=
    (some (a0.2.2.1, a0.2.1))
theorem F.keys_In_1.eq K a0 : F.keys_In_1 (K + 1) a0 = F.keys_In_1.B a0 := by kernel_rfl
noncomputable def V.keys_In_1 (a0 : TEdge) := lim fun v => F.keys_In_1 (v 0) a0
theorem V.keys_In_1.of a0 {r} (h : F.keys_In_1.B a0 = some r) : V.keys_In_1 a0 = some r :=
  App.to (App.step 0 (fun v => F.keys_In_1.eq (v 0) a0) (by unfold F.keys_In_1.B; repeat' first | exact App.val | exact App.no | exact App.lim | apply App.cond | apply App.guard | apply App.meet | apply App.ite | refine App.bind ?_ fun _ => ?_)) h
noncomputable def F.keys_sides_by_keys_In_1 (K : Nat) (a0 : List TEdge) : Option ((List TEntry) × Int) := evFn Try.prog sg K 97 [.sc (.list sEdge a0 false), .sc (.fn 99 [])] []
noncomputable def F.keys_sides_by_keys_In_1.at (K : Nat) (p ns : List Nat) (s : St) : Option ((List TEntry) × Int) := atFn Try.prog sg K 97 0 p ns s
noncomputable def F.keys_sides_by_keys_In_1.in (K : Nat) (H : List Nat → List Nat → St → Option ((List TEntry) × Int)) (p ns : List Nat) (s : St) : Option ((List TEntry) × Int) := inFn Try.prog sg K 97 0 [] H p ns s
theorem F.keys_sides_by_keys_In_1.in_eq K p ns s : F.keys_sides_by_keys_In_1.at K p ns s = F.keys_sides_by_keys_In_1.in K (F.keys_sides_by_keys_In_1.at K) p ns s := atFn_eq (P := Try.prog) (sg := sg) (K := K) (f := 97) (m := 0) [] p ns s
theorem F.keys_sides_by_keys_In_1.in_main K a0 : F.keys_sides_by_keys_In_1 (K + 1) a0 = F.keys_sides_by_keys_In_1.in K (F.keys_sides_by_keys_In_1.at K) [] [] ⟨slots [.sc (.list sEdge a0 false), .sc (.fn 99 [])] 0, []⟩ := evFn_eq (P := Try.prog) (sg := sg) (K := K) (f := 97) (args := [.sc (.list sEdge a0 false), .sc (.fn 99 [])]) (σ := []) [] (by kernel_rfl)
def F.keys_sides_by_keys_In_1.l11010.st (a0 : List TEdge) (x0 : Int) (x1 : List TEntry) : St := ⟨[(1, .one (.sc (.fn 99 []))), (6, .one (.sc (.own 0 none))), (13, vL sEdge a0), (14, vI (a0.length : Int)), (15, vI x0)], [.elems sEntry x1]⟩
noncomputable def F.keys_sides_by_keys_In_1.l11010 (K n0 : Nat) (a0 : List TEdge) (x0 : Int) (x1 : List TEntry) := F.keys_sides_by_keys_In_1.at K [1, 1, 0, 1, 0] [n0] (F.keys_sides_by_keys_In_1.l11010.st a0 x0 x1)
noncomputable def F.keys_sides_by_keys_In_1.l11010.B (c0 : (TEdge) → Option (ByteArray × ByteArray)) (c1 : (ByteArray) → (ByteArray) → Option (ByteArray × Int)) (c2 : (List TEdge) → (Int) → (List TEntry) → Option ((List TEntry) × Int)) (c3 : (List TEntry) → Option ((List TEntry))) (a0 : List TEdge) (x0 : Int) (x1 : List TEntry) : Option ((List TEntry) × Int) :=
    (bif (decide (x0 < (a0.length : Int))) then (guardK (decide (0 ≤ x0) && decide (x0 < (a0.length : Int))) ((c0 ((rd sEdge a0 x0.toNat).1, ((rd sEdge a0 x0.toNat).2).1, (((rd sEdge a0 x0.toNat).2).2).1, ((((rd sEdge a0 x0.toNat).2).2).2).1, ((((rd sEdge a0 x0.toNat).2).2).2).2)).bind fun t0 => ((c1 t0.1 ((rd sEdge a0 x0.toNat).1)).bind fun t1 => (bif (t1.2 != 0) then (some ([], t1.2)) else (guardK (decide (x1.length + ([(t1.1, t0.2)]).length ≤ nmax)) (c2 a0 (w64 (x0 + 1)) (x1 ++ [(t1.1, t0.2)]))))))) else ((c3 x1).bind fun t2 => (some (t2, 0))))
theorem F.keys_sides_by_keys_In_1.l11010.eq K n0 a0 x0 x1 : F.keys_sides_by_keys_In_1.l11010 K (n0 + 1) a0 x0 x1 = F.keys_sides_by_keys_In_1.l11010.B (F.keys_In_1 K) (F.keys_Of K) (F.keys_sides_by_keys_In_1.l11010 K n0) (F.keys_row K) a0 x0 x1 := (F.keys_sides_by_keys_In_1.in_eq K [1, 1, 0, 1, 0] [n0 + 1] (F.keys_sides_by_keys_In_1.l11010.st a0 x0 x1)).trans ((show ∀ H, F.keys_sides_by_keys_In_1.in K H [1, 1, 0, 1, 0] [n0 + 1] (F.keys_sides_by_keys_In_1.l11010.st a0 x0 x1) = F.keys_sides_by_keys_In_1.l11010.B (F.keys_In_1 K) (F.keys_Of K) (fun a0 x0 x1 => H [1, 1, 0, 1, 0] [n0] (F.keys_sides_by_keys_In_1.l11010.st a0 x0 x1)) (F.keys_row K) a0 x0 x1 from by intro H; kernel_rfl) (F.keys_sides_by_keys_In_1.at K))
noncomputable def F.keys_sides_by_keys_In_1.B (c0 : (List TEdge) → (Int) → (List TEntry) → Option ((List TEntry) × Int)) (a0 : List TEdge) : Option ((List TEntry) × Int) :=
    (c0 a0 0 ([]))
theorem F.keys_sides_by_keys_In_1.eq K a0 : F.keys_sides_by_keys_In_1 (K + 1) a0 = F.keys_sides_by_keys_In_1.B (F.keys_sides_by_keys_In_1.l11010 K K) a0 := (F.keys_sides_by_keys_In_1.in_main K a0).trans ((show ∀ H, F.keys_sides_by_keys_In_1.in K H [] [] ⟨slots [.sc (.list sEdge a0 false), .sc (.fn 99 [])] 0, []⟩ = F.keys_sides_by_keys_In_1.B (fun a0 x0 x1 => H [1, 1, 0, 1, 0] [K] (F.keys_sides_by_keys_In_1.l11010.st a0 x0 x1)) a0 from by intro H; kernel_rfl) (F.keys_sides_by_keys_In_1.at K))
noncomputable def V.keys_sides_by_keys_In_1.l11010 (a0 : List TEdge) (x0 : Int) (x1 : List TEntry) := lim fun v => F.keys_sides_by_keys_In_1.l11010 (v 0) (v 1) a0 x0 x1
noncomputable def V.keys_sides_by_keys_In_1 (a0 : List TEdge) := lim fun v => F.keys_sides_by_keys_In_1 (v 0) a0
theorem V.keys_sides_by_keys_In_1.l11010.of a0 x0 x1 {r} (h : F.keys_sides_by_keys_In_1.l11010.B V.keys_In_1 V.keys_Of V.keys_sides_by_keys_In_1.l11010 V.keys_row a0 x0 x1 = some r) : V.keys_sides_by_keys_In_1.l11010 a0 x0 x1 = some r :=
  App.to (App.step 1 (fun v => F.keys_sides_by_keys_In_1.l11010.eq (v 0) (v 1) a0 x0 x1) (by unfold F.keys_sides_by_keys_In_1.l11010.B; repeat' first | exact App.val | exact App.no | exact App.lim | apply App.cond | apply App.guard | apply App.meet | apply App.ite | refine App.bind ?_ fun _ => ?_)) h
theorem V.keys_sides_by_keys_In_1.of a0 {r} (h : F.keys_sides_by_keys_In_1.B V.keys_sides_by_keys_In_1.l11010 a0 = some r) : V.keys_sides_by_keys_In_1 a0 = some r :=
  App.to (App.step 0 (fun v => F.keys_sides_by_keys_In_1.eq (v 0) a0) (by unfold F.keys_sides_by_keys_In_1.B; repeat' first | exact App.val | exact App.no | exact App.lim | exact (App.enter 1 App.lim) | apply App.cond | apply App.guard | apply App.meet | apply App.ite | refine App.bind ?_ fun _ => ?_)) h
noncomputable def F.keys_In (K : Nat) (a0 : List TEdge) : Option ((List TEntry) × Int) := evFn Try.prog sg K 51 [.sc (.list sEdge a0 false)] []
noncomputable def F.keys_In.B (c0 : (List TEdge) → Option ((List TEntry) × Int)) (a0 : List TEdge) : Option ((List TEntry) × Int) :=
    ((c0 a0).bind fun t0 => (some (t0.1, t0.2)))
theorem F.keys_In.eq K a0 : F.keys_In (K + 1) a0 = F.keys_In.B (F.keys_sides_by_keys_In_1 K) a0 := by kernel_rfl
noncomputable def V.keys_In (a0 : List TEdge) := lim fun v => F.keys_In (v 0) a0
theorem V.keys_In.of a0 {r} (h : F.keys_In.B V.keys_sides_by_keys_In_1 a0 = some r) : V.keys_In a0 = some r :=
  App.to (App.step 0 (fun v => F.keys_In.eq (v 0) a0) (by unfold F.keys_In.B; repeat' first | exact App.val | exact App.no | exact App.lim | apply App.cond | apply App.guard | apply App.meet | apply App.ite | refine App.bind ?_ fun _ => ?_)) h
noncomputable def F.keys_Lay (K : Nat) (a0 : TGraph) : Option (((List TEntry) × ((List TEntry) × ((List TEntry) × (List TEntry)))) × Int) := evFn Try.prog sg K 45 [.agg [.list sNode a0.1 false, .list sEdge a0.2 false]] []
noncomputable def F.keys_Lay.B (c0 : (List TNode) → Option ((List TEntry) × Int)) (c1 : (List TEdge) → Option ((List TEntry) × Int)) (c2 : (List TEdge) → Option ((List TEntry) × Int)) (c3 : (List TEdge) → Option ((List TEntry) × Int)) (a0 : TGraph) : Option (((List TEntry) × ((List TEntry) × ((List TEntry) × (List TEntry)))) × Int) :=
    ((c0 a0.1).bind fun t0 => (bif (t0.2 != 0) then (some (([], [], [], []), t0.2)) else ((c1 a0.2).bind fun t1 => (bif (t1.2 != 0) then (some (([], [], [], []), t1.2)) else ((c2 a0.2).bind fun t2 => ((c3 a0.2).bind fun t3 => (some ((t0.1, t1.1, t2.1, t3.1), 0))))))))
theorem F.keys_Lay.eq K a0 : F.keys_Lay (K + 1) a0 = F.keys_Lay.B (F.keys_Nodes K) (F.keys_Edges K) (F.keys_Out K) (F.keys_In K) a0 := by kernel_rfl
noncomputable def V.keys_Lay (a0 : TGraph) := lim fun v => F.keys_Lay (v 0) a0
theorem V.keys_Lay.of a0 {r} (h : F.keys_Lay.B V.keys_Nodes V.keys_Edges V.keys_Out V.keys_In a0 = some r) : V.keys_Lay a0 = some r :=
  App.to (App.step 0 (fun v => F.keys_Lay.eq (v 0) a0) (by unfold F.keys_Lay.B; repeat' first | exact App.val | exact App.no | exact App.lim | apply App.cond | apply App.guard | apply App.meet | apply App.ite | refine App.bind ?_ fun _ => ?_)) h
noncomputable def F.pleachref05_Is (K : Nat) (a0 : ByteArray) : Option (Bool) := evFn Try.prog sg K 71 [.sc (.val (.string a0))] []
noncomputable def F.pleachref05_Is.at (K : Nat) (p ns : List Nat) (s : St) : Option (Bool) := atFn Try.prog sg K 71 0 p ns s
noncomputable def F.pleachref05_Is.in (K : Nat) (H : List Nat → List Nat → St → Option (Bool)) (p ns : List Nat) (s : St) : Option (Bool) := inFn Try.prog sg K 71 0 [] H p ns s
theorem F.pleachref05_Is.in_eq K p ns s : F.pleachref05_Is.at K p ns s = F.pleachref05_Is.in K (F.pleachref05_Is.at K) p ns s := atFn_eq (P := Try.prog) (sg := sg) (K := K) (f := 71) (m := 0) [] p ns s
theorem F.pleachref05_Is.in_main K a0 : F.pleachref05_Is (K + 1) a0 = F.pleachref05_Is.in K (F.pleachref05_Is.at K) [] [] ⟨slots [.sc (.val (.string a0))] 0, []⟩ := evFn_eq (P := Try.prog) (sg := sg) (K := K) (f := 71) (args := [.sc (.val (.string a0))]) (σ := []) [] (by kernel_rfl)
def F.pleachref05_Is.l1010.st (a0 : ByteArray) (x0 : Int) : St := ⟨[(0, vS a0), (3, vI x0)], []⟩
noncomputable def F.pleachref05_Is.l1010 (K n0 : Nat) (a0 : ByteArray) (x0 : Int) := F.pleachref05_Is.at K [1, 0, 1, 0] [n0] (F.pleachref05_Is.l1010.st a0 x0)
noncomputable def F.pleachref05_Is.l1010.B (c0 : (ByteArray) → (Int) → Option (Bool)) (a0 : ByteArray) (x0 : Int) : Option (Bool) :=
    (bif (decide (x0 < (a0.size : Int))) then (guardK (decide (0 ≤ x0) && decide (x0 < (a0.size : Int))) (bif (decide ((byteAt a0 x0) ≥ 97)) then (guardK (decide (0 ≤ x0) && decide (x0 < (a0.size : Int))) (guardK (decide (0 ≤ x0) && decide (x0 < (a0.size : Int))) (bif (decide ((byteAt a0 x0) ≥ 48)) then (guardK (decide (0 ≤ x0) && decide (x0 < (a0.size : Int))) (bif (!(decide ((byteAt a0 x0) ≤ 122))) then (bif (!(decide ((byteAt a0 x0) ≤ 57))) then (guardK (decide (0 ≤ x0) && decide (x0 < (a0.size : Int))) (bif ((byteAt a0 x0) != 45) then (some false) else (c0 a0 (w64 (x0 + 1))))) else (c0 a0 (w64 (x0 + 1)))) else (c0 a0 (w64 (x0 + 1))))) else (bif (!(decide ((byteAt a0 x0) ≤ 122))) then (guardK (decide (0 ≤ x0) && decide (x0 < (a0.size : Int))) (bif ((byteAt a0 x0) != 45) then (some false) else (c0 a0 (w64 (x0 + 1))))) else (c0 a0 (w64 (x0 + 1))))))) else (guardK (decide (0 ≤ x0) && decide (x0 < (a0.size : Int))) (bif (decide ((byteAt a0 x0) ≥ 48)) then (guardK (decide (0 ≤ x0) && decide (x0 < (a0.size : Int))) (bif (!(decide ((byteAt a0 x0) ≤ 57))) then (guardK (decide (0 ≤ x0) && decide (x0 < (a0.size : Int))) (bif ((byteAt a0 x0) != 45) then (some false) else (c0 a0 (w64 (x0 + 1))))) else (c0 a0 (w64 (x0 + 1))))) else (guardK (decide (0 ≤ x0) && decide (x0 < (a0.size : Int))) (bif ((byteAt a0 x0) != 45) then (some false) else (c0 a0 (w64 (x0 + 1))))))))) else (bif (decide ((a0.size : Int) ≥ 1)) then (some (decide ((a0.size : Int) ≤ 12))) else (some false)))
theorem F.pleachref05_Is.l1010.eq K n0 a0 x0 : F.pleachref05_Is.l1010 K (n0 + 1) a0 x0 = F.pleachref05_Is.l1010.B (F.pleachref05_Is.l1010 K n0) a0 x0 := (F.pleachref05_Is.in_eq K [1, 0, 1, 0] [n0 + 1] (F.pleachref05_Is.l1010.st a0 x0)).trans ((show ∀ H, F.pleachref05_Is.in K H [1, 0, 1, 0] [n0 + 1] (F.pleachref05_Is.l1010.st a0 x0) = F.pleachref05_Is.l1010.B (fun a0 x0 => H [1, 0, 1, 0] [n0] (F.pleachref05_Is.l1010.st a0 x0)) a0 x0 from by intro H; kernel_rfl) (F.pleachref05_Is.at K))
noncomputable def F.pleachref05_Is.B (c0 : (ByteArray) → (Int) → Option (Bool)) (a0 : ByteArray) : Option (Bool) :=
    (c0 a0 0)
theorem F.pleachref05_Is.eq K a0 : F.pleachref05_Is (K + 1) a0 = F.pleachref05_Is.B (F.pleachref05_Is.l1010 K K) a0 := (F.pleachref05_Is.in_main K a0).trans ((show ∀ H, F.pleachref05_Is.in K H [] [] ⟨slots [.sc (.val (.string a0))] 0, []⟩ = F.pleachref05_Is.B (fun a0 x0 => H [1, 0, 1, 0] [K] (F.pleachref05_Is.l1010.st a0 x0)) a0 from by intro H; kernel_rfl) (F.pleachref05_Is.at K))
noncomputable def V.pleachref05_Is.l1010 (a0 : ByteArray) (x0 : Int) := lim fun v => F.pleachref05_Is.l1010 (v 0) (v 1) a0 x0
noncomputable def V.pleachref05_Is (a0 : ByteArray) := lim fun v => F.pleachref05_Is (v 0) a0
theorem V.pleachref05_Is.l1010.of a0 x0 {r} (h : F.pleachref05_Is.l1010.B V.pleachref05_Is.l1010 a0 x0 = some r) : V.pleachref05_Is.l1010 a0 x0 = some r :=
  App.to (App.step 1 (fun v => F.pleachref05_Is.l1010.eq (v 0) (v 1) a0 x0) (by unfold F.pleachref05_Is.l1010.B; repeat' first | exact App.val | exact App.no | exact App.lim | apply App.cond | apply App.guard | apply App.meet | apply App.ite | refine App.bind ?_ fun _ => ?_)) h
theorem V.pleachref05_Is.of a0 {r} (h : F.pleachref05_Is.B V.pleachref05_Is.l1010 a0 = some r) : V.pleachref05_Is a0 = some r :=
  App.to (App.step 0 (fun v => F.pleachref05_Is.eq (v 0) a0) (by unfold F.pleachref05_Is.B; repeat' first | exact App.val | exact App.no | exact App.lim | exact (App.enter 1 App.lim) | apply App.cond | apply App.guard | apply App.meet | apply App.ite | refine App.bind ?_ fun _ => ?_)) h
noncomputable def F.pleachref05_Row (K : Nat) (a0 : List ByteArray) : Option (Int) := evFn Try.prog sg K 155 [.sc (.list .str a0 false)] []
noncomputable def F.pleachref05_Row.at (K : Nat) (p ns : List Nat) (s : St) : Option (Int) := atFn Try.prog sg K 155 0 p ns s
noncomputable def F.pleachref05_Row.in (K : Nat) (H : List Nat → List Nat → St → Option (Int)) (p ns : List Nat) (s : St) : Option (Int) := inFn Try.prog sg K 155 0 [] H p ns s
theorem F.pleachref05_Row.in_eq K p ns s : F.pleachref05_Row.at K p ns s = F.pleachref05_Row.in K (F.pleachref05_Row.at K) p ns s := atFn_eq (P := Try.prog) (sg := sg) (K := K) (f := 155) (m := 0) [] p ns s
theorem F.pleachref05_Row.in_main K a0 : F.pleachref05_Row (K + 1) a0 = F.pleachref05_Row.in K (F.pleachref05_Row.at K) [] [] ⟨slots [.sc (.list .str a0 false)] 0, []⟩ := evFn_eq (P := Try.prog) (sg := sg) (K := K) (f := 155) (args := [.sc (.list .str a0 false)]) (σ := []) [] (by kernel_rfl)
def F.pleachref05_Row.l1010.st (a0 : List ByteArray) (x0 : Int) : St := ⟨[(0, vL .str a0), (3, vI x0)], []⟩
noncomputable def F.pleachref05_Row.l1010 (K n0 : Nat) (a0 : List ByteArray) (x0 : Int) := F.pleachref05_Row.at K [1, 0, 1, 0] [n0] (F.pleachref05_Row.l1010.st a0 x0)
noncomputable def F.pleachref05_Row.l1010.B (c0 : (ByteArray) → Option (Bool)) (c1 : (List ByteArray) → (Int) → Option (Int)) (a0 : List ByteArray) (x0 : Int) : Option (Int) :=
    (bif (decide (x0 < (a0.length : Int))) then (guardK (decide (0 ≤ x0) && decide (x0 < (a0.length : Int))) ((c0 (rd .str a0 x0.toNat)).bind fun t0 => (bif (!t0) then (some 2) else (bif (decide (x0 > 0)) then (guardK (decide (0 ≤ x0) && decide (x0 < (a0.length : Int))) (guardK (decide (0 ≤ (w64 (x0 - 1))) && decide ((w64 (x0 - 1)) < (a0.length : Int))) (bif (strLt (rd .str a0 x0.toNat) (rd .str a0 ((w64 (x0 - 1)).toNat)) || strEq (rd .str a0 x0.toNat) (rd .str a0 ((w64 (x0 - 1)).toNat))) then (some 4) else (c1 a0 (w64 (x0 + 1)))))) else (c1 a0 (w64 (x0 + 1))))))) else (some 0))
theorem F.pleachref05_Row.l1010.eq K n0 a0 x0 : F.pleachref05_Row.l1010 K (n0 + 1) a0 x0 = F.pleachref05_Row.l1010.B (F.pleachref05_Is K) (F.pleachref05_Row.l1010 K n0) a0 x0 := (F.pleachref05_Row.in_eq K [1, 0, 1, 0] [n0 + 1] (F.pleachref05_Row.l1010.st a0 x0)).trans ((show ∀ H, F.pleachref05_Row.in K H [1, 0, 1, 0] [n0 + 1] (F.pleachref05_Row.l1010.st a0 x0) = F.pleachref05_Row.l1010.B (F.pleachref05_Is K) (fun a0 x0 => H [1, 0, 1, 0] [n0] (F.pleachref05_Row.l1010.st a0 x0)) a0 x0 from by intro H; kernel_rfl) (F.pleachref05_Row.at K))
noncomputable def F.pleachref05_Row.B (c0 : (List ByteArray) → (Int) → Option (Int)) (a0 : List ByteArray) : Option (Int) :=
    (c0 a0 0)
theorem F.pleachref05_Row.eq K a0 : F.pleachref05_Row (K + 1) a0 = F.pleachref05_Row.B (F.pleachref05_Row.l1010 K K) a0 := (F.pleachref05_Row.in_main K a0).trans ((show ∀ H, F.pleachref05_Row.in K H [] [] ⟨slots [.sc (.list .str a0 false)] 0, []⟩ = F.pleachref05_Row.B (fun a0 x0 => H [1, 0, 1, 0] [K] (F.pleachref05_Row.l1010.st a0 x0)) a0 from by intro H; kernel_rfl) (F.pleachref05_Row.at K))
noncomputable def V.pleachref05_Row.l1010 (a0 : List ByteArray) (x0 : Int) := lim fun v => F.pleachref05_Row.l1010 (v 0) (v 1) a0 x0
noncomputable def V.pleachref05_Row (a0 : List ByteArray) := lim fun v => F.pleachref05_Row (v 0) a0
theorem V.pleachref05_Row.l1010.of a0 x0 {r} (h : F.pleachref05_Row.l1010.B V.pleachref05_Is V.pleachref05_Row.l1010 a0 x0 = some r) : V.pleachref05_Row.l1010 a0 x0 = some r :=
  App.to (App.step 1 (fun v => F.pleachref05_Row.l1010.eq (v 0) (v 1) a0 x0) (by unfold F.pleachref05_Row.l1010.B; repeat' first | exact App.val | exact App.no | exact App.lim | apply App.cond | apply App.guard | apply App.meet | apply App.ite | refine App.bind ?_ fun _ => ?_)) h
theorem V.pleachref05_Row.of a0 {r} (h : F.pleachref05_Row.B V.pleachref05_Row.l1010 a0 = some r) : V.pleachref05_Row a0 = some r :=
  App.to (App.step 0 (fun v => F.pleachref05_Row.eq (v 0) a0) (by unfold F.pleachref05_Row.B; repeat' first | exact App.val | exact App.no | exact App.lim | exact (App.enter 1 App.lim) | apply App.cond | apply App.guard | apply App.meet | apply App.ite | refine App.bind ?_ fun _ => ?_)) h
noncomputable def F.pleachref06_Is (K : Nat) (a0 : TValue) : Option (Bool) := evFn Try.prog sg K 72 [.agg [.val (.int .i64 a0.1), .val (.int .i64 a0.2.1), .val (.string a0.2.2)]] []
noncomputable def F.pleachref06_Is.B (a0 : TValue) : Option (Bool) :=
    (bif (a0.1 == 1) then (bif (decide (a0.2.1 ≥ 0)) then (bif (decide (a0.2.1 ≤ 1)) then (some (strEq a0.2.2 (⟨#[]⟩ : ByteArray))) else (some false)) else (some false)) else (bif (a0.1 == 2) then (some (strEq a0.2.2 (⟨#[]⟩ : ByteArray))) else (bif (a0.1 == 3) then (bif (a0.2.1 == 0) then (some (decide ((a0.2.2.size : Int) ≤ 64))) else (some false)) else (some false))))
theorem F.pleachref06_Is.eq K a0 : F.pleachref06_Is (K + 1) a0 = F.pleachref06_Is.B a0 := by kernel_rfl
noncomputable def V.pleachref06_Is (a0 : TValue) := lim fun v => F.pleachref06_Is (v 0) a0
theorem V.pleachref06_Is.of a0 {r} (h : F.pleachref06_Is.B a0 = some r) : V.pleachref06_Is a0 = some r :=
  App.to (App.step 0 (fun v => F.pleachref06_Is.eq (v 0) a0) (by unfold F.pleachref06_Is.B; repeat' first | exact App.val | exact App.no | exact App.lim | apply App.cond | apply App.guard | apply App.meet | apply App.ite | refine App.bind ?_ fun _ => ?_)) h
noncomputable def F.pleachref25_Props (K : Nat) (a0 : List TProp) : Option (Int) := evFn Try.prog sg K 156 [.sc (.list sProp a0 false)] []
noncomputable def F.pleachref25_Props.at (K : Nat) (p ns : List Nat) (s : St) : Option (Int) := atFn Try.prog sg K 156 0 p ns s
noncomputable def F.pleachref25_Props.in (K : Nat) (H : List Nat → List Nat → St → Option (Int)) (p ns : List Nat) (s : St) : Option (Int) := inFn Try.prog sg K 156 0 [] H p ns s
theorem F.pleachref25_Props.in_eq K p ns s : F.pleachref25_Props.at K p ns s = F.pleachref25_Props.in K (F.pleachref25_Props.at K) p ns s := atFn_eq (P := Try.prog) (sg := sg) (K := K) (f := 156) (m := 0) [] p ns s
theorem F.pleachref25_Props.in_main K a0 : F.pleachref25_Props (K + 1) a0 = F.pleachref25_Props.in K (F.pleachref25_Props.at K) [] [] ⟨slots [.sc (.list sProp a0 false)] 0, []⟩ := evFn_eq (P := Try.prog) (sg := sg) (K := K) (f := 156) (args := [.sc (.list sProp a0 false)]) (σ := []) [] (by kernel_rfl)
def F.pleachref25_Props.l11010.st (a0 : List TProp) (x0 : Int) : St := ⟨[(0, vL sProp a0), (3, vI x0)], []⟩
noncomputable def F.pleachref25_Props.l11010 (K n0 : Nat) (a0 : List TProp) (x0 : Int) := F.pleachref25_Props.at K [1, 1, 0, 1, 0] [n0] (F.pleachref25_Props.l11010.st a0 x0)
noncomputable def F.pleachref25_Props.l11010.B (c0 : (ByteArray) → Option (Bool)) (c1 : (TValue) → Option (Bool)) (c2 : (List TProp) → (Int) → Option (Int)) (a0 : List TProp) (x0 : Int) : Option (Int) :=
    (bif (decide (x0 < (a0.length : Int))) then (guardK (decide (0 ≤ x0) && decide (x0 < (a0.length : Int))) ((c0 ((rd sProp a0 x0.toNat).1)).bind fun t0 => (bif (!t0) then (some 2) else (guardK (decide (0 ≤ x0) && decide (x0 < (a0.length : Int))) ((c1 (((rd sProp a0 x0.toNat).2).1, (((rd sProp a0 x0.toNat).2).2).1, (((rd sProp a0 x0.toNat).2).2).2)).bind fun t1 => (bif (!t1) then (some 2) else (bif (decide (x0 > 0)) then (guardK (decide (0 ≤ x0) && decide (x0 < (a0.length : Int))) (guardK (decide (0 ≤ (w64 (x0 - 1))) && decide ((w64 (x0 - 1)) < (a0.length : Int))) (bif (strLt ((rd sProp a0 x0.toNat).1) ((rd sProp a0 ((w64 (x0 - 1)).toNat)).1) || strEq ((rd sProp a0 x0.toNat).1) ((rd sProp a0 ((w64 (x0 - 1)).toNat)).1)) then (some 4) else (c2 a0 (w64 (x0 + 1)))))) else (c2 a0 (w64 (x0 + 1)))))))))) else (some 0))
theorem F.pleachref25_Props.l11010.eq K n0 a0 x0 : F.pleachref25_Props.l11010 K (n0 + 1) a0 x0 = F.pleachref25_Props.l11010.B (F.pleachref05_Is K) (F.pleachref06_Is K) (F.pleachref25_Props.l11010 K n0) a0 x0 := (F.pleachref25_Props.in_eq K [1, 1, 0, 1, 0] [n0 + 1] (F.pleachref25_Props.l11010.st a0 x0)).trans ((show ∀ H, F.pleachref25_Props.in K H [1, 1, 0, 1, 0] [n0 + 1] (F.pleachref25_Props.l11010.st a0 x0) = F.pleachref25_Props.l11010.B (F.pleachref05_Is K) (F.pleachref06_Is K) (fun a0 x0 => H [1, 1, 0, 1, 0] [n0] (F.pleachref25_Props.l11010.st a0 x0)) a0 x0 from by intro H; kernel_rfl) (F.pleachref25_Props.at K))
noncomputable def F.pleachref25_Props.B (c0 : (List TProp) → (Int) → Option (Int)) (a0 : List TProp) : Option (Int) :=
    (bif (decide ((a0.length : Int) > 8)) then (some 5) else (c0 a0 0))
theorem F.pleachref25_Props.eq K a0 : F.pleachref25_Props (K + 1) a0 = F.pleachref25_Props.B (F.pleachref25_Props.l11010 K K) a0 := (F.pleachref25_Props.in_main K a0).trans ((show ∀ H, F.pleachref25_Props.in K H [] [] ⟨slots [.sc (.list sProp a0 false)] 0, []⟩ = F.pleachref25_Props.B (fun a0 x0 => H [1, 1, 0, 1, 0] [K] (F.pleachref25_Props.l11010.st a0 x0)) a0 from by intro H; kernel_rfl) (F.pleachref25_Props.at K))
noncomputable def V.pleachref25_Props.l11010 (a0 : List TProp) (x0 : Int) := lim fun v => F.pleachref25_Props.l11010 (v 0) (v 1) a0 x0
noncomputable def V.pleachref25_Props (a0 : List TProp) := lim fun v => F.pleachref25_Props (v 0) a0
theorem V.pleachref25_Props.l11010.of a0 x0 {r} (h : F.pleachref25_Props.l11010.B V.pleachref05_Is V.pleachref06_Is V.pleachref25_Props.l11010 a0 x0 = some r) : V.pleachref25_Props.l11010 a0 x0 = some r :=
  App.to (App.step 1 (fun v => F.pleachref25_Props.l11010.eq (v 0) (v 1) a0 x0) (by unfold F.pleachref25_Props.l11010.B; repeat' first | exact App.val | exact App.no | exact App.lim | apply App.cond | apply App.guard | apply App.meet | apply App.ite | refine App.bind ?_ fun _ => ?_)) h
theorem V.pleachref25_Props.of a0 {r} (h : F.pleachref25_Props.B V.pleachref25_Props.l11010 a0 = some r) : V.pleachref25_Props a0 = some r :=
  App.to (App.step 0 (fun v => F.pleachref25_Props.eq (v 0) a0) (by unfold F.pleachref25_Props.B; repeat' first | exact App.val | exact App.no | exact App.lim | exact (App.enter 1 App.lim) | apply App.cond | apply App.guard | apply App.meet | apply App.ite | refine App.bind ?_ fun _ => ?_)) h
noncomputable def F.pleachref25_rest (K : Nat) (a0 : List ByteArray) (a1 : List TProp) : Option (Int) := evFn Try.prog sg K 119 [.sc (.list .str a0 false), .sc (.list sProp a1 false)] []
noncomputable def F.pleachref25_rest.B (c0 : (List ByteArray) → Option (Int)) (c1 : (List TProp) → Option (Int)) (a0 : List ByteArray) (a1 : List TProp) : Option (Int) :=
    (bif (decide ((a0.length : Int) > 8)) then (some 5) else ((c0 a0).bind fun t0 => (bif (t0 != 0) then (some t0) else ((c1 a1).bind fun t1 => (some t1)))))
theorem F.pleachref25_rest.eq K a0 a1 : F.pleachref25_rest (K + 1) a0 a1 = F.pleachref25_rest.B (F.pleachref05_Row K) (F.pleachref25_Props K) a0 a1 := by kernel_rfl
noncomputable def V.pleachref25_rest (a0 : List ByteArray) (a1 : List TProp) := lim fun v => F.pleachref25_rest (v 0) a0 a1
theorem V.pleachref25_rest.of a0 a1 {r} (h : F.pleachref25_rest.B V.pleachref05_Row V.pleachref25_Props a0 a1 = some r) : V.pleachref25_rest a0 a1 = some r :=
  App.to (App.step 0 (fun v => F.pleachref25_rest.eq (v 0) a0 a1) (by unfold F.pleachref25_rest.B; repeat' first | exact App.val | exact App.no | exact App.lim | apply App.cond | apply App.guard | apply App.meet | apply App.ite | refine App.bind ?_ fun _ => ?_)) h
noncomputable def F.pleachref25_Node (K : Nat) (a0 : TNode) : Option (Int) := evFn Try.prog sg K 68 [.agg [.val (.string a0.1), .list .str a0.2.1 false, .list sProp a0.2.2 false]] []
noncomputable def F.pleachref25_Node.B (c0 : (ByteArray) → Option (Bool)) (c1 : (List ByteArray) → (List TProp) → Option (Int)) (a0 : TNode) : Option (Int) :=
    ((c0 a0.1).bind fun t0 => (bif (!t0) then (some 2) else ((c1 a0.2.1 a0.2.2).bind fun t1 => (some t1))))
theorem F.pleachref25_Node.eq K a0 : F.pleachref25_Node (K + 1) a0 = F.pleachref25_Node.B (F.pleachref05_Is K) (F.pleachref25_rest K) a0 := by kernel_rfl
noncomputable def V.pleachref25_Node (a0 : TNode) := lim fun v => F.pleachref25_Node (v 0) a0
theorem V.pleachref25_Node.of a0 {r} (h : F.pleachref25_Node.B V.pleachref05_Is V.pleachref25_rest a0 = some r) : V.pleachref25_Node a0 = some r :=
  App.to (App.step 0 (fun v => F.pleachref25_Node.eq (v 0) a0) (by unfold F.pleachref25_Node.B; repeat' first | exact App.val | exact App.no | exact App.lim | apply App.cond | apply App.guard | apply App.meet | apply App.ite | refine App.bind ?_ fun _ => ?_)) h
noncomputable def F.pleachref01_Digits (K : Nat) (a0 : Int) : Option ((List Int)) := evFn Try.prog sg K 152 [.sc (.val (.int .u64 a0))] []
noncomputable def F.pleachref01_Digits.at (K : Nat) (p ns : List Nat) (s : St) : Option ((List Int)) := atFn Try.prog sg K 152 0 p ns s
noncomputable def F.pleachref01_Digits.in (K : Nat) (H : List Nat → List Nat → St → Option ((List Int))) (p ns : List Nat) (s : St) : Option ((List Int)) := inFn Try.prog sg K 152 0 [] H p ns s
theorem F.pleachref01_Digits.in_eq K p ns s : F.pleachref01_Digits.at K p ns s = F.pleachref01_Digits.in K (F.pleachref01_Digits.at K) p ns s := atFn_eq (P := Try.prog) (sg := sg) (K := K) (f := 152) (m := 0) [] p ns s
theorem F.pleachref01_Digits.in_main K a0 : F.pleachref01_Digits (K + 1) a0 = F.pleachref01_Digits.in K (F.pleachref01_Digits.at K) [] [] ⟨slots [.sc (.val (.int .u64 a0))] 0, []⟩ := evFn_eq (P := Try.prog) (sg := sg) (K := K) (f := 152) (args := [.sc (.val (.int .u64 a0))]) (σ := []) [] (by kernel_rfl)
def F.pleachref01_Digits.l11100.st (a0 : Int) (x0 : Int) (x1 : List Int) : St := ⟨[(0, .one (.sc (.val (.int .u64 x0)))), (3, .one (.sc (.own 0 none)))], [.elems (.int .i64) x1]⟩
noncomputable def F.pleachref01_Digits.l11100 (K n0 : Nat) (a0 : Int) (x0 : Int) (x1 : List Int) := F.pleachref01_Digits.at K [1, 1, 1, 0, 0] [n0] (F.pleachref01_Digits.l11100.st a0 x0 x1)
noncomputable def F.pleachref01_Digits.l11100.B (c0 : (Int) → (Int) → (List Int) → Option ((List Int))) (a0 : Int) (x0 : Int) (x1 : List Int) : Option ((List Int)) :=
    (bif (decide (x0 > 0)) then (guardK (decide (x1.length + ([(w64 (Int.tmod x0 128))]).length ≤ nmax)) (c0 a0 (IntKind.wrap .u64 (Int.tdiv x0 128)) (x1 ++ [(w64 (Int.tmod x0 128))]))) else (some x1))
theorem F.pleachref01_Digits.l11100.eq K n0 a0 x0 x1 : F.pleachref01_Digits.l11100 K (n0 + 1) a0 x0 x1 = F.pleachref01_Digits.l11100.B (F.pleachref01_Digits.l11100 K n0) a0 x0 x1 := (F.pleachref01_Digits.in_eq K [1, 1, 1, 0, 0] [n0 + 1] (F.pleachref01_Digits.l11100.st a0 x0 x1)).trans ((show ∀ H, F.pleachref01_Digits.in K H [1, 1, 1, 0, 0] [n0 + 1] (F.pleachref01_Digits.l11100.st a0 x0 x1) = F.pleachref01_Digits.l11100.B (fun a0 x0 x1 => H [1, 1, 1, 0, 0] [n0] (F.pleachref01_Digits.l11100.st a0 x0 x1)) a0 x0 x1 from by intro H; kernel_rfl) (F.pleachref01_Digits.at K))
noncomputable def F.pleachref01_Digits.B (c0 : (Int) → (Int) → (List Int) → Option ((List Int))) (a0 : Int) : Option ((List Int)) :=
    (c0 a0 (IntKind.wrap .u64 (Int.tdiv a0 128)) ([(w64 (Int.tmod a0 128))]))
theorem F.pleachref01_Digits.eq K a0 : F.pleachref01_Digits (K + 1) a0 = F.pleachref01_Digits.B (F.pleachref01_Digits.l11100 K K) a0 := (F.pleachref01_Digits.in_main K a0).trans ((show ∀ H, F.pleachref01_Digits.in K H [] [] ⟨slots [.sc (.val (.int .u64 a0))] 0, []⟩ = F.pleachref01_Digits.B (fun a0 x0 x1 => H [1, 1, 1, 0, 0] [K] (F.pleachref01_Digits.l11100.st a0 x0 x1)) a0 from by intro H; kernel_rfl) (F.pleachref01_Digits.at K))
noncomputable def V.pleachref01_Digits.l11100 (a0 : Int) (x0 : Int) (x1 : List Int) := lim fun v => F.pleachref01_Digits.l11100 (v 0) (v 1) a0 x0 x1
noncomputable def V.pleachref01_Digits (a0 : Int) := lim fun v => F.pleachref01_Digits (v 0) a0
theorem V.pleachref01_Digits.l11100.of a0 x0 x1 {r} (h : F.pleachref01_Digits.l11100.B V.pleachref01_Digits.l11100 a0 x0 x1 = some r) : V.pleachref01_Digits.l11100 a0 x0 x1 = some r :=
  App.to (App.step 1 (fun v => F.pleachref01_Digits.l11100.eq (v 0) (v 1) a0 x0 x1) (by unfold F.pleachref01_Digits.l11100.B; repeat' first | exact App.val | exact App.no | exact App.lim | apply App.cond | apply App.guard | apply App.meet | apply App.ite | refine App.bind ?_ fun _ => ?_)) h
theorem V.pleachref01_Digits.of a0 {r} (h : F.pleachref01_Digits.B V.pleachref01_Digits.l11100 a0 = some r) : V.pleachref01_Digits a0 = some r :=
  App.to (App.step 0 (fun v => F.pleachref01_Digits.eq (v 0) a0) (by unfold F.pleachref01_Digits.B; repeat' first | exact App.val | exact App.no | exact App.lim | exact (App.enter 1 App.lim) | apply App.cond | apply App.guard | apply App.meet | apply App.ite | refine App.bind ?_ fun _ => ?_)) h
noncomputable def F.pleachref01_Put (K : Nat) (a0 : Int) : Option (ByteArray) := evFn Try.prog sg K 113 [.sc (.val (.int .u64 a0))] []
noncomputable def F.pleachref01_Put.at (K : Nat) (p ns : List Nat) (s : St) : Option (ByteArray) := atFn Try.prog sg K 113 0 p ns s
noncomputable def F.pleachref01_Put.in (K : Nat) (H : List Nat → List Nat → St → Option (ByteArray)) (p ns : List Nat) (s : St) : Option (ByteArray) := inFn Try.prog sg K 113 0 [] H p ns s
theorem F.pleachref01_Put.in_eq K p ns s : F.pleachref01_Put.at K p ns s = F.pleachref01_Put.in K (F.pleachref01_Put.at K) p ns s := atFn_eq (P := Try.prog) (sg := sg) (K := K) (f := 113) (m := 0) [] p ns s
theorem F.pleachref01_Put.in_main K a0 : F.pleachref01_Put (K + 1) a0 = F.pleachref01_Put.in K (F.pleachref01_Put.at K) [] [] ⟨slots [.sc (.val (.int .u64 a0))] 0, []⟩ := evFn_eq (P := Try.prog) (sg := sg) (K := K) (f := 113) (args := [.sc (.val (.int .u64 a0))]) (σ := []) [] (by kernel_rfl)
def F.pleachref01_Put.l111010.st (a0 : Int) (x0 : ByteArray) (x1 : Int) (x2 : List Int) : St := ⟨[(3, .one (.sc (.own 0 none))), (4, vS x0), (5, vI x1)], [.elems (.int .i64) x2]⟩
noncomputable def F.pleachref01_Put.l111010 (K n0 : Nat) (a0 : Int) (x0 : ByteArray) (x1 : Int) (x2 : List Int) := F.pleachref01_Put.at K [1, 1, 1, 0, 1, 0] [n0] (F.pleachref01_Put.l111010.st a0 x0 x1 x2)
noncomputable def F.pleachref01_Put.l111010.B (c0 : (Int) → (ByteArray) → (Int) → (List Int) → Option (ByteArray)) (a0 : Int) (x0 : ByteArray) (x1 : Int) (x2 : List Int) : Option (ByteArray) :=
    (bif (decide (x1 < (x2.length : Int))) then (guardK (decide (0 ≤ x1) && decide (x1 < (x2.length : Int))) (bif (decide ((w64 (x1 + 1)) < (x2.length : Int))) then (guardK (decide (x0.size + (bytesOf ([(IntKind.wrap .u8 (w64 ((rd (.int .i64) x2 x1.toNat) + 128)))])).size ≤ i64max)) (c0 a0 (x0 ++ (bytesOf ([(IntKind.wrap .u8 (w64 ((rd (.int .i64) x2 x1.toNat) + 128)))]))) (w64 (x1 + 1)) x2)) else (guardK (decide (x0.size + (bytesOf ([(IntKind.wrap .u8 (rd (.int .i64) x2 x1.toNat))])).size ≤ i64max)) (c0 a0 (x0 ++ (bytesOf ([(IntKind.wrap .u8 (rd (.int .i64) x2 x1.toNat))]))) (w64 (x1 + 1)) x2)))) else (some x0))
theorem F.pleachref01_Put.l111010.eq K n0 a0 x0 x1 x2 : F.pleachref01_Put.l111010 K (n0 + 1) a0 x0 x1 x2 = F.pleachref01_Put.l111010.B (F.pleachref01_Put.l111010 K n0) a0 x0 x1 x2 := (F.pleachref01_Put.in_eq K [1, 1, 1, 0, 1, 0] [n0 + 1] (F.pleachref01_Put.l111010.st a0 x0 x1 x2)).trans ((show ∀ H, F.pleachref01_Put.in K H [1, 1, 1, 0, 1, 0] [n0 + 1] (F.pleachref01_Put.l111010.st a0 x0 x1 x2) = F.pleachref01_Put.l111010.B (fun a0 x0 x1 x2 => H [1, 1, 1, 0, 1, 0] [n0] (F.pleachref01_Put.l111010.st a0 x0 x1 x2)) a0 x0 x1 x2 from by intro H; kernel_rfl) (F.pleachref01_Put.at K))
noncomputable def F.pleachref01_Put.B (c0 : (Int) → Option ((List Int))) (c1 : (Int) → (ByteArray) → (Int) → (List Int) → Option (ByteArray)) (a0 : Int) : Option (ByteArray) :=
    ((c0 a0).bind fun t0 => (c1 a0 (⟨#[]⟩ : ByteArray) 0 t0))
theorem F.pleachref01_Put.eq K a0 : F.pleachref01_Put (K + 1) a0 = F.pleachref01_Put.B (F.pleachref01_Digits K) (F.pleachref01_Put.l111010 K K) a0 := (F.pleachref01_Put.in_main K a0).trans ((show ∀ H, F.pleachref01_Put.in K H [] [] ⟨slots [.sc (.val (.int .u64 a0))] 0, []⟩ = F.pleachref01_Put.B (F.pleachref01_Digits K) (fun a0 x0 x1 x2 => H [1, 1, 1, 0, 1, 0] [K] (F.pleachref01_Put.l111010.st a0 x0 x1 x2)) a0 from by intro H; kernel_rfl) (F.pleachref01_Put.at K))
noncomputable def V.pleachref01_Put.l111010 (a0 : Int) (x0 : ByteArray) (x1 : Int) (x2 : List Int) := lim fun v => F.pleachref01_Put.l111010 (v 0) (v 1) a0 x0 x1 x2
noncomputable def V.pleachref01_Put (a0 : Int) := lim fun v => F.pleachref01_Put (v 0) a0
theorem V.pleachref01_Put.l111010.of a0 x0 x1 x2 {r} (h : F.pleachref01_Put.l111010.B V.pleachref01_Put.l111010 a0 x0 x1 x2 = some r) : V.pleachref01_Put.l111010 a0 x0 x1 x2 = some r :=
  App.to (App.step 1 (fun v => F.pleachref01_Put.l111010.eq (v 0) (v 1) a0 x0 x1 x2) (by unfold F.pleachref01_Put.l111010.B; repeat' first | exact App.val | exact App.no | exact App.lim | apply App.cond | apply App.guard | apply App.meet | apply App.ite | refine App.bind ?_ fun _ => ?_)) h
theorem V.pleachref01_Put.of a0 {r} (h : F.pleachref01_Put.B V.pleachref01_Digits V.pleachref01_Put.l111010 a0 = some r) : V.pleachref01_Put a0 = some r :=
  App.to (App.step 0 (fun v => F.pleachref01_Put.eq (v 0) a0) (by unfold F.pleachref01_Put.B; repeat' first | exact App.val | exact App.no | exact App.lim | exact (App.enter 1 App.lim) | apply App.cond | apply App.guard | apply App.meet | apply App.ite | refine App.bind ?_ fun _ => ?_)) h
noncomputable def F.pleachref04_PutNum (K : Nat) (a0 : Int) : Option (ByteArray) := evFn Try.prog sg K 176 [.sc (.val (.int .i64 a0))] []
noncomputable def F.pleachref04_PutNum.B (c0 : (Int) → Option (ByteArray)) (a0 : Int) : Option (ByteArray) :=
    (bif (decide (a0 < 0)) then ((c0 0).bind fun t0 => (some t0)) else ((c0 (IntKind.wrap .u64 a0)).bind fun t1 => (some t1)))
theorem F.pleachref04_PutNum.eq K a0 : F.pleachref04_PutNum (K + 1) a0 = F.pleachref04_PutNum.B (F.pleachref01_Put K) a0 := by kernel_rfl
noncomputable def V.pleachref04_PutNum (a0 : Int) := lim fun v => F.pleachref04_PutNum (v 0) a0
theorem V.pleachref04_PutNum.of a0 {r} (h : F.pleachref04_PutNum.B V.pleachref01_Put a0 = some r) : V.pleachref04_PutNum a0 = some r :=
  App.to (App.step 0 (fun v => F.pleachref04_PutNum.eq (v 0) a0) (by unfold F.pleachref04_PutNum.B; repeat' first | exact App.val | exact App.no | exact App.lim | apply App.cond | apply App.guard | apply App.meet | apply App.ite | refine App.bind ?_ fun _ => ?_)) h
noncomputable def F.pleachref04_PutText (K : Nat) (a0 : ByteArray) : Option (ByteArray) := evFn Try.prog sg K 115 [.sc (.val (.string a0))] []
noncomputable def F.pleachref04_PutText.B (c0 : (Int) → Option (ByteArray)) (a0 : ByteArray) : Option (ByteArray) :=
    ((c0 (IntKind.wrap .u64 (a0.size : Int))).bind fun t0 => (guardK (decide (t0.size + a0.size ≤ i64max)) (some (t0 ++ a0))))
theorem F.pleachref04_PutText.eq K a0 : F.pleachref04_PutText (K + 1) a0 = F.pleachref04_PutText.B (F.pleachref01_Put K) a0 := by kernel_rfl
noncomputable def V.pleachref04_PutText (a0 : ByteArray) := lim fun v => F.pleachref04_PutText (v 0) a0
theorem V.pleachref04_PutText.of a0 {r} (h : F.pleachref04_PutText.B V.pleachref01_Put a0 = some r) : V.pleachref04_PutText a0 = some r :=
  App.to (App.step 0 (fun v => F.pleachref04_PutText.eq (v 0) a0) (by unfold F.pleachref04_PutText.B; repeat' first | exact App.val | exact App.no | exact App.lim | apply App.cond | apply App.guard | apply App.meet | apply App.ite | refine App.bind ?_ fun _ => ?_)) h
noncomputable def F.pleachref01_Zig (K : Nat) (a0 : Int) : Option (Int) := evFn Try.prog sg K 114 [.sc (.val (.int .i64 a0))] []
noncomputable def F.pleachref01_Zig.B (a0 : Int) : Option (Int) :=
    (bif (decide (a0 ≥ 0)) then (some (IntKind.wrap .u64 ((IntKind.wrap .u64 a0) * 2))) else (some (IntKind.wrap .u64 ((IntKind.wrap .u64 ((IntKind.wrap .u64 (w64 (0 - (w64 (a0 + 1))))) * 2)) + 1))))
theorem F.pleachref01_Zig.eq K a0 : F.pleachref01_Zig (K + 1) a0 = F.pleachref01_Zig.B a0 := by kernel_rfl
noncomputable def V.pleachref01_Zig (a0 : Int) := lim fun v => F.pleachref01_Zig (v 0) a0
theorem V.pleachref01_Zig.of a0 {r} (h : F.pleachref01_Zig.B a0 = some r) : V.pleachref01_Zig a0 = some r :=
  App.to (App.step 0 (fun v => F.pleachref01_Zig.eq (v 0) a0) (by unfold F.pleachref01_Zig.B; repeat' first | exact App.val | exact App.no | exact App.lim | apply App.cond | apply App.guard | apply App.meet | apply App.ite | refine App.bind ?_ fun _ => ?_)) h
noncomputable def F.pleachref06_Put (K : Nat) (a0 : TValue) : Option (ByteArray) := evFn Try.prog sg K 60 [.agg [.val (.int .i64 a0.1), .val (.int .i64 a0.2.1), .val (.string a0.2.2)]] []
noncomputable def F.pleachref06_Put.B (c0 : (TValue) → Option (Bool)) (c1 : (Int) → Option (Int)) (c2 : (Int) → Option (ByteArray)) (c3 : (ByteArray) → Option (ByteArray)) (a0 : TValue) : Option (ByteArray) :=
    ((c0 (a0.1, a0.2.1, a0.2.2)).bind fun t0 => (bif (!t0) then (some (⟨#[]⟩ : ByteArray)) else (bif (a0.1 == 1) then (some (bytesOf ([1, (IntKind.wrap .u8 a0.2.1)]))) else (bif (a0.1 == 2) then ((c1 a0.2.1).bind fun t1 => ((c2 t1).bind fun t2 => (guardK (decide ((⟨#[2]⟩ : ByteArray).size + t2.size ≤ i64max)) (some ((⟨#[2]⟩ : ByteArray) ++ t2))))) else ((c3 a0.2.2).bind fun t3 => (guardK (decide ((⟨#[3]⟩ : ByteArray).size + t3.size ≤ i64max)) (some ((⟨#[3]⟩ : ByteArray) ++ t3))))))))
theorem F.pleachref06_Put.eq K a0 : F.pleachref06_Put (K + 1) a0 = F.pleachref06_Put.B (F.pleachref06_Is K) (F.pleachref01_Zig K) (F.pleachref01_Put K) (F.pleachref04_PutText K) a0 := by kernel_rfl
noncomputable def V.pleachref06_Put (a0 : TValue) := lim fun v => F.pleachref06_Put (v 0) a0
theorem V.pleachref06_Put.of a0 {r} (h : F.pleachref06_Put.B V.pleachref06_Is V.pleachref01_Zig V.pleachref01_Put V.pleachref04_PutText a0 = some r) : V.pleachref06_Put a0 = some r :=
  App.to (App.step 0 (fun v => F.pleachref06_Put.eq (v 0) a0) (by unfold F.pleachref06_Put.B; repeat' first | exact App.val | exact App.no | exact App.lim | apply App.cond | apply App.guard | apply App.meet | apply App.ite | refine App.bind ?_ fun _ => ?_)) h
noncomputable def F.pleachref25_put (K : Nat) (a0 : List ByteArray) (a1 : List TProp) : Option (ByteArray) := evFn Try.prog sg K 139 [.sc (.list .str a0 false), .sc (.list sProp a1 false)] []
noncomputable def F.pleachref25_put.at (K : Nat) (p ns : List Nat) (s : St) : Option (ByteArray) := atFn Try.prog sg K 139 0 p ns s
noncomputable def F.pleachref25_put.in (K : Nat) (H : List Nat → List Nat → St → Option (ByteArray)) (p ns : List Nat) (s : St) : Option (ByteArray) := inFn Try.prog sg K 139 0 [] H p ns s
theorem F.pleachref25_put.in_eq K p ns s : F.pleachref25_put.at K p ns s = F.pleachref25_put.in K (F.pleachref25_put.at K) p ns s := atFn_eq (P := Try.prog) (sg := sg) (K := K) (f := 139) (m := 0) [] p ns s
theorem F.pleachref25_put.in_main K a0 a1 : F.pleachref25_put (K + 1) a0 a1 = F.pleachref25_put.in K (F.pleachref25_put.at K) [] [] ⟨slots [.sc (.list .str a0 false), .sc (.list sProp a1 false)] 0, []⟩ := evFn_eq (P := Try.prog) (sg := sg) (K := K) (f := 139) (args := [.sc (.list .str a0 false), .sc (.list sProp a1 false)]) (σ := []) [] (by kernel_rfl)
def F.pleachref25_put.l11010.st (a0 : List ByteArray) (a1 : List TProp) (x0 : ByteArray) (x1 : Int) : St := ⟨[(0, vL .str a0), (1, vL sProp a1), (5, vS x0), (6, vI x1)], []⟩
noncomputable def F.pleachref25_put.l11010 (K n0 : Nat) (a0 : List ByteArray) (a1 : List TProp) (x0 : ByteArray) (x1 : Int) := F.pleachref25_put.at K [1, 1, 0, 1, 0] [n0] (F.pleachref25_put.l11010.st a0 a1 x0 x1)
def F.pleachref25_put.l1111010.st (a0 : List ByteArray) (a1 : List TProp) (x0 : ByteArray) (x1 : Int) : St := ⟨[(1, vL sProp a1), (5, vS x0), (7, vI x1)], []⟩
noncomputable def F.pleachref25_put.l1111010 (K n0 : Nat) (a0 : List ByteArray) (a1 : List TProp) (x0 : ByteArray) (x1 : Int) := F.pleachref25_put.at K [1, 1, 1, 1, 0, 1, 0] [n0] (F.pleachref25_put.l1111010.st a0 a1 x0 x1)
noncomputable def F.pleachref25_put.l11010.B (c0 : (ByteArray) → Option (ByteArray)) (c1 : (List ByteArray) → (List TProp) → (ByteArray) → (Int) → Option (ByteArray)) (c2 : (Int) → Option (ByteArray)) (c3 : (List ByteArray) → (List TProp) → (ByteArray) → (Int) → Option (ByteArray)) (a0 : List ByteArray) (a1 : List TProp) (x0 : ByteArray) (x1 : Int) : Option (ByteArray) :=
    (bif (decide (x1 < (a0.length : Int))) then (guardK (decide (0 ≤ x1) && decide (x1 < (a0.length : Int))) ((c0 (rd .str a0 x1.toNat)).bind fun t1 => (guardK (decide (x0.size + t1.size ≤ i64max)) (c1 a0 a1 (x0 ++ t1) (w64 (x1 + 1)))))) else ((c2 (a1.length : Int)).bind fun t2 => (guardK (decide (x0.size + t2.size ≤ i64max)) (c3 a0 a1 (x0 ++ t2) 0))))
theorem F.pleachref25_put.l11010.eq K n0 a0 a1 x0 x1 : F.pleachref25_put.l11010 K (n0 + 1) a0 a1 x0 x1 = F.pleachref25_put.l11010.B (F.pleachref04_PutText K) (F.pleachref25_put.l11010 K n0) (F.pleachref04_PutNum K) (F.pleachref25_put.l1111010 K K) a0 a1 x0 x1 := (F.pleachref25_put.in_eq K [1, 1, 0, 1, 0] [n0 + 1] (F.pleachref25_put.l11010.st a0 a1 x0 x1)).trans ((show ∀ H, F.pleachref25_put.in K H [1, 1, 0, 1, 0] [n0 + 1] (F.pleachref25_put.l11010.st a0 a1 x0 x1) = F.pleachref25_put.l11010.B (F.pleachref04_PutText K) (fun a0 a1 x0 x1 => H [1, 1, 0, 1, 0] [n0] (F.pleachref25_put.l11010.st a0 a1 x0 x1)) (F.pleachref04_PutNum K) (fun a0 a1 x0 x1 => H [1, 1, 1, 1, 0, 1, 0] [K] (F.pleachref25_put.l1111010.st a0 a1 x0 x1)) a0 a1 x0 x1 from by intro H; kernel_rfl) (F.pleachref25_put.at K))
noncomputable def F.pleachref25_put.l1111010.B (c0 : (ByteArray) → Option (ByteArray)) (c1 : (TValue) → Option (ByteArray)) (c2 : (List ByteArray) → (List TProp) → (ByteArray) → (Int) → Option (ByteArray)) (a0 : List ByteArray) (a1 : List TProp) (x0 : ByteArray) (x1 : Int) : Option (ByteArray) :=
    (bif (decide (x1 < (a1.length : Int))) then (guardK (decide (0 ≤ x1) && decide (x1 < (a1.length : Int))) (guardK (decide (0 ≤ x1) && decide (x1 < (a1.length : Int))) ((c0 ((rd sProp a1 x1.toNat).1)).bind fun t3 => (guardK (decide (x0.size + t3.size ≤ i64max)) ((c1 (((rd sProp a1 x1.toNat).2).1, (((rd sProp a1 x1.toNat).2).2).1, (((rd sProp a1 x1.toNat).2).2).2)).bind fun t4 => (guardK (decide ((x0 ++ t3).size + t4.size ≤ i64max)) (c2 a0 a1 ((x0 ++ t3) ++ t4) (w64 (x1 + 1))))))))) else (some x0))
theorem F.pleachref25_put.l1111010.eq K n0 a0 a1 x0 x1 : F.pleachref25_put.l1111010 K (n0 + 1) a0 a1 x0 x1 = F.pleachref25_put.l1111010.B (F.pleachref04_PutText K) (F.pleachref06_Put K) (F.pleachref25_put.l1111010 K n0) a0 a1 x0 x1 := (F.pleachref25_put.in_eq K [1, 1, 1, 1, 0, 1, 0] [n0 + 1] (F.pleachref25_put.l1111010.st a0 a1 x0 x1)).trans ((show ∀ H, F.pleachref25_put.in K H [1, 1, 1, 1, 0, 1, 0] [n0 + 1] (F.pleachref25_put.l1111010.st a0 a1 x0 x1) = F.pleachref25_put.l1111010.B (F.pleachref04_PutText K) (F.pleachref06_Put K) (fun a0 a1 x0 x1 => H [1, 1, 1, 1, 0, 1, 0] [n0] (F.pleachref25_put.l1111010.st a0 a1 x0 x1)) a0 a1 x0 x1 from by intro H; kernel_rfl) (F.pleachref25_put.at K))
noncomputable def F.pleachref25_put.B (c0 : (Int) → Option (ByteArray)) (c1 : (List ByteArray) → (List TProp) → (ByteArray) → (Int) → Option (ByteArray)) (a0 : List ByteArray) (a1 : List TProp) : Option (ByteArray) :=
    ((c0 (a0.length : Int)).bind fun t0 => (c1 a0 a1 t0 0))
theorem F.pleachref25_put.eq K a0 a1 : F.pleachref25_put (K + 1) a0 a1 = F.pleachref25_put.B (F.pleachref04_PutNum K) (F.pleachref25_put.l11010 K K) a0 a1 := (F.pleachref25_put.in_main K a0 a1).trans ((show ∀ H, F.pleachref25_put.in K H [] [] ⟨slots [.sc (.list .str a0 false), .sc (.list sProp a1 false)] 0, []⟩ = F.pleachref25_put.B (F.pleachref04_PutNum K) (fun a0 a1 x0 x1 => H [1, 1, 0, 1, 0] [K] (F.pleachref25_put.l11010.st a0 a1 x0 x1)) a0 a1 from by intro H; kernel_rfl) (F.pleachref25_put.at K))
noncomputable def V.pleachref25_put.l11010 (a0 : List ByteArray) (a1 : List TProp) (x0 : ByteArray) (x1 : Int) := lim fun v => F.pleachref25_put.l11010 (v 0) (v 1) a0 a1 x0 x1
noncomputable def V.pleachref25_put.l1111010 (a0 : List ByteArray) (a1 : List TProp) (x0 : ByteArray) (x1 : Int) := lim fun v => F.pleachref25_put.l1111010 (v 0) (v 1) a0 a1 x0 x1
noncomputable def V.pleachref25_put (a0 : List ByteArray) (a1 : List TProp) := lim fun v => F.pleachref25_put (v 0) a0 a1
theorem V.pleachref25_put.l11010.of a0 a1 x0 x1 {r} (h : F.pleachref25_put.l11010.B V.pleachref04_PutText V.pleachref25_put.l11010 V.pleachref04_PutNum V.pleachref25_put.l1111010 a0 a1 x0 x1 = some r) : V.pleachref25_put.l11010 a0 a1 x0 x1 = some r :=
  App.to (App.step 1 (fun v => F.pleachref25_put.l11010.eq (v 0) (v 1) a0 a1 x0 x1) (by unfold F.pleachref25_put.l11010.B; repeat' first | exact App.val | exact App.no | exact App.lim | exact (App.enter 1 App.lim) | apply App.cond | apply App.guard | apply App.meet | apply App.ite | refine App.bind ?_ fun _ => ?_)) h
theorem V.pleachref25_put.l1111010.of a0 a1 x0 x1 {r} (h : F.pleachref25_put.l1111010.B V.pleachref04_PutText V.pleachref06_Put V.pleachref25_put.l1111010 a0 a1 x0 x1 = some r) : V.pleachref25_put.l1111010 a0 a1 x0 x1 = some r :=
  App.to (App.step 1 (fun v => F.pleachref25_put.l1111010.eq (v 0) (v 1) a0 a1 x0 x1) (by unfold F.pleachref25_put.l1111010.B; repeat' first | exact App.val | exact App.no | exact App.lim | apply App.cond | apply App.guard | apply App.meet | apply App.ite | refine App.bind ?_ fun _ => ?_)) h
theorem V.pleachref25_put.of a0 a1 {r} (h : F.pleachref25_put.B V.pleachref04_PutNum V.pleachref25_put.l11010 a0 a1 = some r) : V.pleachref25_put a0 a1 = some r :=
  App.to (App.step 0 (fun v => F.pleachref25_put.eq (v 0) a0 a1) (by unfold F.pleachref25_put.B; repeat' first | exact App.val | exact App.no | exact App.lim | exact (App.enter 1 App.lim) | apply App.cond | apply App.guard | apply App.meet | apply App.ite | refine App.bind ?_ fun _ => ?_)) h
noncomputable def F.pleachref25_PutNode (K : Nat) (a0 : TNode) : Option (ByteArray) := evFn Try.prog sg K 92 [.agg [.val (.string a0.1), .list .str a0.2.1 false, .list sProp a0.2.2 false]] []
noncomputable def F.pleachref25_PutNode.B (c0 : (TNode) → Option (Int)) (c1 : (List ByteArray) → (List TProp) → Option (ByteArray)) (a0 : TNode) : Option (ByteArray) :=
    ((c0 (a0.1, a0.2.1, a0.2.2)).bind fun t0 => (bif (t0 != 0) then (some (⟨#[]⟩ : ByteArray)) else ((c1 a0.2.1 a0.2.2).bind fun t1 => (some t1))))
theorem F.pleachref25_PutNode.eq K a0 : F.pleachref25_PutNode (K + 1) a0 = F.pleachref25_PutNode.B (F.pleachref25_Node K) (F.pleachref25_put K) a0 := by kernel_rfl
noncomputable def V.pleachref25_PutNode (a0 : TNode) := lim fun v => F.pleachref25_PutNode (v 0) a0
theorem V.pleachref25_PutNode.of a0 {r} (h : F.pleachref25_PutNode.B V.pleachref25_Node V.pleachref25_put a0 = some r) : V.pleachref25_PutNode a0 = some r :=
  App.to (App.step 0 (fun v => F.pleachref25_PutNode.eq (v 0) a0) (by unfold F.pleachref25_PutNode.B; repeat' first | exact App.val | exact App.no | exact App.lim | apply App.cond | apply App.guard | apply App.meet | apply App.ite | refine App.bind ?_ fun _ => ?_)) h
noncomputable def F.pleachref22_one (K : Nat) (a0 : List TEntry) (a1 : TEdit) : Option ((List TEntry)) := evFn Try.prog sg K 175 [.sc (.list sEntry a0 false), .agg [.val (.string a1.1), .val (.string a1.2.1), .val (.bool a1.2.2)]] []
noncomputable def F.pleachref22_one.at (K : Nat) (p ns : List Nat) (s : St) : Option ((List TEntry)) := atFn Try.prog sg K 175 0 p ns s
noncomputable def F.pleachref22_one.in (K : Nat) (H : List Nat → List Nat → St → Option ((List TEntry))) (p ns : List Nat) (s : St) : Option ((List TEntry)) := inFn Try.prog sg K 175 0 [] H p ns s
theorem F.pleachref22_one.in_eq K p ns s : F.pleachref22_one.at K p ns s = F.pleachref22_one.in K (F.pleachref22_one.at K) p ns s := atFn_eq (P := Try.prog) (sg := sg) (K := K) (f := 175) (m := 0) [] p ns s
theorem F.pleachref22_one.in_main K a0 a1 : F.pleachref22_one (K + 1) a0 a1 = F.pleachref22_one.in K (F.pleachref22_one.at K) [] [] ⟨slots [.sc (.list sEntry a0 false), .agg [.val (.string a1.1), .val (.string a1.2.1), .val (.bool a1.2.2)]] 0, []⟩ := evFn_eq (P := Try.prog) (sg := sg) (K := K) (f := 175) (args := [.sc (.list sEntry a0 false), .agg [.val (.string a1.1), .val (.string a1.2.1), .val (.bool a1.2.2)]]) (σ := []) [] (by kernel_rfl)
def F.pleachref22_one.l11010.st (a0 : List TEntry) (a1 : TEdit) (x0 : Int) (x1 : List TEntry) : St := ⟨[(0, vL sEntry a0), (3, .one (.sc (.ref 0 0))), (5, .one (.sc (.own 1 none))), (6, vI x0)], [.cells 189 [.val (.string a1.1), .val (.string a1.2.1), .val (.bool a1.2.2)], .elems sEntry x1]⟩
noncomputable def F.pleachref22_one.l11010 (K n0 : Nat) (a0 : List TEntry) (a1 : TEdit) (x0 : Int) (x1 : List TEntry) := F.pleachref22_one.at K [1, 1, 0, 1, 0] [n0] (F.pleachref22_one.l11010.st a0 a1 x0 x1)
def F.pleachref22_one.l1111010.st (a0 : List TEntry) (a1 : TEdit) (x0 : Int) (x1 : List TEntry) : St := ⟨[(0, vL sEntry a0), (3, .one (.sc (.ref 0 0))), (5, .one (.sc (.own 1 none))), (7, vI x0)], [.cells 189 [.val (.string a1.1), .val (.string a1.2.1), .val (.bool a1.2.2)], .elems sEntry x1]⟩
noncomputable def F.pleachref22_one.l1111010 (K n0 : Nat) (a0 : List TEntry) (a1 : TEdit) (x0 : Int) (x1 : List TEntry) := F.pleachref22_one.at K [1, 1, 1, 1, 0, 1, 0] [n0] (F.pleachref22_one.l1111010.st a0 a1 x0 x1)
noncomputable def F.pleachref22_one.l11010.B (c0 : (List TEntry) → (TEdit) → (Int) → (List TEntry) → Option ((List TEntry))) (c1 : (List TEntry) → (TEdit) → (Int) → (List TEntry) → Option ((List TEntry))) (a0 : List TEntry) (a1 : TEdit) (x0 : Int) (x1 : List TEntry) : Option ((List TEntry)) :=
    (bif (decide (x0 < (a0.length : Int))) then (guardK (decide (0 ≤ x0) && decide (x0 < (a0.length : Int))) (bif (strLt ((rd sEntry a0 x0.toNat).1) a1.1) then (guardK (decide (0 ≤ x0) && decide (x0 < (a0.length : Int))) (guardK (decide (x1.length + ([((rd sEntry a0 x0.toNat).1, (rd sEntry a0 x0.toNat).2)]).length ≤ nmax)) (c0 a0 a1 (w64 (x0 + 1)) (x1 ++ [((rd sEntry a0 x0.toNat).1, (rd sEntry a0 x0.toNat).2)])))) else (c0 a0 a1 (w64 (x0 + 1)) x1))) else (bif (!a1.2.2) then (guardK (decide (x1.length + ([(a1.1, a1.2.1)]).length ≤ nmax)) (c1 a0 a1 0 (x1 ++ [(a1.1, a1.2.1)]))) else (c1 a0 a1 0 x1)))
theorem F.pleachref22_one.l11010.eq K n0 a0 a1 x0 x1 : F.pleachref22_one.l11010 K (n0 + 1) a0 a1 x0 x1 = F.pleachref22_one.l11010.B (F.pleachref22_one.l11010 K n0) (F.pleachref22_one.l1111010 K K) a0 a1 x0 x1 := (F.pleachref22_one.in_eq K [1, 1, 0, 1, 0] [n0 + 1] (F.pleachref22_one.l11010.st a0 a1 x0 x1)).trans ((show ∀ H, F.pleachref22_one.in K H [1, 1, 0, 1, 0] [n0 + 1] (F.pleachref22_one.l11010.st a0 a1 x0 x1) = F.pleachref22_one.l11010.B (fun a0 a1 x0 x1 => H [1, 1, 0, 1, 0] [n0] (F.pleachref22_one.l11010.st a0 a1 x0 x1)) (fun a0 a1 x0 x1 => H [1, 1, 1, 1, 0, 1, 0] [K] (F.pleachref22_one.l1111010.st a0 a1 x0 x1)) a0 a1 x0 x1 from by intro H; kernel_rfl) (F.pleachref22_one.at K))
noncomputable def F.pleachref22_one.l1111010.B (c0 : (List TEntry) → (TEdit) → (Int) → (List TEntry) → Option ((List TEntry))) (a0 : List TEntry) (a1 : TEdit) (x0 : Int) (x1 : List TEntry) : Option ((List TEntry)) :=
    (bif (decide (x0 < (a0.length : Int))) then (guardK (decide (0 ≤ x0) && decide (x0 < (a0.length : Int))) (bif (!(strLt ((rd sEntry a0 x0.toNat).1) a1.1 || strEq ((rd sEntry a0 x0.toNat).1) a1.1)) then (guardK (decide (0 ≤ x0) && decide (x0 < (a0.length : Int))) (guardK (decide (x1.length + ([((rd sEntry a0 x0.toNat).1, (rd sEntry a0 x0.toNat).2)]).length ≤ nmax)) (c0 a0 a1 (w64 (x0 + 1)) (x1 ++ [((rd sEntry a0 x0.toNat).1, (rd sEntry a0 x0.toNat).2)])))) else (c0 a0 a1 (w64 (x0 + 1)) x1))) else (some x1))
theorem F.pleachref22_one.l1111010.eq K n0 a0 a1 x0 x1 : F.pleachref22_one.l1111010 K (n0 + 1) a0 a1 x0 x1 = F.pleachref22_one.l1111010.B (F.pleachref22_one.l1111010 K n0) a0 a1 x0 x1 := (F.pleachref22_one.in_eq K [1, 1, 1, 1, 0, 1, 0] [n0 + 1] (F.pleachref22_one.l1111010.st a0 a1 x0 x1)).trans ((show ∀ H, F.pleachref22_one.in K H [1, 1, 1, 1, 0, 1, 0] [n0 + 1] (F.pleachref22_one.l1111010.st a0 a1 x0 x1) = F.pleachref22_one.l1111010.B (fun a0 a1 x0 x1 => H [1, 1, 1, 1, 0, 1, 0] [n0] (F.pleachref22_one.l1111010.st a0 a1 x0 x1)) a0 a1 x0 x1 from by intro H; kernel_rfl) (F.pleachref22_one.at K))
noncomputable def F.pleachref22_one.B (c0 : (List TEntry) → (TEdit) → (Int) → (List TEntry) → Option ((List TEntry))) (a0 : List TEntry) (a1 : TEdit) : Option ((List TEntry)) :=
    (c0 a0 a1 0 ([]))
theorem F.pleachref22_one.eq K a0 a1 : F.pleachref22_one (K + 1) a0 a1 = F.pleachref22_one.B (F.pleachref22_one.l11010 K K) a0 a1 := (F.pleachref22_one.in_main K a0 a1).trans ((show ∀ H, F.pleachref22_one.in K H [] [] ⟨slots [.sc (.list sEntry a0 false), .agg [.val (.string a1.1), .val (.string a1.2.1), .val (.bool a1.2.2)]] 0, []⟩ = F.pleachref22_one.B (fun a0 a1 x0 x1 => H [1, 1, 0, 1, 0] [K] (F.pleachref22_one.l11010.st a0 a1 x0 x1)) a0 a1 from by intro H; kernel_rfl) (F.pleachref22_one.at K))
noncomputable def V.pleachref22_one.l11010 (a0 : List TEntry) (a1 : TEdit) (x0 : Int) (x1 : List TEntry) := lim fun v => F.pleachref22_one.l11010 (v 0) (v 1) a0 a1 x0 x1
noncomputable def V.pleachref22_one.l1111010 (a0 : List TEntry) (a1 : TEdit) (x0 : Int) (x1 : List TEntry) := lim fun v => F.pleachref22_one.l1111010 (v 0) (v 1) a0 a1 x0 x1
noncomputable def V.pleachref22_one (a0 : List TEntry) (a1 : TEdit) := lim fun v => F.pleachref22_one (v 0) a0 a1
theorem V.pleachref22_one.l11010.of a0 a1 x0 x1 {r} (h : F.pleachref22_one.l11010.B V.pleachref22_one.l11010 V.pleachref22_one.l1111010 a0 a1 x0 x1 = some r) : V.pleachref22_one.l11010 a0 a1 x0 x1 = some r :=
  App.to (App.step 1 (fun v => F.pleachref22_one.l11010.eq (v 0) (v 1) a0 a1 x0 x1) (by unfold F.pleachref22_one.l11010.B; repeat' first | exact App.val | exact App.no | exact App.lim | exact (App.enter 1 App.lim) | apply App.cond | apply App.guard | apply App.meet | apply App.ite | refine App.bind ?_ fun _ => ?_)) h
theorem V.pleachref22_one.l1111010.of a0 a1 x0 x1 {r} (h : F.pleachref22_one.l1111010.B V.pleachref22_one.l1111010 a0 a1 x0 x1 = some r) : V.pleachref22_one.l1111010 a0 a1 x0 x1 = some r :=
  App.to (App.step 1 (fun v => F.pleachref22_one.l1111010.eq (v 0) (v 1) a0 a1 x0 x1) (by unfold F.pleachref22_one.l1111010.B; repeat' first | exact App.val | exact App.no | exact App.lim | apply App.cond | apply App.guard | apply App.meet | apply App.ite | refine App.bind ?_ fun _ => ?_)) h
theorem V.pleachref22_one.of a0 a1 {r} (h : F.pleachref22_one.B V.pleachref22_one.l11010 a0 a1 = some r) : V.pleachref22_one a0 a1 = some r :=
  App.to (App.step 0 (fun v => F.pleachref22_one.eq (v 0) a0 a1) (by unfold F.pleachref22_one.B; repeat' first | exact App.val | exact App.no | exact App.lim | exact (App.enter 1 App.lim) | apply App.cond | apply App.guard | apply App.meet | apply App.ite | refine App.bind ?_ fun _ => ?_)) h
noncomputable def F.pleachref22_Merge (K : Nat) (a0 : List TEntry) (a1 : List TEdit) : Option ((List TEntry)) := evFn Try.prog sg K 138 [.sc (.list sEntry a0 false), .sc (.list sEdit a1 false)] []
noncomputable def F.pleachref22_Merge.at (K : Nat) (p ns : List Nat) (s : St) : Option ((List TEntry)) := atFn Try.prog sg K 138 0 p ns s
noncomputable def F.pleachref22_Merge.in (K : Nat) (H : List Nat → List Nat → St → Option ((List TEntry))) (p ns : List Nat) (s : St) : Option ((List TEntry)) := inFn Try.prog sg K 138 0 [] H p ns s
theorem F.pleachref22_Merge.in_eq K p ns s : F.pleachref22_Merge.at K p ns s = F.pleachref22_Merge.in K (F.pleachref22_Merge.at K) p ns s := atFn_eq (P := Try.prog) (sg := sg) (K := K) (f := 138) (m := 0) [] p ns s
theorem F.pleachref22_Merge.in_main K a0 a1 : F.pleachref22_Merge (K + 1) a0 a1 = F.pleachref22_Merge.in K (F.pleachref22_Merge.at K) [] [] ⟨slots [.sc (.list sEntry a0 false), .sc (.list sEdit a1 false)] 0, []⟩ := evFn_eq (P := Try.prog) (sg := sg) (K := K) (f := 138) (args := [.sc (.list sEntry a0 false), .sc (.list sEdit a1 false)]) (σ := []) [] (by kernel_rfl)
def F.pleachref22_Merge.l1010.st (a0 : List TEntry) (a1 : List TEdit) (x0 : List TEntry) (x1 : Int) : St := ⟨[(0, vL sEntry x0), (1, vL sEdit a1), (5, vI x1)], []⟩
noncomputable def F.pleachref22_Merge.l1010 (K n0 : Nat) (a0 : List TEntry) (a1 : List TEdit) (x0 : List TEntry) (x1 : Int) := F.pleachref22_Merge.at K [1, 0, 1, 0] [n0] (F.pleachref22_Merge.l1010.st a0 a1 x0 x1)
noncomputable def F.pleachref22_Merge.l1010.B (c0 : (List TEntry) → (TEdit) → Option ((List TEntry))) (c1 : (List TEntry) → (List TEdit) → (List TEntry) → (Int) → Option ((List TEntry))) (a0 : List TEntry) (a1 : List TEdit) (x0 : List TEntry) (x1 : Int) : Option ((List TEntry)) :=
    (bif (decide (x1 < (a1.length : Int))) then (guardK (decide (0 ≤ x1) && decide (x1 < (a1.length : Int))) ((c0 x0 ((rd sEdit a1 x1.toNat).1, ((rd sEdit a1 x1.toNat).2).1, ((rd sEdit a1 x1.toNat).2).2)).bind fun t0 => (c1 a0 a1 t0 (w64 (x1 + 1))))) else (some x0))
theorem F.pleachref22_Merge.l1010.eq K n0 a0 a1 x0 x1 : F.pleachref22_Merge.l1010 K (n0 + 1) a0 a1 x0 x1 = F.pleachref22_Merge.l1010.B (F.pleachref22_one K) (F.pleachref22_Merge.l1010 K n0) a0 a1 x0 x1 := (F.pleachref22_Merge.in_eq K [1, 0, 1, 0] [n0 + 1] (F.pleachref22_Merge.l1010.st a0 a1 x0 x1)).trans ((show ∀ H, F.pleachref22_Merge.in K H [1, 0, 1, 0] [n0 + 1] (F.pleachref22_Merge.l1010.st a0 a1 x0 x1) = F.pleachref22_Merge.l1010.B (F.pleachref22_one K) (fun a0 a1 x0 x1 => H [1, 0, 1, 0] [n0] (F.pleachref22_Merge.l1010.st a0 a1 x0 x1)) a0 a1 x0 x1 from by intro H; kernel_rfl) (F.pleachref22_Merge.at K))
noncomputable def F.pleachref22_Merge.B (c0 : (List TEntry) → (List TEdit) → (List TEntry) → (Int) → Option ((List TEntry))) (a0 : List TEntry) (a1 : List TEdit) : Option ((List TEntry)) :=
    (c0 a0 a1 a0 0)
theorem F.pleachref22_Merge.eq K a0 a1 : F.pleachref22_Merge (K + 1) a0 a1 = F.pleachref22_Merge.B (F.pleachref22_Merge.l1010 K K) a0 a1 := (F.pleachref22_Merge.in_main K a0 a1).trans ((show ∀ H, F.pleachref22_Merge.in K H [] [] ⟨slots [.sc (.list sEntry a0 false), .sc (.list sEdit a1 false)] 0, []⟩ = F.pleachref22_Merge.B (fun a0 a1 x0 x1 => H [1, 0, 1, 0] [K] (F.pleachref22_Merge.l1010.st a0 a1 x0 x1)) a0 a1 from by intro H; kernel_rfl) (F.pleachref22_Merge.at K))
noncomputable def V.pleachref22_Merge.l1010 (a0 : List TEntry) (a1 : List TEdit) (x0 : List TEntry) (x1 : Int) := lim fun v => F.pleachref22_Merge.l1010 (v 0) (v 1) a0 a1 x0 x1
noncomputable def V.pleachref22_Merge (a0 : List TEntry) (a1 : List TEdit) := lim fun v => F.pleachref22_Merge (v 0) a0 a1
theorem V.pleachref22_Merge.l1010.of a0 a1 x0 x1 {r} (h : F.pleachref22_Merge.l1010.B V.pleachref22_one V.pleachref22_Merge.l1010 a0 a1 x0 x1 = some r) : V.pleachref22_Merge.l1010 a0 a1 x0 x1 = some r :=
  App.to (App.step 1 (fun v => F.pleachref22_Merge.l1010.eq (v 0) (v 1) a0 a1 x0 x1) (by unfold F.pleachref22_Merge.l1010.B; repeat' first | exact App.val | exact App.no | exact App.lim | apply App.cond | apply App.guard | apply App.meet | apply App.ite | refine App.bind ?_ fun _ => ?_)) h
theorem V.pleachref22_Merge.of a0 a1 {r} (h : F.pleachref22_Merge.B V.pleachref22_Merge.l1010 a0 a1 = some r) : V.pleachref22_Merge a0 a1 = some r :=
  App.to (App.step 0 (fun v => F.pleachref22_Merge.eq (v 0) a0 a1) (by unfold F.pleachref22_Merge.B; repeat' first | exact App.val | exact App.no | exact App.lim | exact (App.enter 1 App.lim) | apply App.cond | apply App.guard | apply App.meet | apply App.ite | refine App.bind ?_ fun _ => ?_)) h
noncomputable def F.pleachref31_with (K : Nat) (a0 : List TEntry) (a1 : ByteArray) (a2 : ByteArray) : Option ((List TEntry)) := evFn Try.prog sg K 91 [.sc (.list sEntry a0 false), .sc (.val (.string a1)), .sc (.val (.string a2))] []
noncomputable def F.pleachref31_with.B (c0 : (List TEntry) → (List TEdit) → Option ((List TEntry))) (a0 : List TEntry) (a1 : ByteArray) (a2 : ByteArray) : Option ((List TEntry)) :=
    ((c0 a0 ([(a1, a2, false)])).bind fun t0 => (some t0))
theorem F.pleachref31_with.eq K a0 a1 a2 : F.pleachref31_with (K + 1) a0 a1 a2 = F.pleachref31_with.B (F.pleachref22_Merge K) a0 a1 a2 := by kernel_rfl
noncomputable def V.pleachref31_with (a0 : List TEntry) (a1 : ByteArray) (a2 : ByteArray) := lim fun v => F.pleachref31_with (v 0) a0 a1 a2
theorem V.pleachref31_with.of a0 a1 a2 {r} (h : F.pleachref31_with.B V.pleachref22_Merge a0 a1 a2 = some r) : V.pleachref31_with a0 a1 a2 = some r :=
  App.to (App.step 0 (fun v => F.pleachref31_with.eq (v 0) a0 a1 a2) (by unfold F.pleachref31_with.B; repeat' first | exact App.val | exact App.no | exact App.lim | apply App.cond | apply App.guard | apply App.meet | apply App.ite | refine App.bind ?_ fun _ => ?_)) h
noncomputable def F.pleachref25_Edge (K : Nat) (a0 : TEdge) : Option (Int) := evFn Try.prog sg K 69 [.agg [.val (.string a0.1), .val (.string a0.2.1), .val (.string a0.2.2.1), .list .str a0.2.2.2.1 false, .list sProp a0.2.2.2.2 false]] []
noncomputable def F.pleachref25_Edge.B (c0 : (ByteArray) → Option (Bool)) (c1 : (List ByteArray) → (List TProp) → Option (Int)) (a0 : TEdge) : Option (Int) :=
    ((c0 a0.1).bind fun t0 => (bif (!t0) then (some 2) else ((c0 a0.2.1).bind fun t1 => (bif (!t1) then (some 2) else ((c0 a0.2.2.1).bind fun t2 => (bif (!t2) then (some 2) else ((c1 a0.2.2.2.1 a0.2.2.2.2).bind fun t3 => (some t3))))))))
theorem F.pleachref25_Edge.eq K a0 : F.pleachref25_Edge (K + 1) a0 = F.pleachref25_Edge.B (F.pleachref05_Is K) (F.pleachref25_rest K) a0 := by kernel_rfl
noncomputable def V.pleachref25_Edge (a0 : TEdge) := lim fun v => F.pleachref25_Edge (v 0) a0
theorem V.pleachref25_Edge.of a0 {r} (h : F.pleachref25_Edge.B V.pleachref05_Is V.pleachref25_rest a0 = some r) : V.pleachref25_Edge a0 = some r :=
  App.to (App.step 0 (fun v => F.pleachref25_Edge.eq (v 0) a0) (by unfold F.pleachref25_Edge.B; repeat' first | exact App.val | exact App.no | exact App.lim | apply App.cond | apply App.guard | apply App.meet | apply App.ite | refine App.bind ?_ fun _ => ?_)) h
noncomputable def F.pleachref25_PutEdge (K : Nat) (a0 : TEdge) : Option (ByteArray) := evFn Try.prog sg K 93 [.agg [.val (.string a0.1), .val (.string a0.2.1), .val (.string a0.2.2.1), .list .str a0.2.2.2.1 false, .list sProp a0.2.2.2.2 false]] []
noncomputable def F.pleachref25_PutEdge.B (c0 : (TEdge) → Option (Int)) (c1 : (ByteArray) → Option (ByteArray)) (c2 : (List ByteArray) → (List TProp) → Option (ByteArray)) (a0 : TEdge) : Option (ByteArray) :=
    ((c0 (a0.1, a0.2.1, a0.2.2.1, a0.2.2.2.1, a0.2.2.2.2)).bind fun t0 => (bif (t0 != 0) then (some (⟨#[]⟩ : ByteArray)) else ((c1 a0.2.1).bind fun t1 => ((c1 a0.2.2.1).bind fun t2 => (guardK (decide (t1.size + t2.size ≤ i64max)) ((c2 a0.2.2.2.1 a0.2.2.2.2).bind fun t3 => (guardK (decide ((t1 ++ t2).size + t3.size ≤ i64max)) (some ((t1 ++ t2) ++ t3)))))))))
theorem F.pleachref25_PutEdge.eq K a0 : F.pleachref25_PutEdge (K + 1) a0 = F.pleachref25_PutEdge.B (F.pleachref25_Edge K) (F.pleachref04_PutText K) (F.pleachref25_put K) a0 := by kernel_rfl
noncomputable def V.pleachref25_PutEdge (a0 : TEdge) := lim fun v => F.pleachref25_PutEdge (v 0) a0
theorem V.pleachref25_PutEdge.of a0 {r} (h : F.pleachref25_PutEdge.B V.pleachref25_Edge V.pleachref04_PutText V.pleachref25_put a0 = some r) : V.pleachref25_PutEdge a0 = some r :=
  App.to (App.step 0 (fun v => F.pleachref25_PutEdge.eq (v 0) a0) (by unfold F.pleachref25_PutEdge.B; repeat' first | exact App.val | exact App.no | exact App.lim | apply App.cond | apply App.guard | apply App.meet | apply App.ite | refine App.bind ?_ fun _ => ?_)) h
noncomputable def F.pleachref31_Lay (K : Nat) (a0 : TGraph) : Option ((List TEntry) × (List TEntry) × (List TEntry) × (List TEntry) × Int) := evFn Try.prog sg K 46 [.agg [.list sNode a0.1 false, .list sEdge a0.2 false]] []
noncomputable def F.pleachref31_Lay.at (K : Nat) (p ns : List Nat) (s : St) : Option ((List TEntry) × (List TEntry) × (List TEntry) × (List TEntry) × Int) := atFn Try.prog sg K 46 0 p ns s
noncomputable def F.pleachref31_Lay.in (K : Nat) (H : List Nat → List Nat → St → Option ((List TEntry) × (List TEntry) × (List TEntry) × (List TEntry) × Int)) (p ns : List Nat) (s : St) : Option ((List TEntry) × (List TEntry) × (List TEntry) × (List TEntry) × Int) := inFn Try.prog sg K 46 0 [] H p ns s
theorem F.pleachref31_Lay.in_eq K p ns s : F.pleachref31_Lay.at K p ns s = F.pleachref31_Lay.in K (F.pleachref31_Lay.at K) p ns s := atFn_eq (P := Try.prog) (sg := sg) (K := K) (f := 46) (m := 0) [] p ns s
theorem F.pleachref31_Lay.in_main K a0 : F.pleachref31_Lay (K + 1) a0 = F.pleachref31_Lay.in K (F.pleachref31_Lay.at K) [] [] ⟨slots [.agg [.list sNode a0.1 false, .list sEdge a0.2 false]] 0, []⟩ := evFn_eq (P := Try.prog) (sg := sg) (K := K) (f := 46) (args := [.agg [.list sNode a0.1 false, .list sEdge a0.2 false]]) (σ := []) [] (by kernel_rfl)
def F.pleachref31_Lay.l11010.st (a0 : TGraph) (x0 : List TEntry) (x1 : Int) : St := ⟨[(1, .one (.sc (.ref 0 0))), (7, vL sEntry x0), (8, vL sEntry ([])), (9, vL sEntry ([])), (10, vL sEntry ([])), (18, vL sNode a0.1), (19, vI (a0.1.length : Int)), (20, vI x1)], [.cells 25 [.list sNode a0.1 false, .list sEdge a0.2 false]]⟩
noncomputable def F.pleachref31_Lay.l11010 (K n0 : Nat) (a0 : TGraph) (x0 : List TEntry) (x1 : Int) := F.pleachref31_Lay.at K [1, 1, 0, 1, 0] [n0] (F.pleachref31_Lay.l11010.st a0 x0 x1)
def F.pleachref31_Lay.l111010.st (a0 : TGraph) (x0 : List TEntry) (x1 : List TEntry) (x2 : List TEntry) (x3 : List TEntry) (x4 : Int) : St := ⟨[(7, vL sEntry x0), (8, vL sEntry x1), (9, vL sEntry x2), (10, vL sEntry x3), (37, vL sEdge a0.2), (38, vI (a0.2.length : Int)), (39, vI x4)], []⟩
noncomputable def F.pleachref31_Lay.l111010 (K n0 : Nat) (a0 : TGraph) (x0 : List TEntry) (x1 : List TEntry) (x2 : List TEntry) (x3 : List TEntry) (x4 : Int) := F.pleachref31_Lay.at K [1, 1, 1, 0, 1, 0] [n0] (F.pleachref31_Lay.l111010.st a0 x0 x1 x2 x3 x4)
noncomputable def F.pleachref31_Lay.l11010.B (c0 : (TNode) → Option (Int)) (c1 : (TNode) → Option (ByteArray)) (c2 : (List TEntry) → (ByteArray) → (ByteArray) → Option ((List TEntry))) (c3 : (TGraph) → (List TEntry) → (Int) → Option ((List TEntry) × (List TEntry) × (List TEntry) × (List TEntry) × Int)) (c4 : (TGraph) → (List TEntry) → (List TEntry) → (List TEntry) → (List TEntry) → (Int) → Option ((List TEntry) × (List TEntry) × (List TEntry) × (List TEntry) × Int)) (a0 : TGraph) (x0 : List TEntry) (x1 : Int) : Option ((List TEntry) × (List TEntry) × (List TEntry) × (List TEntry) × Int) :=
    (bif (decide (x1 < (a0.1.length : Int))) then (guardK (decide (0 ≤ x1) && decide (x1 < (a0.1.length : Int))) ((c0 ((rd sNode a0.1 x1.toNat).1, ((rd sNode a0.1 x1.toNat).2).1, ((rd sNode a0.1 x1.toNat).2).2)).bind fun t0 => (bif (t0 != 0) then (some ([], [], [], [], t0)) else ((c1 ((rd sNode a0.1 x1.toNat).1, ((rd sNode a0.1 x1.toNat).2).1, ((rd sNode a0.1 x1.toNat).2).2)).bind fun t1 => ((c2 x0 ((rd sNode a0.1 x1.toNat).1) t1).bind fun t2 => (c3 a0 t2 (w64 (x1 + 1)))))))) else (c4 a0 x0 ([]) ([]) ([]) 0))
theorem F.pleachref31_Lay.l11010.eq K n0 a0 x0 x1 : F.pleachref31_Lay.l11010 K (n0 + 1) a0 x0 x1 = F.pleachref31_Lay.l11010.B (F.pleachref25_Node K) (F.pleachref25_PutNode K) (F.pleachref31_with K) (F.pleachref31_Lay.l11010 K n0) (F.pleachref31_Lay.l111010 K K) a0 x0 x1 := (F.pleachref31_Lay.in_eq K [1, 1, 0, 1, 0] [n0 + 1] (F.pleachref31_Lay.l11010.st a0 x0 x1)).trans ((show ∀ H, F.pleachref31_Lay.in K H [1, 1, 0, 1, 0] [n0 + 1] (F.pleachref31_Lay.l11010.st a0 x0 x1) = F.pleachref31_Lay.l11010.B (F.pleachref25_Node K) (F.pleachref25_PutNode K) (F.pleachref31_with K) (fun a0 x0 x1 => H [1, 1, 0, 1, 0] [n0] (F.pleachref31_Lay.l11010.st a0 x0 x1)) (fun a0 x0 x1 x2 x3 x4 => H [1, 1, 1, 0, 1, 0] [K] (F.pleachref31_Lay.l111010.st a0 x0 x1 x2 x3 x4)) a0 x0 x1 from by intro H; kernel_rfl) (F.pleachref31_Lay.at K))
noncomputable def F.pleachref31_Lay.l111010.B (c0 : (TEdge) → Option (Int)) (c1 : (TEdge) → Option (ByteArray)) (c2 : (List TEntry) → (ByteArray) → (ByteArray) → Option ((List TEntry))) (c3 : (TGraph) → (List TEntry) → (List TEntry) → (List TEntry) → (List TEntry) → (Int) → Option ((List TEntry) × (List TEntry) × (List TEntry) × (List TEntry) × Int)) (a0 : TGraph) (x0 : List TEntry) (x1 : List TEntry) (x2 : List TEntry) (x3 : List TEntry) (x4 : Int) : Option ((List TEntry) × (List TEntry) × (List TEntry) × (List TEntry) × Int) :=
    (bif (decide (x4 < (a0.2.length : Int))) then (guardK (decide (0 ≤ x4) && decide (x4 < (a0.2.length : Int))) ((c0 ((rd sEdge a0.2 x4.toNat).1, ((rd sEdge a0.2 x4.toNat).2).1, (((rd sEdge a0.2 x4.toNat).2).2).1, ((((rd sEdge a0.2 x4.toNat).2).2).2).1, ((((rd sEdge a0.2 x4.toNat).2).2).2).2)).bind fun t3 => (bif (t3 != 0) then (some ([], [], [], [], t3)) else ((c1 ((rd sEdge a0.2 x4.toNat).1, ((rd sEdge a0.2 x4.toNat).2).1, (((rd sEdge a0.2 x4.toNat).2).2).1, ((((rd sEdge a0.2 x4.toNat).2).2).2).1, ((((rd sEdge a0.2 x4.toNat).2).2).2).2)).bind fun t4 => ((c2 x1 ((rd sEdge a0.2 x4.toNat).1) t4).bind fun t5 => (guardK (decide ((((rd sEdge a0.2 x4.toNat).2).1).size + (⟨#[0]⟩ : ByteArray).size ≤ i64max)) (guardK (decide ((((rd sEdge a0.2 x4.toNat).2).1 ++ (⟨#[0]⟩ : ByteArray)).size + ((rd sEdge a0.2 x4.toNat).1).size ≤ i64max)) ((c2 x2 ((((rd sEdge a0.2 x4.toNat).2).1 ++ (⟨#[0]⟩ : ByteArray)) ++ (rd sEdge a0.2 x4.toNat).1) ((((rd sEdge a0.2 x4.toNat).2).2).1)).bind fun t6 => (guardK (decide (((((rd sEdge a0.2 x4.toNat).2).2).1).size + (⟨#[0]⟩ : ByteArray).size ≤ i64max)) (guardK (decide (((((rd sEdge a0.2 x4.toNat).2).2).1 ++ (⟨#[0]⟩ : ByteArray)).size + ((rd sEdge a0.2 x4.toNat).1).size ≤ i64max)) ((c2 x3 (((((rd sEdge a0.2 x4.toNat).2).2).1 ++ (⟨#[0]⟩ : ByteArray)) ++ (rd sEdge a0.2 x4.toNat).1) (((rd sEdge a0.2 x4.toNat).2).1)).bind fun t7 => (c3 a0 x0 t5 t6 t7 (w64 (x4 + 1)))))))))))))) else (some (x0, x1, x2, x3, 0)))
theorem F.pleachref31_Lay.l111010.eq K n0 a0 x0 x1 x2 x3 x4 : F.pleachref31_Lay.l111010 K (n0 + 1) a0 x0 x1 x2 x3 x4 = F.pleachref31_Lay.l111010.B (F.pleachref25_Edge K) (F.pleachref25_PutEdge K) (F.pleachref31_with K) (F.pleachref31_Lay.l111010 K n0) a0 x0 x1 x2 x3 x4 := (F.pleachref31_Lay.in_eq K [1, 1, 1, 0, 1, 0] [n0 + 1] (F.pleachref31_Lay.l111010.st a0 x0 x1 x2 x3 x4)).trans ((show ∀ H, F.pleachref31_Lay.in K H [1, 1, 1, 0, 1, 0] [n0 + 1] (F.pleachref31_Lay.l111010.st a0 x0 x1 x2 x3 x4) = F.pleachref31_Lay.l111010.B (F.pleachref25_Edge K) (F.pleachref25_PutEdge K) (F.pleachref31_with K) (fun a0 x0 x1 x2 x3 x4 => H [1, 1, 1, 0, 1, 0] [n0] (F.pleachref31_Lay.l111010.st a0 x0 x1 x2 x3 x4)) a0 x0 x1 x2 x3 x4 from by intro H; kernel_rfl) (F.pleachref31_Lay.at K))
noncomputable def F.pleachref31_Lay.B (c0 : (TGraph) → (List TEntry) → (Int) → Option ((List TEntry) × (List TEntry) × (List TEntry) × (List TEntry) × Int)) (a0 : TGraph) : Option ((List TEntry) × (List TEntry) × (List TEntry) × (List TEntry) × Int) :=
    (c0 a0 ([]) 0)
theorem F.pleachref31_Lay.eq K a0 : F.pleachref31_Lay (K + 1) a0 = F.pleachref31_Lay.B (F.pleachref31_Lay.l11010 K K) a0 := (F.pleachref31_Lay.in_main K a0).trans ((show ∀ H, F.pleachref31_Lay.in K H [] [] ⟨slots [.agg [.list sNode a0.1 false, .list sEdge a0.2 false]] 0, []⟩ = F.pleachref31_Lay.B (fun a0 x0 x1 => H [1, 1, 0, 1, 0] [K] (F.pleachref31_Lay.l11010.st a0 x0 x1)) a0 from by intro H; kernel_rfl) (F.pleachref31_Lay.at K))
noncomputable def V.pleachref31_Lay.l11010 (a0 : TGraph) (x0 : List TEntry) (x1 : Int) := lim fun v => F.pleachref31_Lay.l11010 (v 0) (v 1) a0 x0 x1
noncomputable def V.pleachref31_Lay.l111010 (a0 : TGraph) (x0 : List TEntry) (x1 : List TEntry) (x2 : List TEntry) (x3 : List TEntry) (x4 : Int) := lim fun v => F.pleachref31_Lay.l111010 (v 0) (v 1) a0 x0 x1 x2 x3 x4
noncomputable def V.pleachref31_Lay (a0 : TGraph) := lim fun v => F.pleachref31_Lay (v 0) a0
theorem V.pleachref31_Lay.l11010.of a0 x0 x1 {r} (h : F.pleachref31_Lay.l11010.B V.pleachref25_Node V.pleachref25_PutNode V.pleachref31_with V.pleachref31_Lay.l11010 V.pleachref31_Lay.l111010 a0 x0 x1 = some r) : V.pleachref31_Lay.l11010 a0 x0 x1 = some r :=
  App.to (App.step 1 (fun v => F.pleachref31_Lay.l11010.eq (v 0) (v 1) a0 x0 x1) (by unfold F.pleachref31_Lay.l11010.B; repeat' first | exact App.val | exact App.no | exact App.lim | exact (App.enter 1 App.lim) | apply App.cond | apply App.guard | apply App.meet | apply App.ite | refine App.bind ?_ fun _ => ?_)) h
theorem V.pleachref31_Lay.l111010.of a0 x0 x1 x2 x3 x4 {r} (h : F.pleachref31_Lay.l111010.B V.pleachref25_Edge V.pleachref25_PutEdge V.pleachref31_with V.pleachref31_Lay.l111010 a0 x0 x1 x2 x3 x4 = some r) : V.pleachref31_Lay.l111010 a0 x0 x1 x2 x3 x4 = some r :=
  App.to (App.step 1 (fun v => F.pleachref31_Lay.l111010.eq (v 0) (v 1) a0 x0 x1 x2 x3 x4) (by unfold F.pleachref31_Lay.l111010.B; repeat' first | exact App.val | exact App.no | exact App.lim | apply App.cond | apply App.guard | apply App.meet | apply App.ite | refine App.bind ?_ fun _ => ?_)) h
theorem V.pleachref31_Lay.of a0 {r} (h : F.pleachref31_Lay.B V.pleachref31_Lay.l11010 a0 = some r) : V.pleachref31_Lay a0 = some r :=
  App.to (App.step 0 (fun v => F.pleachref31_Lay.eq (v 0) a0) (by unfold F.pleachref31_Lay.B; repeat' first | exact App.val | exact App.no | exact App.lim | exact (App.enter 1 App.lim) | apply App.cond | apply App.guard | apply App.meet | apply App.ite | refine App.bind ?_ fun _ => ?_)) h
noncomputable def F.pleachref20_Same (K : Nat) (a0 : List TEntry) (a1 : List TEntry) : Option (Bool) := evFn Try.prog sg K 47 [.sc (.list sEntry a0 false), .sc (.list sEntry a1 false)] []
noncomputable def F.pleachref20_Same.at (K : Nat) (p ns : List Nat) (s : St) : Option (Bool) := atFn Try.prog sg K 47 0 p ns s
noncomputable def F.pleachref20_Same.in (K : Nat) (H : List Nat → List Nat → St → Option (Bool)) (p ns : List Nat) (s : St) : Option (Bool) := inFn Try.prog sg K 47 0 [] H p ns s
theorem F.pleachref20_Same.in_eq K p ns s : F.pleachref20_Same.at K p ns s = F.pleachref20_Same.in K (F.pleachref20_Same.at K) p ns s := atFn_eq (P := Try.prog) (sg := sg) (K := K) (f := 47) (m := 0) [] p ns s
theorem F.pleachref20_Same.in_main K a0 a1 : F.pleachref20_Same (K + 1) a0 a1 = F.pleachref20_Same.in K (F.pleachref20_Same.at K) [] [] ⟨slots [.sc (.list sEntry a0 false), .sc (.list sEntry a1 false)] 0, []⟩ := evFn_eq (P := Try.prog) (sg := sg) (K := K) (f := 47) (args := [.sc (.list sEntry a0 false), .sc (.list sEntry a1 false)]) (σ := []) [] (by kernel_rfl)
def F.pleachref20_Same.l11010.st (a0 : List TEntry) (a1 : List TEntry) (x0 : Int) : St := ⟨[(0, vL sEntry a0), (1, vL sEntry a1), (5, vI x0)], []⟩
noncomputable def F.pleachref20_Same.l11010 (K n0 : Nat) (a0 : List TEntry) (a1 : List TEntry) (x0 : Int) := F.pleachref20_Same.at K [1, 1, 0, 1, 0] [n0] (F.pleachref20_Same.l11010.st a0 a1 x0)
noncomputable def F.pleachref20_Same.l11010.B (c0 : (List TEntry) → (List TEntry) → (Int) → Option (Bool)) (a0 : List TEntry) (a1 : List TEntry) (x0 : Int) : Option (Bool) :=
    (bif (decide (x0 < (a0.length : Int))) then (guardK (decide (0 ≤ x0) && decide (x0 < (a0.length : Int))) (guardK (decide (0 ≤ x0) && decide (x0 < (a1.length : Int))) (bif (!((strEq ((rd sEntry a0 x0.toNat).1) ((rd sEntry a1 x0.toNat).1)) && ((strEq ((rd sEntry a0 x0.toNat).2) ((rd sEntry a1 x0.toNat).2)) && true))) then (some false) else (c0 a0 a1 (w64 (x0 + 1)))))) else (some true))
theorem F.pleachref20_Same.l11010.eq K n0 a0 a1 x0 : F.pleachref20_Same.l11010 K (n0 + 1) a0 a1 x0 = F.pleachref20_Same.l11010.B (F.pleachref20_Same.l11010 K n0) a0 a1 x0 := (F.pleachref20_Same.in_eq K [1, 1, 0, 1, 0] [n0 + 1] (F.pleachref20_Same.l11010.st a0 a1 x0)).trans ((show ∀ H, F.pleachref20_Same.in K H [1, 1, 0, 1, 0] [n0 + 1] (F.pleachref20_Same.l11010.st a0 a1 x0) = F.pleachref20_Same.l11010.B (fun a0 a1 x0 => H [1, 1, 0, 1, 0] [n0] (F.pleachref20_Same.l11010.st a0 a1 x0)) a0 a1 x0 from by intro H; kernel_rfl) (F.pleachref20_Same.at K))
noncomputable def F.pleachref20_Same.B (c0 : (List TEntry) → (List TEntry) → (Int) → Option (Bool)) (a0 : List TEntry) (a1 : List TEntry) : Option (Bool) :=
    (bif ((a0.length : Int) != (a1.length : Int)) then (some false) else (c0 a0 a1 0))
theorem F.pleachref20_Same.eq K a0 a1 : F.pleachref20_Same (K + 1) a0 a1 = F.pleachref20_Same.B (F.pleachref20_Same.l11010 K K) a0 a1 := (F.pleachref20_Same.in_main K a0 a1).trans ((show ∀ H, F.pleachref20_Same.in K H [] [] ⟨slots [.sc (.list sEntry a0 false), .sc (.list sEntry a1 false)] 0, []⟩ = F.pleachref20_Same.B (fun a0 a1 x0 => H [1, 1, 0, 1, 0] [K] (F.pleachref20_Same.l11010.st a0 a1 x0)) a0 a1 from by intro H; kernel_rfl) (F.pleachref20_Same.at K))
noncomputable def V.pleachref20_Same.l11010 (a0 : List TEntry) (a1 : List TEntry) (x0 : Int) := lim fun v => F.pleachref20_Same.l11010 (v 0) (v 1) a0 a1 x0
noncomputable def V.pleachref20_Same (a0 : List TEntry) (a1 : List TEntry) := lim fun v => F.pleachref20_Same (v 0) a0 a1
theorem V.pleachref20_Same.l11010.of a0 a1 x0 {r} (h : F.pleachref20_Same.l11010.B V.pleachref20_Same.l11010 a0 a1 x0 = some r) : V.pleachref20_Same.l11010 a0 a1 x0 = some r :=
  App.to (App.step 1 (fun v => F.pleachref20_Same.l11010.eq (v 0) (v 1) a0 a1 x0) (by unfold F.pleachref20_Same.l11010.B; repeat' first | exact App.val | exact App.no | exact App.lim | apply App.cond | apply App.guard | apply App.meet | apply App.ite | refine App.bind ?_ fun _ => ?_)) h
theorem V.pleachref20_Same.of a0 a1 {r} (h : F.pleachref20_Same.B V.pleachref20_Same.l11010 a0 a1 = some r) : V.pleachref20_Same a0 a1 = some r :=
  App.to (App.step 0 (fun v => F.pleachref20_Same.eq (v 0) a0 a1) (by unfold F.pleachref20_Same.B; repeat' first | exact App.val | exact App.no | exact App.lim | exact (App.enter 1 App.lim) | apply App.cond | apply App.guard | apply App.meet | apply App.ite | refine App.bind ?_ fun _ => ?_)) h
noncomputable def F.pleachlaw31_KeysLay (K : Nat) (a0 : TGraph) : Option (Bool) := evFn Try.prog sg K 8 [.agg [.list sNode a0.1 false, .list sEdge a0.2 false]] []
noncomputable def F.pleachlaw31_KeysLay.B (c0 : (TGraph) → Option (Bool)) (c1 : Option (Bool)) (c2 : (TGraph) → Option (Bool)) (c3 : (TGraph) → Option (((List TEntry) × ((List TEntry) × ((List TEntry) × (List TEntry)))) × Int)) (c4 : (TGraph) → Option ((List TEntry) × (List TEntry) × (List TEntry) × (List TEntry) × Int)) (c5 : (List TEntry) → (List TEntry) → Option (Bool)) (c6 : (List TNode) → Option ((List TEntry) × Int)) (c7 : (List TEdge) → Option ((List TEntry) × Int)) (c8 : (List TEdge) → Option ((List TEntry) × Int)) (c9 : (List TEdge) → Option ((List TEntry) × Int)) (a0 : TGraph) : Option (Bool) :=
    ((c0 (a0.1, a0.2)).bind fun t0 => (bif (!t0) then ((c1).bind fun t1 => (some t1)) else ((c2 (a0.1, a0.2)).bind fun t2 => (bif (!t2) then ((c1).bind fun t3 => (some t3)) else ((c3 (a0.1, a0.2)).bind fun t4 => ((c4 (a0.1, a0.2)).bind fun t5 => ((c5 t4.1.1 t5.1).bind fun t6 => (bif (!t6) then (some false) else ((c5 t4.1.2.1 t5.2.1).bind fun t7 => (bif (!t7) then (some false) else ((c5 t4.1.2.2.1 t5.2.2.1).bind fun t8 => (bif (!t8) then (some false) else ((c5 t4.1.2.2.2 t5.2.2.2.1).bind fun t9 => (bif (!t9) then (some false) else (bif (t4.2 != t5.2.2.2.2) then (some false) else (bif (t5.2.2.2.2 != 0) then ((c1).bind fun t10 => (some t10)) else ((c6 a0.1).bind fun t11 => ((c7 a0.2).bind fun t12 => ((c8 a0.2).bind fun t13 => ((c9 a0.2).bind fun t14 => ((c5 t11.1 t5.1).bind fun t15 => (bif t15 then ((c5 t12.1 t5.2.1).bind fun t16 => (bif t16 then ((c5 t13.1 t5.2.2.1).bind fun t17 => (bif t17 then ((c5 t14.1 t5.2.2.2.1).bind fun t18 => (bif t18 then ((c1).bind fun t19 => (some t19)) else (some false))) else (some false))) else (some false))) else (some false)))))))))))))))))))))))
theorem F.pleachlaw31_KeysLay.eq K a0 : F.pleachlaw31_KeysLay (K + 1) a0 = F.pleachlaw31_KeysLay.B (F.pleachref26_Few K) (F.pleachlaw31_awake K) (F.pleachref31_Once K) (F.keys_Lay K) (F.pleachref31_Lay K) (F.pleachref20_Same K) (F.keys_Nodes K) (F.keys_Edges K) (F.keys_Out K) (F.keys_In K) a0 := by kernel_rfl
noncomputable def V.pleachlaw31_KeysLay (a0 : TGraph) := lim fun v => F.pleachlaw31_KeysLay (v 0) a0
theorem V.pleachlaw31_KeysLay.of a0 {r} (h : F.pleachlaw31_KeysLay.B V.pleachref26_Few V.pleachlaw31_awake V.pleachref31_Once V.keys_Lay V.pleachref31_Lay V.pleachref20_Same V.keys_Nodes V.keys_Edges V.keys_Out V.keys_In a0 = some r) : V.pleachlaw31_KeysLay a0 = some r :=
  App.to (App.step 0 (fun v => F.pleachlaw31_KeysLay.eq (v 0) a0) (by unfold F.pleachlaw31_KeysLay.B; repeat' first | exact App.val | exact App.no | exact App.lim | apply App.cond | apply App.guard | apply App.meet | apply App.ite | refine App.bind ?_ fun _ => ?_)) h

end Go.Proofs.Ytdblhdpnllckhaa.AE
end
section
set_option linter.unusedVariables false
set_option linter.unusedSimpArgs false
namespace Go.Proofs.Ytdblhdpnllckhaa.AE
open Go

theorem w64_id {x : Int} (h0 : -9223372036854775808 ≤ x) (h1 : x ≤ 9223372036854775807) : w64 x = x := by
  show IntKind.i64.wrap x = x
  simp [IntKind.wrap, IntKind.bits, IntKind.signed]
  omega
theorem u64_id {x : Int} (h0 : 0 ≤ x) (h1 : x ≤ 18446744073709551615) : IntKind.wrap .u64 x = x := by
  have : IntKind.u64.wrap x = x % 18446744073709551616 := by simp [IntKind.wrap, IntKind.bits, IntKind.signed]
  rw [this]; omega
theorem u64_mod (x : Int) : IntKind.wrap .u64 x = x % 18446744073709551616 := by simp [IntKind.wrap, IntKind.bits, IntKind.signed]
theorem u8_mod (x : Int) : IntKind.wrap .u8 x = x % 256 := by simp [IntKind.wrap, IntKind.bits, IntKind.signed]
theorem w64_up {i n : Nat} (h : i < n) (hn : n ≤ 140737488351232) : w64 ((i : Int) + 1) = ((i + 1 : Nat) : Int) := by rw [w64_id (by omega) (by omega)]; omega
theorem w64_dn {i n : Nat} (h : i < n) (hn : n ≤ 140737488351232) (h0 : 0 < i) : w64 ((i : Int) - 1) = ((i - 1 : Nat) : Int) := by rw [w64_id (by omega) (by omega)]; omega

theorem guard_of {α : Type} {g : Bool} {a : Option α} (h : g = true) : guardK g a = a := by rw [h]; rfl
theorem guard_dec {α : Type} {p : Prop} [Decidable p] {a : Option α} (h : p) : guardK (decide p) a = a := guard_of (decide_eq_true h)
/-- Inside a row. -/
theorem guard_in {α : Type} {i n : Nat} {a : Option α} (h : i < n) : guardK (decide (0 ≤ (i : Int)) && decide ((i : Int) < (n : Int))) a = a := guard_of (by simp [h])
theorem if_in {α : Type} {i n : Nat} {a b : α} (h : i < n) : (bif decide ((i : Int) < (n : Int)) then a else b) = a := by simp [h]
theorem if_out {α : Type} {i n : Nat} {a b : α} (h : n ≤ i) : (bif decide ((i : Int) < (n : Int)) then a else b) = b := by simp [Nat.not_lt.2 h]
theorem if_yes {α : Type} {p : Prop} [Decidable p] {a b : α} (h : p) : (bif decide p then a else b) = a := by simp [h]
theorem if_no {α : Type} {p : Prop} [Decidable p] {a b : α} (h : ¬ p) : (bif decide p then a else b) = b := by simp [h]
theorem nat_cast (i : Nat) : ((i : Nat) : Int).toNat = i := rfl
theorem meet_self {α : Type} (a : Option α) : meet a a = a := by unfold meet; simp
theorem data_len (s : ByteArray) : s.data.toList.length = s.size := by rw [Array.length_toList]; rfl
theorem toList_size (s : ByteArray) : s.toList.length = s.size := by rw [ByteArray.toList_eq]; exact data_len s
theorem toList_nil {s : ByteArray} : s.toList = [] ↔ s.size = 0 := by
  rw [← toList_size, List.length_eq_zero_iff]
theorem bytes_ext {s t : ByteArray} (h : s.toList = t.toList) : s = t := by
  rw [ByteArray.toList_eq, ByteArray.toList_eq] at h
  have : s.data = t.data := by rwa [← Array.toList_inj]
  cases s; cases t; simp_all
theorem strEq_iff {s t : ByteArray} : strEq s t = true ↔ s = t := by
  unfold strEq
  rw [beq_iff_eq]
  exact ⟨bytes_ext, fun h => by rw [h]⟩
theorem strEq_self (s : ByteArray) : strEq s s = true := strEq_iff.2 rfl
theorem strEq_no {s t : ByteArray} (h : s ≠ t) : strEq s t = false := by
  cases hb : strEq s t with
  | false => rfl
  | true => exact absurd (strEq_iff.1 hb) h
/-! ### The order of texts -/

theorem less_leq : ∀ x y : List UInt8, (Op.bytesLess x y || x == y) = !(Op.bytesLess y x)
  | [], [] => by simp [Op.bytesLess]
  | [], b :: y => by simp [Op.bytesLess]
  | a :: x, [] => by simp [Op.bytesLess]
  | a :: x, b :: y => by
    have ih := less_leq x y
    by_cases h1 : a < b
    · have h2 : ¬ b < a := by simp only [UInt8.lt_iff_toNat_lt] at *; omega
      have h3 : ¬ b = a := by rintro rfl; simp at h1
      simp [Op.bytesLess, h1, h2, h3]
    · by_cases h2 : b < a
      · have h3 : ¬ b = a := by rintro rfl; simp at h2
        have h4 : ¬ a = b := fun h => h3 h.symm
        simp [Op.bytesLess, h1, h2, h4]
      · have h3 : a = b := by
          apply UInt8.toNat_inj.1
          simp only [UInt8.lt_iff_toNat_lt] at *
          omega
        subst h3
        simp [Op.bytesLess, h1] at ih ⊢
        exact ih
theorem less_irr : ∀ x : List UInt8, Op.bytesLess x x = false
  | [] => rfl
  | a :: x => by
    have : ¬ a < a := by simp
    simp [Op.bytesLess, less_irr x, this]
theorem less_trans : ∀ x y z : List UInt8, Op.bytesLess x y = true → Op.bytesLess y z = true → Op.bytesLess x z = true
  | _, [], _, h, _ => by simp [Op.bytesLess] at h
  | _, _ :: _, [], _, h => by simp [Op.bytesLess] at h
  | [], b :: y, c :: z, _, _ => rfl
  | a :: x, b :: y, c :: z, h1, h2 => by
    simp only [Op.bytesLess, Bool.or_eq_true, Bool.and_eq_true, decide_eq_true_eq, beq_iff_eq] at h1 h2 ⊢
    rcases h1 with h1 | ⟨rfl, h1⟩
    · rcases h2 with h2 | ⟨rfl, h2⟩
      · left; simp only [UInt8.lt_iff_toNat_lt] at *; omega
      · exact .inl h1
    · rcases h2 with h2 | ⟨rfl, h2⟩
      · exact .inl h2
      · exact .inr ⟨rfl, less_trans x y z h1 h2⟩
/-- Of two texts one is less, or they are the same. -/
theorem lt_or (a b : ByteArray) : (strLt a b || strEq a b) = !strLt b a := less_leq a.toList b.toList
theorem lt_irr (a : ByteArray) : strLt a a = false := less_irr a.toList
theorem lt_trans {a b c : ByteArray} (h : strLt a b = true) (g : strLt b c = true) : strLt a c = true := less_trans _ _ _ h g
theorem lt_asymm {a b : ByteArray} (h : strLt a b = true) : strLt b a = false := by
  cases hb : strLt b a with
  | false => rfl
  | true => have := lt_trans h hb; rw [lt_irr] at this; cases this
theorem lt_total {a b : ByteArray} (h : strLt a b = false) (hn : a ≠ b) : strLt b a = true := by
  have := lt_or a b
  rw [h, strEq_no hn] at this
  cases hb : strLt b a with
  | true => rfl
  | false => rw [hb] at this; simp at this
theorem size_zero {s : ByteArray} (h : s.size = 0) : s = (⟨#[]⟩ : ByteArray) := by
  apply bytes_ext
  rw [toList_nil.2 h]
  exact (toList_nil.2 rfl).symm
theorem strEq_nil (s : ByteArray) : strEq s (⟨#[]⟩ : ByteArray) = (s.size == 0) := by
  rw [Bool.eq_iff_iff, strEq_iff]
  simp only [beq_iff_eq]
  exact ⟨fun h => by rw [h]; rfl, size_zero⟩
theorem strOfNums_size (xs : List Int) : (bytesOf xs).size = xs.length := by unfold bytesOf; simp [ByteArray.size]
theorem strOfNums_append (xs ys : List Int) : bytesOf (xs ++ ys) = bytesOf xs ++ bytesOf ys := by
  apply ByteArray.ext
  simp [bytesOf]
theorem bt_data (s : ByteArray) (i : Nat) (h : i < s.size) : byteAt s (i : Int) = ((s.data.toList[i]'(by rw [Array.length_toList]; exact h)).toNat : Int) := by
  show (((s.data.toList.getD (i : Int).toNat 0).toNat : Nat) : Int) = _
  rw [nat_cast, List.getD_eq_getElem?_getD, List.getElem?_eq_getElem (by rw [data_len]; exact h)]
  rfl
theorem rd_get {e : Sh} {l : List (den e)} {i : Nat} (h : i < l.length) : rd e l i = l[i] := by
  simp [rd, List.getD_eq_getElem?_getD, List.getElem?_eq_getElem h]
theorem rd_mem {e : Sh} {l : List (den e)} {i : Nat} (h : i < l.length) : rd e l i ∈ l := by rw [rd_get h]; exact List.getElem_mem h
theorem drop_rd {e : Sh} {l : List (den e)} {i : Nat} (h : i < l.length) : l.drop i = rd e l i :: l.drop (i + 1) := by rw [rd_get h]; exact List.drop_eq_getElem_cons h
theorem take_rd {e : Sh} {l : List (den e)} {i : Nat} (h : i < l.length) : l.take (i + 1) = l.take i ++ [rd e l i] := by
  rw [rd_get h, List.take_add_one, List.getElem?_eq_getElem h]; rfl

/-- A loop that ends at the first place at which the step tells something; else what is told at the end. -/
def scanG {α : Type} (step : Nat → Option α) (fin : α) : Nat → Nat → α
  | 0, _ => fin
  | d + 1, i => match step i with
    | some r => r
    | none => scanG step fin d (i + 1)
abbrev scanI (step : Nat → Option Int) : Nat → Nat → Int := scanG step 0
theorem scanG_succ {α : Type} (step : Nat → Option α) (fin : α) (d i : Nat) : scanG step fin (d + 1) i = (step i).getD (scanG step fin d (i + 1)) := by
  show (match step i with | some r => r | none => scanG step fin d (i + 1)) = _
  cases step i <;> rfl
theorem scanI_succ (step : Nat → Option Int) (d i : Nat) : scanI step (d + 1) i = (step i).getD (scanI step d (i + 1)) := scanG_succ step 0 d i
end Go.Proofs.Ytdblhdpnllckhaa.AE
end
section
set_option linter.unusedVariables false
set_option linter.unusedSimpArgs false
namespace Go.Proofs.Ytdblhdpnllckhaa.AE
open Go

def okc (c : Int) : Bool := (decide (97 ≤ c) && decide (c ≤ 122)) || (decide (48 ≤ c) && decide (c ≤ 57)) || c == 45
theorem name_fits_ok (c : Int) : V.name_fits c = some (okc c) := by
  refine V.name_fits.of _ ?_
  unfold F.name_fits.B okc
  by_cases a1 : c ≥ 97 <;> by_cases a2 : c ≤ 122 <;> by_cases a3 : c ≥ 48 <;> by_cases a4 : c ≤ 57 <;> simp [Bool.cond_eq_ite, a1, a2, a3, a4] <;> omega
/-- From place i on, d bytes, all fit. -/
def okFrom (s : ByteArray) : Nat → Nat → Bool
  | 0, _ => true
  | d + 1, i => okc (byteAt s i) && okFrom s d (i + 1)
def nameB (s : ByteArray) : Bool := decide (1 ≤ s.size) && decide (s.size ≤ 12) && okFrom s s.size 0

theorem name_Check_l (s : ByteArray) (hs : s.size ≤ 140737488351232) : ∀ d i : Nat, i + d = s.size → V.name_Check.l11010 s (i : Int) = some (if okFrom s d i then 0 else 2)
  | 0, i, h => by
    refine V.name_Check.l11010.of _ _ ?_
    unfold F.name_Check.l11010.B
    rw [if_out (by omega)]
    simp [okFrom]
  | d + 1, i, h => by
    refine V.name_Check.l11010.of _ _ ?_
    unfold F.name_Check.l11010.B
    rw [if_in (by omega), guard_in (by omega), name_fits_ok, Option.bind_some, w64_up (show i < s.size by omega) hs, name_Check_l s hs d (i + 1) (by omega)]
    cases hc : okc (byteAt s (i : Int)) <;> simp [okFrom, hc]
theorem name_Check_ok (s : ByteArray) (hs : s.size ≤ 140737488351232) : V.name_Check s = some (if nameB s then 0 else 2) := by
  refine V.name_Check.of _ ?_
  unfold F.name_Check.B
  rw [strEq_nil]
  have := name_Check_l s hs s.size 0 (by omega)
  rw [show (0 : Int) = ((0 : Nat) : Int) from rfl, this]
  by_cases h0 : s.size = 0
  · simp [Bool.cond_eq_ite, h0, nameB]
  · by_cases h2 : s.size ≤ 12
    · have h1 : 1 ≤ s.size := by omega
      have h3 : ¬ (s.size : Int) > 12 := by omega
      simp [Bool.cond_eq_ite, h0, h1, h2, h3, nameB]
    · have h3 : (s.size : Int) > 12 := by omega
      simp [Bool.cond_eq_ite, h0, h2, h3, nameB]

theorem refIs_l (s : ByteArray) (hs : s.size ≤ 140737488351232) : ∀ d i : Nat, i + d = s.size → V.pleachref05_Is.l1010 s (i : Int) = some (okFrom s d i && (decide (1 ≤ s.size) && decide (s.size ≤ 12)))
  | 0, i, h => by
    refine V.pleachref05_Is.l1010.of _ _ ?_
    unfold F.pleachref05_Is.l1010.B
    rw [if_out (by omega)]
    by_cases h1 : 1 ≤ s.size
    · have h2 : (s.size : Int) ≥ 1 := by omega
      simp [okFrom, h1, h2]
      omega
    · have h2 : ¬ (s.size : Int) ≥ 1 := by omega
      simp [okFrom, h1, h2]
  | d + 1, i, h => by
    refine V.pleachref05_Is.l1010.of _ _ ?_
    unfold F.pleachref05_Is.l1010.B
    rw [if_in (by omega)]
    simp only [guard_in (show i < s.size by omega), w64_up (show i < s.size by omega) hs, refIs_l s hs d (i + 1) (by omega), okFrom, okc]
    generalize byteAt s (i : Int) = c
    generalize okFrom s d (i + 1) = b
    by_cases a1 : c ≥ 97 <;> by_cases a2 : c ≤ 122 <;> by_cases a3 : c ≥ 48 <;> by_cases a4 : c ≤ 57 <;> by_cases a5 : c = 45 <;> simp [Bool.cond_eq_ite, a1, a2, a3, a4, a5] <;> omega
theorem refIs_ok (s : ByteArray) (hs : s.size ≤ 140737488351232) : V.pleachref05_Is s = some (nameB s) := by
  refine V.pleachref05_Is.of _ ?_
  unfold F.pleachref05_Is.B
  rw [show (0 : Int) = ((0 : Nat) : Int) from rfl, refIs_l s hs s.size 0 (by omega), nameB, Bool.and_comm]

def valueB (v : TValue) : Bool := (v.1 == 1 && (v.2.1 == 0 || v.2.1 == 1) && v.2.2.size == 0) || (v.1 == 2 && v.2.2.size == 0) || (v.1 == 3 && v.2.1 == 0 && decide (v.2.2.size ≤ 64))
theorem value_Check_ok (v : TValue) : V.value_Check v = some (if valueB v then 0 else 2) := by
  refine V.value_Check.of _ ?_
  obtain ⟨a, b, s⟩ := v
  unfold F.value_Check.B valueB
  simp only [strEq_nil]
  by_cases a1 : a = 1
  · subst a1
    by_cases b0 : b = 0 <;> by_cases b1 : b = 1 <;> by_cases s0 : s.size = 0 <;> simp [Bool.cond_eq_ite, b0, b1, s0]
  · by_cases a2 : a = 2
    · subst a2
      by_cases s0 : s.size = 0 <;> simp [Bool.cond_eq_ite, s0]
    · by_cases a3 : a = 3
      · subst a3
        by_cases b0 : b = 0 <;> by_cases s0 : s.size ≤ 64 <;> simp [Bool.cond_eq_ite, b0, s0] <;> omega
      · simp [Bool.cond_eq_ite, a1, a2, a3]
theorem refVIs_ok (v : TValue) : V.pleachref06_Is v = some (valueB v) := by
  refine V.pleachref06_Is.of _ ?_
  obtain ⟨a, b, s⟩ := v
  unfold F.pleachref06_Is.B valueB
  simp only [strEq_nil]
  by_cases a1 : a = 1
  · subst a1
    by_cases s0 : s.size = 0 <;> by_cases b0 : b ≥ 0 <;> by_cases b1 : b ≤ 1 <;> simp [Bool.cond_eq_ite, b0, b1, s0] <;> omega
  · by_cases a2 : a = 2
    · subst a2
      by_cases s0 : s.size = 0 <;> simp [Bool.cond_eq_ite, s0]
    · by_cases a3 : a = 3
      · subst a3
        by_cases b0 : b = 0 <;> by_cases s0 : s.size ≤ 64 <;> simp [Bool.cond_eq_ite, b0, s0] <;> omega
      · simp [Bool.cond_eq_ite, a1, a2, a3]

/-! ### Rows that rise -/

def okProps (l : List TProp) : Prop := l.length ≤ 140737488351232 ∧ ∀ p ∈ l, p.1.size ≤ 140737488351232 ∧ p.2.2.2.size ≤ 140737488351232 ∧ -9223372036854775808 ≤ p.2.2.1 ∧ p.2.2.1 ≤ 9223372036854775807
def okTexts (l : List ByteArray) : Prop := l.length ≤ 140737488351232 ∧ ∀ s ∈ l, s.size ≤ 140737488351232
def propStep (l : List TProp) (i : Nat) : Option Int :=
  if (nameB (rd sProp l i).1 && valueB (rd sProp l i).2) = false then some 2
  else if 0 < i ∧ strLt (rd sProp l (i - 1)).1 (rd sProp l i).1 = false then some 4 else none
def textStep (l : List ByteArray) (i : Nat) : Option Int :=
  if nameB (rd .str l i) = false then some 2
  else if 0 < i ∧ strLt (rd .str l (i - 1)) (rd .str l i) = false then some 4 else none
def propsN (l : List TProp) : Int := if l.length > 8 then 5 else scanI (propStep l) l.length 0
def rowN (l : List ByteArray) : Int := scanI (textStep l) l.length 0
def restN (labels : List ByteArray) (props : List TProp) : Int := if labels.length > 8 then 5 else if rowN labels = 0 then propsN props else rowN labels

theorem CheckProps_l (l : List TProp) (hl : okProps l) : ∀ d i : Nat, i + d = l.length → V.elem_CheckProps.l11010 l (i : Int) = some (scanI (propStep l) d i)
  | 0, i, h => by
    refine V.elem_CheckProps.l11010.of _ _ ?_
    unfold F.elem_CheckProps.l11010.B
    rw [if_out (by omega)]
    rfl
  | d + 1, i, h => by
    refine V.elem_CheckProps.l11010.of _ _ ?_
    unfold F.elem_CheckProps.l11010.B
    have hi : i < l.length := by omega
    rw [if_in hi, guard_in hi]
    simp only [nat_cast, name_Check_ok _ (hl.2 _ (rd_mem (e := sProp) hi)).1, Option.bind_some, value_Check_ok, w64_up hi hl.1, CheckProps_l l hl d (i + 1) (by omega)]
    rw [scanI_succ]
    unfold propStep
    cases hn : nameB (rd sProp l i).1 with
    | false => simp
    | true =>
      cases hv : valueB (rd sProp l i).2 with
      | false => simp [hv]
      | true =>
        by_cases h0 : 0 < i
        · rw [w64_dn hi hl.1 h0, guard_in (show i - 1 < l.length by omega), nat_cast]
          cases hless : strLt (rd sProp l (i - 1)).1 (rd sProp l i).1 <;> simp [hless, hv, h0]
        · have h0 : i = 0 := by omega
          subst h0
          simp [hv]
theorem CheckProps_ok (l : List TProp) (hl : okProps l) : V.elem_CheckProps l = some (propsN l) := by
  refine V.elem_CheckProps.of _ ?_
  unfold F.elem_CheckProps.B propsN
  have := CheckProps_l l hl l.length 0 (by omega)
  rw [show (0 : Int) = ((0 : Nat) : Int) from rfl, this]
  by_cases h : l.length > 8
  · rw [if_yes (by omega), if_pos h]
  · rw [if_no (by omega), if_neg h]
theorem refProps_l (l : List TProp) (hl : okProps l) : ∀ d i : Nat, i + d = l.length → V.pleachref25_Props.l11010 l (i : Int) = some (scanI (propStep l) d i)
  | 0, i, h => by
    refine V.pleachref25_Props.l11010.of _ _ ?_
    unfold F.pleachref25_Props.l11010.B
    rw [if_out (by omega)]
    rfl
  | d + 1, i, h => by
    refine V.pleachref25_Props.l11010.of _ _ ?_
    unfold F.pleachref25_Props.l11010.B
    have hi : i < l.length := by omega
    rw [if_in hi, guard_in hi]
    simp only [nat_cast, refIs_ok _ (hl.2 _ (rd_mem (e := sProp) hi)).1, Option.bind_some, refVIs_ok, w64_up hi hl.1, refProps_l l hl d (i + 1) (by omega), guard_in hi, lt_or]
    rw [scanI_succ]
    unfold propStep
    cases hn : nameB (rd sProp l i).1 with
    | false => simp
    | true =>
      cases hv : valueB (rd sProp l i).2 with
      | false => simp [hv]
      | true =>
        by_cases h0 : 0 < i
        · rw [w64_dn hi hl.1 h0, guard_in (show i - 1 < l.length by omega), nat_cast]
          cases hless : strLt (rd sProp l (i - 1)).1 (rd sProp l i).1 <;> simp [hless, hv, h0]
        · have h0 : i = 0 := by omega
          subst h0
          simp [hv]
theorem refProps_ok (l : List TProp) (hl : okProps l) : V.pleachref25_Props l = some (propsN l) := by
  refine V.pleachref25_Props.of _ ?_
  unfold F.pleachref25_Props.B propsN
  have := refProps_l l hl l.length 0 (by omega)
  rw [show (0 : Int) = ((0 : Nat) : Int) from rfl, this]
  by_cases h : l.length > 8
  · rw [if_yes (by omega), if_pos h]
  · rw [if_no (by omega), if_neg h]

theorem Row_l (l : List ByteArray) (hl : okTexts l) : ∀ d i : Nat, i + d = l.length → V.name_Row.l1010 l (i : Int) = some (scanI (textStep l) d i)
  | 0, i, h => by
    refine V.name_Row.l1010.of _ _ ?_
    unfold F.name_Row.l1010.B
    rw [if_out (by omega)]
    rfl
  | d + 1, i, h => by
    refine V.name_Row.l1010.of _ _ ?_
    unfold F.name_Row.l1010.B
    have hi : i < l.length := by omega
    rw [if_in hi, guard_in hi]
    simp only [nat_cast, name_Check_ok _ (hl.2 _ (rd_mem (e := .str) hi)), Option.bind_some, w64_up hi hl.1, Row_l l hl d (i + 1) (by omega)]
    rw [scanI_succ]
    unfold textStep
    cases hn : nameB (rd .str l i) with
    | false => simp
    | true =>
      by_cases h0 : 0 < i
      · rw [w64_dn hi hl.1 h0, guard_in (show i - 1 < l.length by omega), nat_cast]
        cases hless : strLt (rd .str l (i - 1)) (rd .str l i) <;> simp [hless, h0]
      · have h0 : i = 0 := by omega
        subst h0
        simp
theorem Row_ok (l : List ByteArray) (hl : okTexts l) : V.name_Row l = some (rowN l) := by
  refine V.name_Row.of _ ?_
  unfold F.name_Row.B rowN
  exact Row_l l hl l.length 0 (by omega)
theorem refRow_l (l : List ByteArray) (hl : okTexts l) : ∀ d i : Nat, i + d = l.length → V.pleachref05_Row.l1010 l (i : Int) = some (scanI (textStep l) d i)
  | 0, i, h => by
    refine V.pleachref05_Row.l1010.of _ _ ?_
    unfold F.pleachref05_Row.l1010.B
    rw [if_out (by omega)]
    rfl
  | d + 1, i, h => by
    refine V.pleachref05_Row.l1010.of _ _ ?_
    unfold F.pleachref05_Row.l1010.B
    have hi : i < l.length := by omega
    rw [if_in hi, guard_in hi]
    simp only [nat_cast, refIs_ok _ (hl.2 _ (rd_mem (e := .str) hi)), Option.bind_some, w64_up hi hl.1, refRow_l l hl d (i + 1) (by omega), guard_in hi, lt_or]
    rw [scanI_succ]
    unfold textStep
    cases hn : nameB (rd .str l i) with
    | false => simp
    | true =>
      by_cases h0 : 0 < i
      · rw [w64_dn hi hl.1 h0, guard_in (show i - 1 < l.length by omega), nat_cast]
        cases hless : strLt (rd .str l (i - 1)) (rd .str l i) <;> simp [hless, h0]
      · have h0 : i = 0 := by omega
        subst h0
        simp
theorem refRow_ok (l : List ByteArray) (hl : okTexts l) : V.pleachref05_Row l = some (rowN l) := by
  refine V.pleachref05_Row.of _ ?_
  unfold F.pleachref05_Row.B rowN
  exact refRow_l l hl l.length 0 (by omega)
theorem rest_ok (a : List ByteArray) (l : List TProp) (ha : okTexts a) (hl : okProps l) : V.elem_rest a l = some (restN a l) := by
  refine V.elem_rest.of _ _ ?_
  unfold F.elem_rest.B restN
  rw [Row_ok a ha, CheckProps_ok l hl]
  by_cases h : a.length > 8
  · rw [if_yes (by omega), if_pos h]
  · rw [if_no (by omega), if_neg h]
    by_cases h0 : rowN a = 0 <;> simp [Bool.cond_eq_ite, h0]
theorem refRest_ok (a : List ByteArray) (l : List TProp) (ha : okTexts a) (hl : okProps l) : V.pleachref25_rest a l = some (restN a l) := by
  refine V.pleachref25_rest.of _ _ ?_
  unfold F.pleachref25_rest.B restN
  rw [refRow_ok a ha, refProps_ok l hl]
  by_cases h : a.length > 8
  · rw [if_yes (by omega), if_pos h]
  · rw [if_no (by omega), if_neg h]
    by_cases h0 : rowN a = 0 <;> simp [Bool.cond_eq_ite, h0]
end Go.Proofs.Ytdblhdpnllckhaa.AE
end
section
set_option linter.unusedVariables false
set_option linter.unusedSimpArgs false
namespace Go.Proofs.Ytdblhdpnllckhaa.AE
open Go

/-- A number's bytes, seven bits a byte, 128 more in all but the last. -/
def vput : Nat → Nat → List Int
  | 0, _ => []
  | f + 1, n => if n < 128 then [(n : Int)] else ((n % 128 + 128 : Nat) : Int) :: vput f (n / 128)
theorem vput_len : ∀ f n : Nat, (vput f n).length ≤ f
  | 0, _ => by simp [vput]
  | f + 1, n => by
    unfold vput
    split
    · simp
    · have := vput_len f (n / 128)
      simp
      omega
def numB (n : Nat) : ByteArray := bytesOf (vput 10 n)
theorem numB_size (n : Nat) : (numB n).size ≤ 10 := by unfold numB; rw [strOfNums_size]; exact vput_len 10 n
theorem or128 (c : Int) (h0 : 0 ≤ c) (h1 : c < 256) : (((BitVec.ofInt 8 c ||| BitVec.ofInt 8 128).toNat : Nat) : Int) = c % 128 + 128 := by
  obtain ⟨n, rfl⟩ := Int.eq_ofNat_of_zero_le h0
  have key : ∀ m : Fin 256, (BitVec.ofInt 8 (m.1 : Int) ||| BitVec.ofInt 8 128).toNat = m.1 % 128 + 128 := by decide +kernel
  have := key ⟨n, by omega⟩
  simp only at this
  rw [this]
  omega
theorem repl_len {α : Type} (a : α) : ∀ n, (repl n a).length = n
  | 0 => rfl
  | n + 1 => by simp [repl, repl_len a n]
theorem take_set_succ {α : Type} (l : List α) (i : Nat) (x : α) (h : i < l.length) : (l.set i x).take (i + 1) = l.take i ++ [x] := by
  rw [List.take_add_one, List.take_set, List.set_eq_of_length_le (by rw [List.length_take]; omega)]
  simp [h]
theorem varint_Put_l (a : Int) : ∀ (f n i : Nat) (arr : List Int), n < 128 ^ (f + 1) → i + f + 1 ≤ 10 → arr.length = 10 → V.varint_Put.l11100 a (n : Int) (i : Int) arr = some (bytesOf (arr.take i ++ vput (f + 1) n))
  | f, n, i, arr, hn, hi, ha => by
    refine V.varint_Put.l11100.of _ _ _ _ ?_
    unfold F.varint_Put.l11100.B
    have e7 : Int.fdiv (n : Int) (2 ^ 7) = ((n / 128 : Nat) : Int) := by rw [Int.fdiv_eq_ediv_of_nonneg _ (by decide)]; rfl
    rw [e7, w64_id (x := (i : Int) + 1) (by omega) (by omega)]
    simp only [u8_mod]
    by_cases h : n < 128
    · rw [if_no (by omega), guard_of (by simp [ha]; omega), guard_of (by simp [ha]; omega)]
      have e1 : (n : Int) % 256 = n := by omega
      have e2 : ((i : Int) + 1).toNat = i + 1 := rfl
      rw [e1, e2, nat_cast, List.drop_zero, take_set_succ _ _ _ (by omega)]
      have e3 : vput (f + 1) n = [(n : Int)] := by unfold vput; rw [if_pos h]
      rw [e3]
    · cases f with
      | zero => simp at hn; omega
      | succ f =>
        rw [if_yes (by omega), guard_of (by simp [ha]; omega), or128 _ (by omega) (by omega), nat_cast]
        have ih := varint_Put_l a f (n / 128) (i + 1) (arr.set i (((n : Int) % 256 % 128 + 128) % 256)) (by rw [Nat.pow_succ] at hn; exact Nat.div_lt_of_lt_mul (by omega)) (by omega) (by simp [ha])
        rw [show ((i : Int) + 1) = ((i + 1 : Nat) : Int) by omega, ih, take_set_succ _ _ _ (by omega)]
        have e3 : vput (f + 1 + 1) n = ((n % 128 + 128 : Nat) : Int) :: vput (f + 1) (n / 128) := by rw [vput, if_neg h]
        rw [e3, List.append_assoc]
        have e4 : ((n : Int) % 256 % 128 + 128) % 256 = ((n % 128 + 128 : Nat) : Int) := by omega
        rw [e4]
        rfl
theorem varint_Put_ok {n : Nat} (h1 : n < 18446744073709551616) : V.varint_Put (n : Int) = some (numB n) := by
  refine V.varint_Put.of _ ?_
  unfold F.varint_Put.B
  have := varint_Put_l (n : Int) 9 n 0 (repl 10 0) (by omega) (by omega) (repl_len _ _)
  rw [show (0 : Int) = ((0 : Nat) : Int) from rfl] at this ⊢
  rw [this]
  rfl
theorem Put_eq {n : Int} (h0 : 0 ≤ n) (h1 : n < 18446744073709551616) : V.varint_Put n = some (numB n.toNat) := by
  obtain ⟨m, rfl⟩ := Int.eq_ofNat_of_zero_le h0
  exact varint_Put_ok (by omega)

/-- The digits to the base 128. -/
def digs : Nat → Nat → List Int
  | 0, _ => []
  | f + 1, n => ((n % 128 : Nat) : Int) :: if n < 128 then [] else digs f (n / 128)
theorem digs_len : ∀ f n : Nat, (digs f n).length ≤ f
  | 0, _ => by simp [digs]
  | f + 1, n => by
    unfold digs
    split
    · simp
    · have := digs_len f (n / 128)
      simp
      omega
theorem div128 (n : Nat) : Int.tdiv (n : Int) 128 = ((n / 128 : Nat) : Int) := by rw [Int.tdiv_eq_ediv_of_nonneg (by omega)]; omega
theorem mod128 (n : Nat) : Int.tmod (n : Int) 128 = ((n % 128 : Nat) : Int) := by rw [Int.tmod_eq_emod_of_nonneg (by omega)]; omega
theorem digits_l (a : Int) : ∀ (f n : Nat) (pre : List Int), n < 128 ^ f → n < 18446744073709551616 → pre.length + f ≤ 100 →
    V.pleachref01_Digits.l11100 a (n : Int) pre = some (pre ++ if n = 0 then [] else digs f n)
  | 0, n, pre, hn, _, _ => by
    have : n = 0 := by simpa using hn
    subst this
    refine V.pleachref01_Digits.l11100.of _ _ _ ?_
    unfold F.pleachref01_Digits.l11100.B
    rw [if_no (by omega)]
    simp
  | f + 1, n, pre, hn, h64, hl => by
    refine V.pleachref01_Digits.l11100.of _ _ _ ?_
    unfold F.pleachref01_Digits.l11100.B
    by_cases h0 : n = 0
    · subst h0
      rw [if_no (by omega)]
      simp
    · rw [if_yes (by omega), guard_dec (by simp [nmax]; omega), div128, mod128, u64_id (by omega) (by omega), w64_id (by omega) (by omega)]
      rw [digits_l a f (n / 128) _ (by rw [Nat.pow_succ] at hn; exact Nat.div_lt_of_lt_mul (by omega)) (by omega) (by simp; omega)]
      rw [if_neg h0]
      have : digs (f + 1) n = ((n % 128 : Nat) : Int) :: if n < 128 then [] else digs f (n / 128) := rfl
      rw [this]
      by_cases hlt : n < 128
      · have : n / 128 = 0 := by omega
        simp [this, hlt]
      · have : ¬ n / 128 = 0 := by omega
        simp [this, hlt]
theorem digits_ok (n : Nat) (h64 : n < 18446744073709551616) : V.pleachref01_Digits (n : Int) = some (digs 10 n) := by
  refine V.pleachref01_Digits.of _ ?_
  unfold F.pleachref01_Digits.B
  rw [div128, mod128, u64_id (by omega) (by omega), w64_id (by omega) (by omega)]
  rw [digits_l (n : Int) 9 (n / 128) _ (by omega) (by omega) (by simp)]
  have : digs 10 n = ((n % 128 : Nat) : Int) :: if n < 128 then [] else digs 9 (n / 128) := rfl
  rw [this]
  by_cases hlt : n < 128
  · have : n / 128 = 0 := by omega
    simp [this, hlt]
  · have : ¬ n / 128 = 0 := by omega
    simp [this, hlt]
theorem digs_at : ∀ (f n i : Nat), n < 128 ^ f → i < (digs f n).length → 0 ≤ (digs f n).getD i 0 ∧ (digs f n).getD i 0 < 128
  | 0, _, _, _, h => by simp [digs] at h
  | f + 1, n, 0, _, _ => by simp [digs]; omega
  | f + 1, n, i + 1, hn, h => by
    unfold digs at h ⊢
    by_cases hlt : n < 128
    · simp [hlt] at h
    · simp only [hlt, if_false] at h ⊢
      have := digs_at f (n / 128) i (by rw [Nat.pow_succ] at hn; exact Nat.div_lt_of_lt_mul (by omega)) (by simpa using h)
      simpa using this
/-- With the marks: all but the last have 128 more. -/
def marks : List Int → List Int
  | [] => []
  | [c] => [c]
  | c :: d :: r => (c + 128) :: marks (d :: r)
theorem marks_digs : ∀ (f n : Nat), n < 128 ^ f → marks (digs f n) = vput f n
  | 0, n, h => by simp [digs, marks, vput]
  | f + 1, n, h => by
    unfold digs vput
    by_cases hlt : n < 128
    · simp [hlt, marks]
      omega
    · simp only [hlt, if_false]
      cases f with
      | zero => simp at h; omega
      | succ f =>
        have ih := marks_digs (f + 1) (n / 128) (by rw [Nat.pow_succ] at h; exact Nat.div_lt_of_lt_mul (by omega))
        rw [show digs (f + 1) (n / 128) = ((n / 128 % 128 : Nat) : Int) :: if n / 128 < 128 then [] else digs f (n / 128 / 128) from rfl] at ih ⊢
        rw [marks, ih]
        simp
theorem one_size (c : Int) : (bytesOf [c]).size = 1 := strOfNums_size [c]
theorem put_l (a : Int) (l : List Int) (hl : l.length ≤ 10) (hd : ∀ i, i < l.length → 0 ≤ l.getD i 0 ∧ l.getD i 0 < 128) : ∀ (d i : Nat) (out : ByteArray), i + d = l.length → out.size ≤ i →
    V.pleachref01_Put.l111010 a out (i : Int) l = some (out ++ bytesOf (marks (l.drop i)))
  | 0, i, out, h, ho => by
    refine V.pleachref01_Put.l111010.of _ _ _ _ ?_
    unfold F.pleachref01_Put.l111010.B
    rw [if_out (by omega), List.drop_eq_nil_of_le (by omega)]
    simp [marks, bytesOf]
    apply ByteArray.ext
    simp
  | d + 1, i, out, h, ho => by
    refine V.pleachref01_Put.l111010.of _ _ _ _ ?_
    unfold F.pleachref01_Put.l111010.B
    have hil : i < l.length := by omega
    have hb := hd i hil
    have hg : l.getD i 0 = l[i] := by simp [List.getD_eq_getElem?_getD, List.getElem?_eq_getElem hil]
    have hr : rd (.int .i64) l i = l[i] := rd_get (e := .int .i64) hil
    have hdr : l.drop i = l[i] :: l.drop (i + 1) := List.drop_eq_getElem_cons hil
    rw [hg] at hb
    rw [if_in hil, guard_in hil, w64_up hil (by omega), nat_cast, hr, w64_id (x := l[i] + 128) (by omega) (by omega), u8_mod, u8_mod]
    rw [guard_dec (by rw [one_size]; simp [i64max]; omega), guard_dec (by rw [one_size]; simp [i64max]; omega)]
    have ih : ∀ c : Int, V.pleachref01_Put.l111010 a (out ++ bytesOf [c]) ((i + 1 : Nat) : Int) l = _ := fun c => put_l a l hl hd d (i + 1) _ (by omega) (by rw [ByteArray.size_append, one_size]; omega)
    rw [ih, ih]
    by_cases hlast : i + 1 < l.length
    · rw [if_in hlast, hdr, List.drop_eq_getElem_cons hlast, marks, ← List.drop_eq_getElem_cons hlast]
      rw [ByteArray.append_assoc, ← strOfNums_append]
      have : (l[i] + 128) % 256 = l[i] + 128 := by omega
      rw [this]
      rfl
    · rw [if_out (by omega)]
      have hnil : l.drop (i + 1) = [] := List.drop_eq_nil_of_le (by omega)
      rw [hdr, hnil, marks]
      have : l[i] % 256 = l[i] := by omega
      rw [this, ByteArray.append_assoc, ← strOfNums_append]
      rfl
theorem refPut_ok (n : Nat) (h64 : n < 18446744073709551616) : V.pleachref01_Put (n : Int) = some (numB n) := by
  refine V.pleachref01_Put.of _ ?_
  unfold F.pleachref01_Put.B
  rw [digits_ok n h64, Option.bind_some]
  have hn : n < 128 ^ 10 := by omega
  have := put_l (n : Int) (digs 10 n) (digs_len 10 n) (fun i hi => digs_at 10 n i hn hi) (digs 10 n).length 0 ⟨#[]⟩ (by omega) (by simp [ByteArray.size])
  rw [show (0 : Int) = ((0 : Nat) : Int) from rfl, this, List.drop_zero, marks_digs 10 n hn]
  congr 1
theorem xor_zero (x : Int) (h0 : 0 ≤ x) (h1 : x < 18446744073709551616) : (((BitVec.ofInt 64 x ^^^ BitVec.ofInt 64 0).toNat : Nat) : Int) = x := by
  obtain ⟨n, rfl⟩ := Int.eq_ofNat_of_zero_le h0
  have e2 : (BitVec.ofInt 64 (n : Int) ^^^ BitVec.ofInt 64 0).toNat = n := by
    have : BitVec.ofInt 64 0 = 0#64 := rfl
    rw [this, BitVec.xor_zero, BitVec.toNat_ofInt]
    omega
  rw [e2]
theorem xor_ones (x : Int) (h0 : 0 ≤ x) (h1 : x < 18446744073709551616) : (((BitVec.ofInt 64 x ^^^ BitVec.ofInt 64 18446744073709551615).toNat : Nat) : Int) = 18446744073709551615 - x := by
  obtain ⟨n, rfl⟩ := Int.eq_ofNat_of_zero_le h0
  have : BitVec.ofInt 64 18446744073709551615 = BitVec.allOnes 64 := by decide
  rw [this, BitVec.xor_allOnes, BitVec.toNat_not, BitVec.toNat_ofInt]
  omega
/-- A number's place among 0, -1, 1, -2, 2. -/
def zig (a : Int) : Int := if 0 ≤ a then 2 * a else -2 * a - 1
theorem zig_bound {a : Int} (h0 : -9223372036854775808 ≤ a) (h1 : a ≤ 9223372036854775807) : 0 ≤ zig a ∧ zig a < 18446744073709551616 := by unfold zig; split <;> omega
theorem zig_ok {a : Int} (h0 : -9223372036854775808 ≤ a) (h1 : a ≤ 9223372036854775807) : V.varint_Zig a = some (zig a) := by
  refine V.varint_Zig.of _ ?_
  unfold F.varint_Zig.B zig
  have e1 : (2 : Int) ^ 1 = 2 := rfl
  have e2 : Int.fdiv a (2 ^ 63) = a / 9223372036854775808 := by rw [Int.fdiv_eq_ediv_of_nonneg _ (by decide)]; rfl
  congr 1
  rw [e1, e2]
  by_cases h : 0 ≤ a
  · rw [if_pos h, u64_id (x := a) (by omega) (by omega), u64_id (x := a * 2) (by omega) (by omega), show a / 9223372036854775808 = 0 by omega, u64_id (x := 0) (by omega) (by omega), xor_zero _ (by omega) (by omega), u64_id (by omega) (by omega)]
    omega
  · rw [if_neg h, show a / 9223372036854775808 = -1 by omega]
    have e1 : IntKind.wrap .u64 a = a + 18446744073709551616 := by rw [u64_mod]; omega
    have e2 : IntKind.wrap .u64 (-1) = 18446744073709551615 := by rw [u64_mod]; rfl
    have e3 : IntKind.wrap .u64 ((a + 18446744073709551616) * 2) = 2 * a + 18446744073709551616 := by rw [u64_mod]; omega
    rw [e1, e2, e3, xor_ones _ (by omega) (by omega), u64_id (by omega) (by omega)]
    omega
theorem refZig_ok {a : Int} (h0 : -9223372036854775808 ≤ a) (h1 : a ≤ 9223372036854775807) : V.pleachref01_Zig a = some (zig a) := by
  refine V.pleachref01_Zig.of _ ?_
  unfold F.pleachref01_Zig.B zig
  by_cases h : a ≥ 0
  · rw [if_yes h, if_pos (by omega), u64_id (x := a) (by omega) (by omega), u64_id (by omega) (by omega)]
    congr 1
    omega
  · rw [if_no h, if_neg (by omega), w64_id (x := a + 1) (by omega) (by omega), w64_id (by omega) (by omega), u64_id (x := 0 - (a + 1)) (by omega) (by omega), u64_id (x := (0 - (a + 1)) * 2) (by omega) (by omega), u64_id (by omega) (by omega)]
    congr 1
    omega

/-- A text's bytes: how many it has, and these. -/
def textB (s : ByteArray) : ByteArray := numB s.size ++ s
theorem textB_size (s : ByteArray) : (textB s).size ≤ 10 + s.size := by
  unfold textB
  rw [ByteArray.size_append]
  have := numB_size s.size
  omega
theorem PutText_ok (s : ByteArray) (hs : s.size ≤ 140737488351232) : V.scan_PutText s = some (textB s) := by
  refine V.scan_PutText.of _ ?_
  unfold F.scan_PutText.B
  have := numB_size s.size
  rw [u64_id (by omega) (by omega), varint_Put_ok (by omega), Option.bind_some, guard_dec (by simp [i64max]; omega)]
  rfl
theorem refPutText_ok (s : ByteArray) (hs : s.size ≤ 140737488351232) : V.pleachref04_PutText s = some (textB s) := by
  refine V.pleachref04_PutText.of _ ?_
  unfold F.pleachref04_PutText.B
  have := numB_size s.size
  rw [u64_id (by omega) (by omega), refPut_ok _ (by omega), Option.bind_some, guard_dec (by simp [i64max]; omega)]
  rfl
theorem PutNum_ok (n : Nat) (h : n ≤ 140737488351232) : V.scan_PutNum (n : Int) = some (numB n) := by
  refine V.scan_PutNum.of _ ?_
  unfold F.scan_PutNum.B
  rw [if_neg (by omega), u64_id (by omega) (by omega), varint_Put_ok (by omega), Option.bind_some]
theorem refPutNum_ok (n : Nat) (h : n ≤ 140737488351232) : V.pleachref04_PutNum (n : Int) = some (numB n) := by
  refine V.pleachref04_PutNum.of _ ?_
  unfold F.pleachref04_PutNum.B
  rw [if_no (by omega), u64_id (by omega) (by omega), refPut_ok _ (by omega), Option.bind_some]

/-- A value's bytes. -/
def valB (v : TValue) : ByteArray :=
  if valueB v = true then
    (if v.1 = 1 then bytesOf [1, v.2.1] else if v.1 = 2 then bytesOf [2] ++ numB (zig v.2.1).toNat else bytesOf [3] ++ textB v.2.2)
  else ⟨#[]⟩
theorem valB_size (v : TValue) : (valB v).size ≤ 80 := by
  unfold valB
  split
  · rename_i hv
    split
    · simp [strOfNums_size]
    · split
      · rw [ByteArray.size_append, strOfNums_size]
        have := numB_size (zig v.2.1).toNat
        simp; omega
      · rename_i a1 a2
        rw [ByteArray.size_append, strOfNums_size]
        have := textB_size v.2.2
        have h64 : v.2.2.size ≤ 64 := by
          unfold valueB at hv
          simp [a1, a2] at hv
          exact hv.2
        simp; omega
  · simp [ByteArray.size]
theorem lit_one (n : UInt8) (c : Int) (h : UInt8.ofNat c.toNat = n) : (⟨#[n]⟩ : ByteArray) = bytesOf [c] := by
  unfold bytesOf; simp [h]
theorem value_Put_ok (v : TValue) (hb : -9223372036854775808 ≤ v.2.1 ∧ v.2.1 ≤ 9223372036854775807) : V.value_Put v = some (valB v, if valueB v then 0 else 2) := by
  refine V.value_Put.of _ ?_
  obtain ⟨a, b, s⟩ := v
  unfold F.value_Put.B
  simp only at hb ⊢
  rw [value_Check_ok, Option.bind_some]
  unfold valB
  cases hv : valueB (a, b, s) with
  | false => simp
  | true =>
    simp only [if_true]
    unfold valueB at hv
    by_cases a1 : a = 1
    · subst a1
      simp at hv
      have hb2 : b % 256 = b := by omega
      simp only [u8_mod, hb2]
      rw [guard_dec (by rw [one_size, one_size]; simp [i64max]), ← strOfNums_append]
      rfl
    · by_cases a2 : a = 2
      · subst a2
        have hz := zig_bound hb.1 hb.2
        have e : V.scan_PutInt b = some (numB (zig b).toNat) := by
          refine V.scan_PutInt.of _ ?_
          unfold F.scan_PutInt.B
          have : V.varint_Int b = some (numB (zig b).toNat) := by
            refine V.varint_Int.of _ ?_
            unfold F.varint_Int.B
            rw [zig_ok hb.1 hb.2, Option.bind_some, Put_eq hz.1 hz.2, Option.bind_some]
          rw [this, Option.bind_some]
        have := numB_size (zig b).toNat
        rw [e, Option.bind_some, guard_dec (p := _ ≤ _) (a := some (bytesOf [_] ++ numB (zig b).toNat, (0 : Int))) (by rw [one_size]; simp [i64max]; omega)]
        simp [u8_mod]
      · have a3 : a = 3 := by simp [a1, a2] at hv; exact hv.1.1
        have h64 : s.size ≤ 64 := by simp [a1, a2] at hv; exact hv.2
        subst a3
        have := textB_size s
        rw [PutText_ok s (by omega), Option.bind_some, guard_dec (p := _ ≤ _) (a := some (bytesOf [_] ++ textB s, (0 : Int))) (by rw [one_size]; simp [i64max]; omega)]
        simp [u8_mod]
theorem refVPut_ok (v : TValue) (hb : -9223372036854775808 ≤ v.2.1 ∧ v.2.1 ≤ 9223372036854775807) : V.pleachref06_Put v = some (valB v) := by
  refine V.pleachref06_Put.of _ ?_
  obtain ⟨a, b, s⟩ := v
  unfold F.pleachref06_Put.B
  simp only at hb ⊢
  rw [refVIs_ok, Option.bind_some]
  unfold valB
  cases hv : valueB (a, b, s) with
  | false => simp
  | true =>
    simp only [if_true]
    unfold valueB at hv
    by_cases a1 : a = 1
    · subst a1
      simp at hv
      have hb2 : b % 256 = b := by omega
      simp [u8_mod, hb2]
    · by_cases a2 : a = 2
      · subst a2
        have hz := zig_bound hb.1 hb.2
        have := numB_size (zig b).toNat
        rw [refZig_ok hb.1 hb.2]
        obtain ⟨z, ez⟩ := Int.eq_ofNat_of_zero_le hz.1
        simp only [Option.bind_some]
        rw [ez, refPut_ok z (by omega), Option.bind_some, guard_dec (p := _ ≤ _) (a := some ((⟨#[2]⟩ : ByteArray) ++ numB z)) (by have e : (⟨#[2]⟩ : ByteArray).size = 1 := rfl; rw [e]; have := numB_size z; unfold i64max; omega), lit_one 2 2 rfl]
        simp
      · have a3 : a = 3 := by simp [a1, a2] at hv; exact hv.1.1
        have h64 : s.size ≤ 64 := by simp [a1, a2] at hv; exact hv.2
        subst a3
        have := textB_size s
        rw [refPutText_ok s (by omega), Option.bind_some, guard_dec (p := _ ≤ _) (a := some ((⟨#[3]⟩ : ByteArray) ++ textB s)) (by have e : (⟨#[3]⟩ : ByteArray).size = 1 := rfl; rw [e]; unfold i64max; omega), lit_one 3 3 rfl]
        simp
end Go.Proofs.Ytdblhdpnllckhaa.AE
end
section
set_option linter.unusedVariables false
set_option linter.unusedSimpArgs false
namespace Go.Proofs.Ytdblhdpnllckhaa.AE
open Go

theorem scanI_zero {step : Nat → Option Int} (hs : ∀ i r, step i = some r → r ≠ 0) : ∀ d i, scanI step d i = 0 → ∀ j, i ≤ j → j < i + d → step j = none
  | 0, i, _, j, h1, h2 => by omega
  | d + 1, i, h, j, h1, h2 => by
    rw [scanI_succ] at h
    cases hq : step i with
    | some r => rw [hq] at h; exact absurd h (hs i r hq)
    | none =>
      rw [hq] at h
      by_cases hij : j = i
      · rw [hij]; exact hq
      · exact scanI_zero hs d (i + 1) h j (by omega) (by omega)
theorem propStep_ne (l : List TProp) (i : Nat) (r : Int) (h : propStep l i = some r) : r ≠ 0 := by
  unfold propStep at h
  split at h
  · injection h with h; omega
  · split at h
    · injection h with h; omega
    · cases h
theorem textStep_ne (l : List ByteArray) (i : Nat) (r : Int) (h : textStep l i = some r) : r ≠ 0 := by
  unfold textStep at h
  split at h
  · injection h with h; omega
  · split at h
    · injection h with h; omega
    · cases h
theorem nameB_size {s : ByteArray} (h : nameB s = true) : 1 ≤ s.size ∧ s.size ≤ 12 := by
  unfold nameB at h
  simp at h
  exact ⟨h.1.1, h.1.2⟩
theorem textStep_none {l : List ByteArray} {i : Nat} (h : textStep l i = none) : nameB (rd .str l i) = true ∧ (0 < i → strLt (rd .str l (i - 1)) (rd .str l i) = true) := by
  unfold textStep at h
  split at h
  · cases h
  · rename_i h1
    split at h
    · cases h
    · rename_i h2
      refine ⟨by simpa using h1, fun h0 => ?_⟩
      cases hq : strLt (rd .str l (i - 1)) (rd .str l i) with
      | true => rfl
      | false => exact absurd ⟨h0, hq⟩ h2
theorem propStep_none {l : List TProp} {i : Nat} (h : propStep l i = none) : nameB (rd sProp l i).1 = true ∧ valueB (rd sProp l i).2 = true ∧ (0 < i → strLt (rd sProp l (i - 1)).1 (rd sProp l i).1 = true) := by
  unfold propStep at h
  split at h
  · cases h
  · rename_i h1
    split at h
    · cases h
    · rename_i h2
      have h3 : nameB (rd sProp l i).1 = true ∧ valueB (rd sProp l i).2 = true := by simpa using h1
      refine ⟨h3.1, h3.2, fun h0 => ?_⟩
      cases hq : strLt (rd sProp l (i - 1)).1 (rd sProp l i).1 with
      | true => rfl
      | false => exact absurd ⟨h0, hq⟩ h2
/-- What a row of names, of properties that may be is. -/
theorem rowN_zero {l : List ByteArray} (h : rowN l = 0) {i : Nat} (hi : i < l.length) : nameB (rd .str l i) = true ∧ (0 < i → strLt (rd .str l (i - 1)) (rd .str l i) = true) :=
  textStep_none (scanI_zero (textStep_ne l) l.length 0 h i (by omega) (by omega))
theorem propsN_len {l : List TProp} (h : propsN l = 0) : l.length ≤ 8 := by
  unfold propsN at h
  split at h
  · omega
  · omega
theorem propsN_zero {l : List TProp} (h : propsN l = 0) {i : Nat} (hi : i < l.length) : nameB (rd sProp l i).1 = true ∧ valueB (rd sProp l i).2 = true ∧ (0 < i → strLt (rd sProp l (i - 1)).1 (rd sProp l i).1 = true) := by
  have h8 := propsN_len h
  unfold propsN at h
  rw [if_neg (by omega)] at h
  exact propStep_none (scanI_zero (propStep_ne l) l.length 0 h i (by omega) (by omega))
theorem restN_zero {a : List ByteArray} {l : List TProp} (h : restN a l = 0) : a.length ≤ 8 ∧ rowN a = 0 ∧ propsN l = 0 := by
  unfold restN at h
  split at h
  · omega
  · split at h
    · rename_i h1 h2
      exact ⟨by omega, h2, h⟩
    · rename_i h1 h2
      exact absurd h h2

/-- Labels and properties are as few and short as they may be. -/
structure Short (a : List ByteArray) (l : List TProp) : Prop where
  na : a.length ≤ 8
  nl : l.length ≤ 8
  ta : ∀ i, i < a.length → (rd .str a i).size ≤ 12
  tl : ∀ i, i < l.length → (rd sProp l i).1.size ≤ 12
theorem Short.of {a : List ByteArray} {l : List TProp} (h : restN a l = 0) : Short a l := by
  obtain ⟨h1, h2, h3⟩ := restN_zero h
  exact ⟨h1, propsN_len h3, fun i hi => (nameB_size (rowN_zero h2 hi).1).2, fun i hi => (nameB_size (propsN_zero h3 hi).1).2⟩
structure okNode (n : TNode) : Prop where
  id : n.1.size ≤ 140737488351232
  la : okTexts n.2.1
  pr : okProps n.2.2
structure okEdge (x : TEdge) : Prop where
  id : x.1.size ≤ 140737488351232
  fr : x.2.1.size ≤ 140737488351232
  to : x.2.2.1.size ≤ 140737488351232
  la : okTexts x.2.2.2.1
  pr : okProps x.2.2.2.2
def nodeN (n : TNode) : Int := if nameB n.1 then restN n.2.1 n.2.2 else 2
def edgeN (x : TEdge) : Int := if nameB x.1 && nameB x.2.1 && nameB x.2.2.1 then restN x.2.2.2.1 x.2.2.2.2 else 2
theorem nodeN_short {n : TNode} (h : nodeN n = 0) : Short n.2.1 n.2.2 := by
  unfold nodeN at h
  split at h
  · exact .of h
  · cases h
theorem edgeN_short {x : TEdge} (h : edgeN x = 0) : (nameB x.2.1 = true ∧ nameB x.2.2.1 = true) ∧ Short x.2.2.2.1 x.2.2.2.2 := by
  unfold edgeN at h
  split at h
  · rename_i g
    simp only [Bool.and_eq_true] at g
    exact ⟨⟨g.1.2, g.2⟩, .of h⟩
  · cases h
theorem CheckNode_ok (n : TNode) (h : okNode n) : V.elem_CheckNode n = some (nodeN n) := by
  refine V.elem_CheckNode.of _ ?_
  unfold F.elem_CheckNode.B nodeN
  rw [name_Check_ok _ h.id, Option.bind_some, rest_ok _ _ h.la h.pr]
  cases nameB n.1 <;> simp
theorem refNode_ok (n : TNode) (h : okNode n) : V.pleachref25_Node n = some (nodeN n) := by
  refine V.pleachref25_Node.of _ ?_
  unfold F.pleachref25_Node.B nodeN
  rw [refIs_ok _ h.id, Option.bind_some, refRest_ok _ _ h.la h.pr]
  cases nameB n.1 <;> simp
theorem CheckEdge_ok (x : TEdge) (h : okEdge x) : V.elem_CheckEdge x = some (edgeN x) := by
  have e3 : V.elem_CheckEdge.l1010 x 3 = some (restN x.2.2.2.1 x.2.2.2.2) := by
    refine V.elem_CheckEdge.l1010.of _ _ ?_
    unfold F.elem_CheckEdge.l1010.B
    rw [rest_ok _ _ h.la h.pr]
    simp
  have e2 : V.elem_CheckEdge.l1010 x 2 = some (if nameB x.2.2.1 then restN x.2.2.2.1 x.2.2.2.2 else 2) := by
    refine V.elem_CheckEdge.l1010.of _ _ ?_
    unfold F.elem_CheckEdge.l1010.B
    rw [w64_id (by omega) (by omega), show (2 : Int) + 1 = 3 from rfl, e3, name_Check_ok _ h.to]
    cases nameB x.2.2.1 <;> simp
  have e1 : V.elem_CheckEdge.l1010 x 1 = some (if nameB x.2.1 && nameB x.2.2.1 then restN x.2.2.2.1 x.2.2.2.2 else 2) := by
    refine V.elem_CheckEdge.l1010.of _ _ ?_
    unfold F.elem_CheckEdge.l1010.B
    rw [w64_id (by omega) (by omega), show (1 : Int) + 1 = 2 from rfl, e2, name_Check_ok _ h.fr]
    cases nameB x.2.1 <;> simp
  have e0 : V.elem_CheckEdge.l1010 x 0 = some (edgeN x) := by
    refine V.elem_CheckEdge.l1010.of _ _ ?_
    unfold F.elem_CheckEdge.l1010.B edgeN
    rw [w64_id (by omega) (by omega), show (0 : Int) + 1 = 1 from rfl, e1, name_Check_ok _ h.id]
    cases nameB x.1 <;> simp
  refine V.elem_CheckEdge.of _ ?_
  unfold F.elem_CheckEdge.B
  exact e0
theorem refEdge_ok (x : TEdge) (h : okEdge x) : V.pleachref25_Edge x = some (edgeN x) := by
  refine V.pleachref25_Edge.of _ ?_
  unfold F.pleachref25_Edge.B edgeN
  rw [refIs_ok _ h.id, Option.bind_some, refIs_ok _ h.fr, refIs_ok _ h.to, refRest_ok _ _ h.la h.pr]
  cases nameB x.1 <;> cases nameB x.2.1 <;> cases nameB x.2.2.1 <;> simp

end Go.Proofs.Ytdblhdpnllckhaa.AE
end
section
set_option linter.unusedVariables false
set_option linter.unusedSimpArgs false
namespace Go.Proofs.Ytdblhdpnllckhaa.AE
open Go

/-- Texts' bytes, one behind the other; properties'. -/
def catT (l : List ByteArray) : Nat → Nat → ByteArray
  | 0, _ => ⟨#[]⟩
  | d + 1, i => textB (rd .str l i) ++ catT l d (i + 1)
def propB (p : TProp) : ByteArray := textB p.1 ++ valB p.2
def catP (l : List TProp) : Nat → Nat → ByteArray
  | 0, _ => ⟨#[]⟩
  | d + 1, i => propB (rd sProp l i) ++ catP l d (i + 1)
def putB (a : List ByteArray) (l : List TProp) : ByteArray := numB a.length ++ (catT a a.length 0 ++ (numB l.length ++ catP l l.length 0))
theorem app_nil (s : ByteArray) : s ++ (⟨#[]⟩ : ByteArray) = s := by apply ByteArray.ext; simp
theorem nil_app (s : ByteArray) : (⟨#[]⟩ : ByteArray) ++ s = s := by apply ByteArray.ext; simp
theorem propB_size (p : TProp) (h : p.1.size ≤ 12) : (propB p).size ≤ 102 := by
  unfold propB
  rw [ByteArray.size_append]
  have := textB_size p.1
  have := valB_size p.2
  omega
theorem put_l1 (a : List ByteArray) (l : List TProp) (hs : Short a l) (hl : okProps l) : ∀ (d i : Nat) (out : ByteArray), i + d = l.length → out.size ≤ 1000 + 102 * i → V.elem_put.l1111010 a l out (i : Int) = some (out ++ catP l d i)
  | 0, i, out, h, ho => by
    refine V.elem_put.l1111010.of _ _ _ _ ?_
    unfold F.elem_put.l1111010.B
    rw [if_out (by omega)]
    simp [catP, app_nil]
  | d + 1, i, out, h, ho => by
    refine V.elem_put.l1111010.of _ _ _ _ ?_
    unfold F.elem_put.l1111010.B
    have hi : i < l.length := by omega
    have h8 := hs.nl
    have hp := propB_size _ (hs.tl i hi)
    have hk := hl.2 _ (rd_mem (e := sProp) hi)
    rw [if_in hi, guard_in hi, nat_cast, value_Put_ok _ hk.2.2, Option.bind_some, PutText_ok _ hk.1, Option.bind_some]
    dsimp only
    have h1 : (textB (rd sProp l i).1 ++ valB (rd sProp l i).2).size ≤ 102 := hp
    rw [guard_dec (by rw [ByteArray.size_append] at h1; unfold i64max; omega), guard_dec (by unfold i64max; omega), w64_up hi hl.1, put_l1 a l hs hl d (i + 1) _ (by omega) (by rw [ByteArray.size_append]; omega), ByteArray.append_assoc]
    rfl
theorem put_l0 (a : List ByteArray) (l : List TProp) (hs : Short a l) (ha : okTexts a) (hl : okProps l) : ∀ (d i : Nat) (out : ByteArray), i + d = a.length → out.size ≤ 10 + 22 * i → V.elem_put.l11010 a l out (i : Int) = some (out ++ (catT a d i ++ (numB l.length ++ catP l l.length 0)))
  | 0, i, out, h, ho => by
    refine V.elem_put.l11010.of _ _ _ _ ?_
    unfold F.elem_put.l11010.B
    have h8 := hs.nl
    have h9 := hs.na
    have hn := numB_size l.length
    rw [if_out (by omega), PutNum_ok _ hl.1, Option.bind_some, guard_dec (by unfold i64max; omega)]
    have := put_l1 a l hs hl l.length 0 (out ++ numB l.length) (by omega) (by rw [ByteArray.size_append]; omega)
    rw [show (0 : Int) = ((0 : Nat) : Int) from rfl, this]
    simp [catT, nil_app, ByteArray.append_assoc]
  | d + 1, i, out, h, ho => by
    refine V.elem_put.l11010.of _ _ _ _ ?_
    unfold F.elem_put.l11010.B
    have hi : i < a.length := by omega
    have h9 := hs.na
    have ht := textB_size (rd .str a i)
    have h12 := hs.ta i hi
    rw [if_in hi, guard_in hi, nat_cast, PutText_ok _ (ha.2 _ (rd_mem (e := .str) hi)), Option.bind_some, guard_dec (by unfold i64max; omega), w64_up hi ha.1, put_l0 a l hs ha hl d (i + 1) _ (by omega) (by rw [ByteArray.size_append]; omega)]
    rw [catT, ByteArray.append_assoc, ByteArray.append_assoc]
theorem elem_put_ok (a : List ByteArray) (l : List TProp) (hs : Short a l) (ha : okTexts a) (hl : okProps l) : V.elem_put a l = some (putB a l) := by
  refine V.elem_put.of _ _ ?_
  unfold F.elem_put.B
  rw [PutNum_ok _ ha.1, Option.bind_some]
  exact put_l0 a l hs ha hl a.length 0 _ (by omega) (by have := numB_size a.length; omega)
theorem rput_l1 (a : List ByteArray) (l : List TProp) (hs : Short a l) (hl : okProps l) : ∀ (d i : Nat) (out : ByteArray), i + d = l.length → out.size ≤ 1000 + 102 * i → V.pleachref25_put.l1111010 a l out (i : Int) = some (out ++ catP l d i)
  | 0, i, out, h, ho => by
    refine V.pleachref25_put.l1111010.of _ _ _ _ ?_
    unfold F.pleachref25_put.l1111010.B
    rw [if_out (by omega)]
    simp [catP, app_nil]
  | d + 1, i, out, h, ho => by
    refine V.pleachref25_put.l1111010.of _ _ _ _ ?_
    unfold F.pleachref25_put.l1111010.B
    have hi : i < l.length := by omega
    have h8 := hs.nl
    have hp := propB_size _ (hs.tl i hi)
    have hk := hl.2 _ (rd_mem (e := sProp) hi)
    have h1 : (textB (rd sProp l i).1 ++ valB (rd sProp l i).2).size ≤ 102 := hp
    rw [ByteArray.size_append] at h1
    rw [if_in hi, guard_in hi, guard_in hi, nat_cast, refPutText_ok _ hk.1, Option.bind_some, guard_dec (by unfold i64max; omega), refVPut_ok _ hk.2.2, Option.bind_some]
    rw [guard_dec (by rw [ByteArray.size_append]; unfold i64max; omega), w64_up hi hl.1, rput_l1 a l hs hl d (i + 1) _ (by omega) (by rw [ByteArray.size_append, ByteArray.size_append]; omega)]
    rw [ByteArray.append_assoc, ByteArray.append_assoc, catP, propB, ByteArray.append_assoc]
theorem rput_l0 (a : List ByteArray) (l : List TProp) (hs : Short a l) (ha : okTexts a) (hl : okProps l) : ∀ (d i : Nat) (out : ByteArray), i + d = a.length → out.size ≤ 10 + 22 * i → V.pleachref25_put.l11010 a l out (i : Int) = some (out ++ (catT a d i ++ (numB l.length ++ catP l l.length 0)))
  | 0, i, out, h, ho => by
    refine V.pleachref25_put.l11010.of _ _ _ _ ?_
    unfold F.pleachref25_put.l11010.B
    have h8 := hs.nl
    have h9 := hs.na
    have hn := numB_size l.length
    rw [if_out (by omega), refPutNum_ok _ hl.1, Option.bind_some, guard_dec (by unfold i64max; omega)]
    have := rput_l1 a l hs hl l.length 0 (out ++ numB l.length) (by omega) (by rw [ByteArray.size_append]; omega)
    rw [show (0 : Int) = ((0 : Nat) : Int) from rfl, this]
    simp [catT, nil_app, ByteArray.append_assoc]
  | d + 1, i, out, h, ho => by
    refine V.pleachref25_put.l11010.of _ _ _ _ ?_
    unfold F.pleachref25_put.l11010.B
    have hi : i < a.length := by omega
    have h9 := hs.na
    have ht := textB_size (rd .str a i)
    have h12 := hs.ta i hi
    rw [if_in hi, guard_in hi, nat_cast, refPutText_ok _ (ha.2 _ (rd_mem (e := .str) hi)), Option.bind_some, guard_dec (by unfold i64max; omega), w64_up hi ha.1, rput_l0 a l hs ha hl d (i + 1) _ (by omega) (by rw [ByteArray.size_append]; omega)]
    rw [catT, ByteArray.append_assoc, ByteArray.append_assoc]
theorem ref_put_ok (a : List ByteArray) (l : List TProp) (hs : Short a l) (ha : okTexts a) (hl : okProps l) : V.pleachref25_put a l = some (putB a l) := by
  refine V.pleachref25_put.of _ _ ?_
  unfold F.pleachref25_put.B
  rw [refPutNum_ok _ ha.1, Option.bind_some]
  exact rput_l0 a l hs ha hl a.length 0 _ (by omega) (by have := numB_size a.length; omega)

/-! ### Nodes and edges -/

def nodeB (n : TNode) : ByteArray := if nodeN n = 0 then putB n.2.1 n.2.2 else ⟨#[]⟩
def edgeB (x : TEdge) : ByteArray := if edgeN x = 0 then textB x.2.1 ++ textB x.2.2.1 ++ putB x.2.2.2.1 x.2.2.2.2 else ⟨#[]⟩
theorem PutNode_ok (n : TNode) (h : okNode n) : V.elem_PutNode n = some (nodeB n, nodeN n) := by
  refine V.elem_PutNode.of _ ?_
  unfold F.elem_PutNode.B nodeB
  have hc := CheckNode_ok n h
  rw [show (n.1, n.2.1, n.2.2) = n from rfl, hc, Option.bind_some]
  by_cases h0 : nodeN n = 0
  · rw [elem_put_ok _ _ (nodeN_short h0) h.la h.pr]
    simp [h0]
  · simp [Bool.cond_eq_ite, h0]
theorem refPutNode_ok (n : TNode) (h : okNode n) : V.pleachref25_PutNode n = some (nodeB n) := by
  refine V.pleachref25_PutNode.of _ ?_
  unfold F.pleachref25_PutNode.B nodeB
  have hc := refNode_ok n h
  rw [show (n.1, n.2.1, n.2.2) = n from rfl, hc, Option.bind_some]
  by_cases h0 : nodeN n = 0
  · rw [ref_put_ok _ _ (nodeN_short h0) h.la h.pr]
    simp [h0]
  · simp [Bool.cond_eq_ite, h0]
theorem putB_bound {a : List ByteArray} {l : List TProp} (hs : Short a l) : (putB a l).size ≤ 1100 := by
  have hT : ∀ d i, i + d = a.length → (catT a d i).size ≤ 22 * d := by
    intro d
    induction d with
    | zero => intro i _; simp [catT, ByteArray.size]
    | succ d ih =>
      intro i hi
      have := ih (i + 1) (by omega)
      have ht := textB_size (rd .str a i)
      have := hs.ta i (by omega)
      rw [catT, ByteArray.size_append]
      omega
  have hP : ∀ d i, i + d = l.length → (catP l d i).size ≤ 102 * d := by
    intro d
    induction d with
    | zero => intro i _; simp [catP, ByteArray.size]
    | succ d ih =>
      intro i hi
      have := ih (i + 1) (by omega)
      have ht := propB_size _ (hs.tl i (by omega))
      rw [catP, ByteArray.size_append]
      omega
  have h1 := hT a.length 0 (by omega)
  have h2 := hP l.length 0 (by omega)
  have h3 := numB_size a.length
  have h4 := numB_size l.length
  have := hs.na
  have := hs.nl
  unfold putB
  rw [ByteArray.size_append, ByteArray.size_append, ByteArray.size_append]
  omega
theorem PutEdge_ok (x : TEdge) (h : okEdge x) : V.elem_PutEdge x = some (edgeB x, edgeN x) := by
  refine V.elem_PutEdge.of _ ?_
  unfold F.elem_PutEdge.B edgeB
  have hc := CheckEdge_ok x h
  rw [show (x.1, x.2.1, x.2.2.1, x.2.2.2.1, x.2.2.2.2) = x from rfl, hc, Option.bind_some]
  by_cases h0 : edgeN x = 0
  · obtain ⟨⟨n1, n2⟩, hs⟩ := edgeN_short h0
    have t1 := textB_size x.2.1
    have t2 := textB_size x.2.2.1
    have n1 := nameB_size n1
    have n2 := nameB_size n2
    have pb := putB_bound hs
    rw [elem_put_ok _ _ hs h.la h.pr, PutText_ok _ h.fr, PutText_ok _ h.to]
    simp only [Option.bind_some]
    rw [guard_dec (by unfold i64max; omega), guard_dec (by rw [ByteArray.size_append]; unfold i64max; omega)]
    simp [h0]
  · simp [Bool.cond_eq_ite, h0]
theorem refPutEdge_ok (x : TEdge) (h : okEdge x) : V.pleachref25_PutEdge x = some (edgeB x) := by
  refine V.pleachref25_PutEdge.of _ ?_
  unfold F.pleachref25_PutEdge.B edgeB
  have hc := refEdge_ok x h
  rw [show (x.1, x.2.1, x.2.2.1, x.2.2.2.1, x.2.2.2.2) = x from rfl, hc, Option.bind_some]
  by_cases h0 : edgeN x = 0
  · obtain ⟨⟨n1, n2⟩, hs⟩ := edgeN_short h0
    have t1 := textB_size x.2.1
    have t2 := textB_size x.2.2.1
    have n1 := nameB_size n1
    have n2 := nameB_size n2
    have pb := putB_bound hs
    rw [ref_put_ok _ _ hs h.la h.pr, refPutText_ok _ h.fr, refPutText_ok _ h.to]
    simp only [Option.bind_some]
    rw [guard_dec (by unfold i64max; omega), guard_dec (by rw [ByteArray.size_append]; unfold i64max; omega)]
    simp [h0]
  · simp [Bool.cond_eq_ite, h0]

end Go.Proofs.Ytdblhdpnllckhaa.AE
end
section
set_option linter.unusedVariables false
set_option linter.unusedSimpArgs false
namespace Go.Proofs.Ytdblhdpnllckhaa.AE
open Go

instance decValue : DecidableEq TValue := instDecidableEqProd
instance decProp : DecidableEq TProp := instDecidableEqProd
instance decNode : DecidableEq TNode := instDecidableEqProd
instance decEdge1 : DecidableEq (ByteArray × TNode) := instDecidableEqProd
instance decEdge : DecidableEq TEdge := instDecidableEqProd
instance decGraph : DecidableEq TGraph := instDecidableEqProd
end Go.Proofs.Ytdblhdpnllckhaa.AE
end
section
set_option linter.unusedVariables false
set_option linter.unusedSimpArgs false
set_option maxRecDepth 20000
namespace Go.Proofs.Ytdblhdpnllckhaa.AE
open Go

/-- Texts that rise. -/
def Up (ks : List ByteArray) : Prop := ks.Pairwise fun a b => strLt a b = true
/-- How many of them stand ahead of one. -/
def lb (ks : List ByteArray) (x : ByteArray) : Nat := ks.findIdx fun k => !strLt k x

theorem Up.lt {ks : List ByteArray} (hu : Up ks) {i j : Nat} (h : i < j) (hj : j < ks.length) : strLt (ks[i]'(by omega)) ks[j] = true := List.pairwise_iff_getElem.1 hu i j (by omega) hj h
def has (ks : List ByteArray) (x : ByteArray) : Bool := ks.any fun k => strEq k x
theorem cmpCompareS_ok (a b : ByteArray) : V.cmp_Compare_string a b = some (cmpS a b) := by
  have nan : ∀ x : ByteArray, V.cmp_isNaN_string x = some false := fun x => V.cmp_isNaN_string.of x (by unfold F.cmp_isNaN_string.B; rw [strEq_self]; rfl)
  refine V.cmp_Compare_string.of a b ?_
  unfold F.cmp_Compare_string.B cmpS
  rw [nan, nan, Option.bind_some, Option.bind_some, lt_or]
  cases strLt a b <;> cases strLt b a <;> rfl
theorem cmpS_neg (a b : ByteArray) : decide (cmpS a b < 0) = strLt a b := by
  unfold cmpS
  cases strLt a b <;> cases strLt b a <;> rfl
end Go.Proofs.Ytdblhdpnllckhaa.AE
end
section
set_option linter.unusedVariables false
set_option linter.unusedSimpArgs false
set_option maxRecDepth 20000
namespace Go.Proofs.Ytdblhdpnllckhaa.AE
open Go

end Go.Proofs.Ytdblhdpnllckhaa.AE
end
section
set_option linter.unusedVariables false
set_option linter.unusedSimpArgs false
set_option maxRecDepth 20000
namespace Go.Proofs.Ytdblhdpnllckhaa.AE
open Go

/-- A graph of sizes that fit. -/
structure okGraph (g : TGraph) : Prop where
  ns : g.1.length ≤ 70368744177616
  es : g.2.length ≤ 70368744177616
  n : ∀ n ∈ g.1, okNode n
  e : ∀ x ∈ g.2, okEdge x

end Go.Proofs.Ytdblhdpnllckhaa.AE
end
section
set_option linter.unusedVariables false
set_option linter.unusedSimpArgs false
set_option maxRecDepth 20000
namespace Go.Proofs.Ytdblhdpnllckhaa.AE
open Go

def cut5 (s : ByteArray) : Int := if 5000 < (s.size : Int) then 5000 else (s.size : Int)
theorem cut5_in (s : ByteArray) : 0 ≤ cut5 s ∧ cut5 s ≤ 5000 := by unfold cut5; split <;> omega

theorem weight_l1 (a : List ByteArray) (b : List TProp) (hb : b.length ≤ 20) : ∀ (d i : Nat) (x : Int), i + d = b.length → 0 ≤ x → x ≤ 100000 + 10000 * i → ∃ r, V.pleachref26_weight.l1111010 a b x (i : Int) = some r ∧ 0 ≤ r ∧ r ≤ 300000
  | 0, i, x, h, h0, h1 => by
    refine ⟨x, ?_, h0, by omega⟩
    refine V.pleachref26_weight.l1111010.of _ _ _ _ ?_
    unfold F.pleachref26_weight.l1111010.B
    rw [if_out (by omega)]
  | d + 1, i, x, h, h0, h1 => by
    have hi : i < b.length := by omega
    have c1 := cut5_in (rd sProp b i).1
    have c2 := cut5_in (rd sProp b i).2.2.2
    obtain ⟨r, hr, g⟩ := weight_l1 a b hb d (i + 1) (x + cut5 (rd sProp b i).1 + cut5 (rd sProp b i).2.2.2) (by omega) (by omega) (by omega)
    refine ⟨r, ?_, g⟩
    refine V.pleachref26_weight.l1111010.of _ _ _ _ ?_
    unfold F.pleachref26_weight.l1111010.B
    rw [if_in hi, guard_in hi, guard_in hi, nat_cast, w64_up (n := b.length) hi (by omega)]
    show V.pleachref26_weight.l1111010 a b (w64 (w64 (x + cut5 (rd sProp b i).1) + cut5 (rd sProp b i).2.2.2)) _ = _
    rw [w64_id (x := x + cut5 (rd sProp b i).1) (by omega) (by omega), w64_id (by omega) (by omega)]
    exact hr
theorem weight_l0 (a : List ByteArray) (b : List TProp) (ha : a.length ≤ 20) (hb : b.length ≤ 20) : ∀ (d i : Nat) (x : Int), i + d = a.length → 0 ≤ x → x ≤ 5000 * i → ∃ r, V.pleachref26_weight.l111010 a b x (i : Int) = some r ∧ 0 ≤ r ∧ r ≤ 300000
  | 0, i, x, h, h0, h1 => by
    obtain ⟨r, hr, g⟩ := weight_l1 a b hb b.length 0 x (by omega) h0 (by omega)
    refine ⟨r, ?_, g⟩
    refine V.pleachref26_weight.l111010.of _ _ _ _ ?_
    unfold F.pleachref26_weight.l111010.B
    rw [if_out (by omega)]
    exact hr
  | d + 1, i, x, h, h0, h1 => by
    have hi : i < a.length := by omega
    have c1 := cut5_in (rd .str a i)
    obtain ⟨r, hr, g⟩ := weight_l0 a b ha hb d (i + 1) (x + cut5 (rd .str a i)) (by omega) (by omega) (by omega)
    refine ⟨r, ?_, g⟩
    refine V.pleachref26_weight.l111010.of _ _ _ _ ?_
    unfold F.pleachref26_weight.l111010.B
    rw [if_in hi, guard_in hi, nat_cast, w64_up (n := a.length) hi (by omega)]
    show V.pleachref26_weight.l111010 a b (w64 (x + cut5 (rd .str a i))) _ = _
    rw [w64_id (by omega) (by omega)]
    exact hr
theorem weight_ok (a : List ByteArray) (b : List TProp) : ∃ r, V.pleachref26_weight a b = some r ∧ 0 ≤ r ∧ r ≤ 300000 ∧ (r ≤ 5000 → a.length ≤ 20 ∧ b.length ≤ 20) := by
  by_cases ha : a.length > 20
  · refine ⟨100000, V.pleachref26_weight.of _ _ ?_, by omega, by omega, by omega⟩
    unfold F.pleachref26_weight.B
    rw [if_yes (by omega)]
  · by_cases hb : b.length > 20
    · refine ⟨100000, V.pleachref26_weight.of _ _ ?_, by omega, by omega, by omega⟩
      unfold F.pleachref26_weight.B
      rw [if_no (by omega), if_yes (by omega)]
    · obtain ⟨r, hr, h0, h1⟩ := weight_l0 a b (by omega) (by omega) a.length 0 0 (by omega) (by omega) (by omega)
      refine ⟨r, V.pleachref26_weight.of _ _ ?_, h0, h1, fun _ => ⟨by omega, by omega⟩⟩
      unfold F.pleachref26_weight.B
      rw [if_no (by omega), if_no (by omega)]
      exact hr

structure Slim (g : TGraph) : Prop where
  ns : g.1.length ≤ 40
  es : g.2.length ≤ 60
  n : ∀ n ∈ g.1, n.2.1.length ≤ 20 ∧ n.2.2.length ≤ 20
  e : ∀ x ∈ g.2, x.2.2.2.1.length ≤ 20 ∧ x.2.2.2.2.length ≤ 20

theorem Few_l1 (g : TGraph) (hs : g.2.length ≤ 60) : ∀ (d i : Nat) (x : Int), i + d = g.2.length → 0 ≤ x → x ≤ 40000000 + 400000 * i → ∃ b, V.pleachref26_Few.l1111010 g x (i : Int) = some b ∧ (b = true → x ≤ 5000 ∧ ∀ j, i ≤ j → j < g.2.length → (rd sEdge g.2 j).2.2.2.1.length ≤ 20 ∧ (rd sEdge g.2 j).2.2.2.2.length ≤ 20)
  | 0, i, x, h, h0, h1 => by
    refine ⟨decide (x ≤ 5000), ?_, fun hb => ⟨by simpa using hb, fun j g1 g2 => by omega⟩⟩
    refine V.pleachref26_Few.l1111010.of _ _ _ ?_
    unfold F.pleachref26_Few.l1111010.B
    rw [if_out (by omega)]
  | d + 1, i, x, h, h0, h1 => by
    have hi : i < g.2.length := by omega
    obtain ⟨w, hw, w0, w1, w2⟩ := weight_ok (rd sEdge g.2 i).2.2.2.1 (rd sEdge g.2 i).2.2.2.2
    have c1 := cut5_in (rd sEdge g.2 i).1
    have c2 := cut5_in (rd sEdge g.2 i).2.1
    have c3 := cut5_in (rd sEdge g.2 i).2.2.1
    obtain ⟨b, hb, g⟩ := Few_l1 g hs d (i + 1) (x + cut5 (rd sEdge g.2 i).1 + cut5 (rd sEdge g.2 i).2.1 + cut5 (rd sEdge g.2 i).2.2.1 + w) (by omega) (by omega) (by omega)
    refine ⟨b, ?_, fun ht => ⟨by have := (g ht).1; omega, fun j g1 g2 => ?_⟩⟩
    · refine V.pleachref26_Few.l1111010.of _ _ _ ?_
      unfold F.pleachref26_Few.l1111010.B
      rw [if_in hi, guard_in hi, nat_cast, w64_up (n := 60) (by omega) (by omega), hw, Option.bind_some]
      show V.pleachref26_Few.l1111010 _ (w64 (w64 (w64 (w64 (x + cut5 (rd sEdge _ i).1) + cut5 (rd sEdge _ i).2.1) + cut5 (rd sEdge _ i).2.2.1) + w)) _ = _
      rw [w64_id (x := x + cut5 (rd sEdge _ i).1) (by omega) (by omega), w64_id (x := x + cut5 (rd sEdge _ i).1 + cut5 (rd sEdge _ i).2.1) (by omega) (by omega), w64_id (x := x + cut5 (rd sEdge _ i).1 + cut5 (rd sEdge _ i).2.1 + cut5 (rd sEdge _ i).2.2.1) (by omega) (by omega), w64_id (by omega) (by omega)]
      exact hb
    · rcases Nat.eq_or_lt_of_le g1 with e | e
      · subst e; exact w2 (by have := (g ht).1; omega)
      · exact (g ht).2 j e g2
theorem Few_l0 (g : TGraph) (hn : g.1.length ≤ 40) (hs : g.2.length ≤ 60) : ∀ (d i : Nat) (x : Int), i + d = g.1.length → 0 ≤ x → x ≤ 400000 * i → ∃ b, V.pleachref26_Few.l111010 g x (i : Int) = some b ∧ (b = true → x ≤ 5000 ∧ (∀ j, i ≤ j → j < g.1.length → (rd sNode g.1 j).2.1.length ≤ 20 ∧ (rd sNode g.1 j).2.2.length ≤ 20) ∧ ∀ j, j < g.2.length → (rd sEdge g.2 j).2.2.2.1.length ≤ 20 ∧ (rd sEdge g.2 j).2.2.2.2.length ≤ 20)
  | 0, i, x, h, h0, h1 => by
    obtain ⟨b, hb, q⟩ := Few_l1 g hs g.2.length 0 x (by omega) h0 (by omega)
    refine ⟨b, ?_, fun ht => ⟨(q ht).1, fun j g1 g2 => by omega, fun j g2 => (q ht).2 j (by omega) g2⟩⟩
    refine V.pleachref26_Few.l111010.of _ _ _ ?_
    unfold F.pleachref26_Few.l111010.B
    rw [if_out (by omega)]
    exact hb
  | d + 1, i, x, h, h0, h1 => by
    have hi : i < g.1.length := by omega
    obtain ⟨w, hw, w0, w1, w2⟩ := weight_ok (rd sNode g.1 i).2.1 (rd sNode g.1 i).2.2
    have c1 := cut5_in (rd sNode g.1 i).1
    obtain ⟨b, hb, q⟩ := Few_l0 g hn hs d (i + 1) (x + cut5 (rd sNode g.1 i).1 + w) (by omega) (by omega) (by omega)
    refine ⟨b, ?_, fun ht => ⟨by have := (q ht).1; omega, fun j g1 g2 => ?_, (q ht).2.2⟩⟩
    · refine V.pleachref26_Few.l111010.of _ _ _ ?_
      unfold F.pleachref26_Few.l111010.B
      rw [if_in hi, guard_in hi, guard_in hi, guard_in hi, nat_cast, w64_up (n := 60) (by omega) (by omega), hw, Option.bind_some]
      show V.pleachref26_Few.l111010 _ (w64 (w64 (x + cut5 (rd sNode _ i).1) + w)) _ = _
      rw [w64_id (x := x + cut5 (rd sNode _ i).1) (by omega) (by omega), w64_id (by omega) (by omega)]
      exact hb
    · rcases Nat.eq_or_lt_of_le g1 with e | e
      · subst e; exact w2 (by have := (q ht).1; omega)
      · exact (q ht).2.1 j e g2
theorem Few_ok (g : TGraph) : ∃ b, V.pleachref26_Few g = some b ∧ (b = true → Slim g) := by
  by_cases h1 : g.1.length > 40
  · refine ⟨false, V.pleachref26_Few.of _ ?_, by simp⟩
    unfold F.pleachref26_Few.B
    rw [if_yes (by omega)]
  · by_cases h2 : g.2.length > 60
    · refine ⟨false, V.pleachref26_Few.of _ ?_, by simp⟩
      unfold F.pleachref26_Few.B
      rw [if_no (by omega), if_yes (by omega)]
    · obtain ⟨b, hb, q⟩ := Few_l0 g (by omega) (by omega) g.1.length 0 0 (by omega) (by omega) (by omega)
      refine ⟨b, V.pleachref26_Few.of _ ?_, fun ht => ⟨by omega, by omega, fun n hn => ?_, fun x hx => ?_⟩⟩
      · unfold F.pleachref26_Few.B
        rw [if_no (by omega), if_no (by omega)]
        exact hb
      · obtain ⟨i, hi, e⟩ := List.getElem_of_mem hn
        have := (q ht).2.1 i (by omega) hi
        rw [rd_get (e := sNode) hi, e] at this
        exact this
      · obtain ⟨i, hi, e⟩ := List.getElem_of_mem hx
        have := (q ht).2.2 i hi
        rw [rd_get (e := sEdge) hi, e] at this
        exact this

end Go.Proofs.Ytdblhdpnllckhaa.AE
end
section
set_option linter.unusedVariables false
set_option linter.unusedSimpArgs false
set_option maxRecDepth 20000
namespace Go.Proofs.Ytdblhdpnllckhaa.AE
open Go

/-! ### Copies -/

end Go.Proofs.Ytdblhdpnllckhaa.AE
end
section
set_option linter.unusedVariables false
set_option linter.unusedSimpArgs false
namespace Go.Proofs.Ytdblhdpnllckhaa.AE
open Go

theorem gd_len {e : Sh} {l : List (den e)} (h : Gd (.list e) l) (hb : 2 ≤ e.bytes) : l.length ≤ 70368744177616 := by
  have h1 := h.1
  have : l.length * 2 ≤ l.length * e.bytes := Nat.mul_le_mul_left _ hb
  omega
theorem gd_i64 {n : Int} (h : Gd (.int .i64) n) : -9223372036854775808 ≤ n ∧ n ≤ 9223372036854775807 := by
  have h6 : (decide (IntKind.min .i64 ≤ n) && decide (n ≤ IntKind.max .i64)) = true := h
  rw [Bool.and_eq_true, decide_eq_true_eq, decide_eq_true_eq, show IntKind.min .i64 = -9223372036854775808 by decide, show IntKind.max .i64 = 9223372036854775807 by decide] at h6
  exact h6
theorem gd_texts {l : List ByteArray} (h : Gd (.list .str) l) : okTexts l := ⟨by have := gd_len h (by decide); omega, fun s hs => h.2 s hs⟩
theorem gd_props {l : List TProp} (h : Gd (.list sProp) l) : okProps l := ⟨by have := gd_len h (by decide); omega, fun p hp => by
  obtain ⟨h1, h2, h3, h4⟩ := h.2 p hp
  have h5 := gd_i64 h3
  exact ⟨h1, h4, h5⟩⟩
theorem gd_node {n : TNode} (h : Gd sNode n) : okNode n := ⟨h.1, gd_texts h.2.1, gd_props h.2.2⟩
theorem gd_edge {x : TEdge} (h : Gd sEdge x) : okEdge x := ⟨h.1, h.2.1, h.2.2.1, gd_texts h.2.2.2.1, gd_props h.2.2.2.2⟩
theorem gd_graph {g : TGraph} (h : Gd sGraph g) : okGraph g := ⟨gd_len h.1 (by decide), gd_len h.2 (by decide), fun n hn => gd_node (h.1.2 n hn), fun x hx => gd_edge (h.2.2 x hx)⟩

end Go.Proofs.Ytdblhdpnllckhaa.AE
end
section
set_option linter.unusedVariables false
set_option linter.unusedSimpArgs false
set_option maxRecDepth 20000
namespace Go.Proofs.Ytdblhdpnllckhaa.AE
open Go

end Go.Proofs.Ytdblhdpnllckhaa.AE
end
section
set_option linter.unusedVariables false
set_option linter.unusedSimpArgs false
set_option maxRecDepth 4000
namespace Go.Proofs.Ytdblhdpnllckhaa.AE
open Go

/-! lists of bytes that are one number's -/
/-! the reference -/
/-! ### What stands where -/

end Go.Proofs.Ytdblhdpnllckhaa.AE
end
section
set_option linter.unusedVariables false
set_option linter.unusedSimpArgs false
set_option maxRecDepth 4000
namespace Go.Proofs.Ytdblhdpnllckhaa.AE
open Go

end Go.Proofs.Ytdblhdpnllckhaa.AE
end
section
set_option linter.unusedVariables false
set_option linter.unusedSimpArgs false
set_option maxRecDepth 4000
namespace Go.Proofs.Ytdblhdpnllckhaa.AE
open Go

theorem bne_ne {e : Int} (he : e ≠ 0) : (e != 0) = true := by simp [he]
end Go.Proofs.Ytdblhdpnllckhaa.AE
end
section
set_option linter.unusedVariables false
set_option linter.unusedSimpArgs false
set_option maxRecDepth 4000
namespace Go.Proofs.Ytdblhdpnllckhaa.AE
open Go

/-! rows of texts, of properties -/
/-- A property whose value may be, with a key of at most so many bytes. -/
def propOk (most : Nat) (p : TProp) : Prop := p.1.size ≤ most ∧ valueB p.2 = true ∧ (-9223372036854775808 ≤ p.2.2.1 ∧ p.2.2.1 ≤ 9223372036854775807)
structure Fine (most : Nat) (a : List ByteArray) (l : List TProp) : Prop where
  na : a.length ≤ 8
  nl : l.length ≤ 8
  ta : ∀ t ∈ a, t.size ≤ most
  tl : ∀ p ∈ l, propOk most p
end Go.Proofs.Ytdblhdpnllckhaa.AE
end
section
set_option linter.unusedVariables false
set_option linter.unusedSimpArgs false
set_option maxRecDepth 4000
namespace Go.Proofs.Ytdblhdpnllckhaa.AE
open Go

/-! more room for names finds nothing else -/
end Go.Proofs.Ytdblhdpnllckhaa.AE
end
section
set_option linter.unusedVariables false
set_option linter.unusedSimpArgs false
set_option maxRecDepth 4000
namespace Go.Proofs.Ytdblhdpnllckhaa.AE
open Go

theorem valueB_size {v : TValue} (h : valueB v = true) : v.2.2.size ≤ 64 := by
  unfold valueB at h
  simp only [Bool.or_eq_true, Bool.and_eq_true, beq_iff_eq, decide_eq_true_eq] at h
  omega
theorem Fine.texts {m : Nat} (hm : m ≤ 100) {x : List ByteArray} {y : List TProp} (h : Fine m x y) : okTexts x := ⟨by have := h.na; omega, fun t ht => by have := h.ta t ht; omega⟩
theorem Fine.props {m : Nat} (hm : m ≤ 100) {x : List ByteArray} {y : List TProp} (h : Fine m x y) : okProps y := ⟨by have := h.nl; omega, fun p hp => ⟨by have := (h.tl p hp).1; omega, by have := valueB_size (h.tl p hp).2.1; omega, (h.tl p hp).2.2⟩⟩
theorem edgeN_rest {x : TEdge} (h : edgeN x = 0) : nameB x.1 = true ∧ nameB x.2.1 = true ∧ nameB x.2.2.1 = true ∧ restN x.2.2.2.1 x.2.2.2.2 = 0 := by
  unfold edgeN at h
  split at h
  · rename_i g
    simp only [Bool.and_eq_true] at g
    exact ⟨g.1.1, g.1.2, g.2, h⟩
  · omega

/-! edges -/
end Go.Proofs.Ytdblhdpnllckhaa.AE
end
section
set_option linter.unusedVariables false
set_option linter.unusedSimpArgs false
set_option maxRecDepth 4000
namespace Go.Proofs.Ytdblhdpnllckhaa.AE
open Go

theorem awake31_ok : V.pleachlaw31_awake = some true := by
  refine V.pleachlaw31_awake.of ?_
  unfold F.pleachlaw31_awake.B
  have e : V.keys_Of (⟨#[97]⟩ : ByteArray) (⟨#[120]⟩ : ByteArray) = some ((⟨#[97]⟩ ++ ⟨#[0]⟩) ++ ⟨#[120]⟩, 0) := by
    refine V.keys_Of.of _ _ ?_
    unfold F.keys_Of.B
    have n1 : nameB (⟨#[97]⟩ : ByteArray) = true := by decide
    have n2 : nameB (⟨#[120]⟩ : ByteArray) = true := by decide
    rw [name_Check_ok _ (by decide), name_Check_ok _ (by decide), n1, n2]
    rfl
  rw [e, Option.bind_some, show ((⟨#[97]⟩ : ByteArray) ++ ⟨#[0]⟩) ++ ⟨#[120]⟩ = ⟨#[97, 0, 120]⟩ by decide +kernel]
  dsimp only
  rw [strEq_self]
  rfl
end Go.Proofs.Ytdblhdpnllckhaa.AE
end
