/- The evaluator of the program's form, its soundness, the functions of the given program as it evaluates them, and laws on these. Conditions: as each theorem says. -/
import Derived.Test.YtdblhdpnllckhaaCKeysBackN3
import Derived.Test.YtdblhdpnllckhaaCKeysBackN2
section
set_option linter.unusedVariables false
set_option maxRecDepth 100000
namespace Go.Proofs.Ytdblhdpnllckhaa.AE
open Go
noncomputable def F.slices_partitionCmpFunc_apiEntry_by_keys_row_1.j1111111111.B (c0 : (List TEntry) → (Int) → (Int) → (Int) → (Int) → (List TEntry) → Option (Int × Bool × (List TEntry))) (a0 : List TEntry) (a1 : Int) (a2 : Int) (a3 : Int) (x0 : Int) (x1 : List TEntry) : Option (Int × Bool × (List TEntry)) :=
    (guardK (decide (0 ≤ a1) && decide (a1 < (x1.length : Int))) (guardK (decide (0 ≤ x0) && decide (x0 < (x1.length : Int))) (meet (guardK (decide (0 ≤ x0) && decide (x0 < (x1.length : Int))) (guardK (decide (0 ≤ a1) && decide (a1 < ((x1.set x0.toNat ((rd sEntry x1 a1.toNat).1, (rd sEntry x1 a1.toNat).2)).length : Int))) (c0 a0 a1 a2 a3 x0 ((x1.set x0.toNat ((rd sEntry x1 a1.toNat).1, (rd sEntry x1 a1.toNat).2)).set a1.toNat ((rd sEntry x1 x0.toNat).1, (rd sEntry x1 x0.toNat).2))))) (guardK (decide (0 ≤ x0) && decide (x0 < (x1.length : Int))) (guardK (decide (0 ≤ a1) && decide (a1 < ((x1.set x0.toNat ((rd sEntry x1 a1.toNat).1, (rd sEntry x1 a1.toNat).2)).length : Int))) (c0 a0 a1 a2 a3 x0 ((x1.set x0.toNat ((rd sEntry x1 a1.toNat).1, (rd sEntry x1 a1.toNat).2)).set a1.toNat ((rd sEntry x1 x0.toNat).1, (rd sEntry x1 x0.toNat).2))))))))
theorem F.slices_partitionCmpFunc_apiEntry_by_keys_row_1.j1111111111.eq K a0 a1 a2 a3 x0 x1 : F.slices_partitionCmpFunc_apiEntry_by_keys_row_1.j1111111111 K a0 a1 a2 a3 x0 x1 = F.slices_partitionCmpFunc_apiEntry_by_keys_row_1.j1111111111.B (F.slices_partitionCmpFunc_apiEntry_by_keys_row_1.j11111111111 K) a0 a1 a2 a3 x0 x1 := (F.slices_partitionCmpFunc_apiEntry_by_keys_row_1.in_eq K [1, 1, 1, 1, 1, 1, 1, 1, 1, 1] [] (F.slices_partitionCmpFunc_apiEntry_by_keys_row_1.j1111111111.st a0 a1 a2 a3 x0 x1)).trans ((show ∀ H, F.slices_partitionCmpFunc_apiEntry_by_keys_row_1.in K H [1, 1, 1, 1, 1, 1, 1, 1, 1, 1] [] (F.slices_partitionCmpFunc_apiEntry_by_keys_row_1.j1111111111.st a0 a1 a2 a3 x0 x1) = F.slices_partitionCmpFunc_apiEntry_by_keys_row_1.j1111111111.B (fun a0 a1 a2 a3 x0 x1 => H [1, 1, 1, 1, 1, 1, 1, 1, 1, 1, 1] [] (F.slices_partitionCmpFunc_apiEntry_by_keys_row_1.j11111111111.st a0 a1 a2 a3 x0 x1)) a0 a1 a2 a3 x0 x1 from by intro H; kernel_rfl) (F.slices_partitionCmpFunc_apiEntry_by_keys_row_1.at K))
noncomputable def F.slices_partitionCmpFunc_apiEntry_by_keys_row_1.j11111111111.B (a0 : List TEntry) (a1 : Int) (a2 : Int) (a3 : Int) (x0 : Int) (x1 : List TEntry) : Option (Int × Bool × (List TEntry)) :=
    (some (x0, false, x1))
theorem F.slices_partitionCmpFunc_apiEntry_by_keys_row_1.j11111111111.eq K a0 a1 a2 a3 x0 x1 : F.slices_partitionCmpFunc_apiEntry_by_keys_row_1.j11111111111 K a0 a1 a2 a3 x0 x1 = F.slices_partitionCmpFunc_apiEntry_by_keys_row_1.j11111111111.B a0 a1 a2 a3 x0 x1 := (F.slices_partitionCmpFunc_apiEntry_by_keys_row_1.in_eq K [1, 1, 1, 1, 1, 1, 1, 1, 1, 1, 1] [] (F.slices_partitionCmpFunc_apiEntry_by_keys_row_1.j11111111111.st a0 a1 a2 a3 x0 x1)).trans ((show ∀ H, F.slices_partitionCmpFunc_apiEntry_by_keys_row_1.in K H [1, 1, 1, 1, 1, 1, 1, 1, 1, 1, 1] [] (F.slices_partitionCmpFunc_apiEntry_by_keys_row_1.j11111111111.st a0 a1 a2 a3 x0 x1) = F.slices_partitionCmpFunc_apiEntry_by_keys_row_1.j11111111111.B a0 a1 a2 a3 x0 x1 from by intro H; kernel_rfl) (F.slices_partitionCmpFunc_apiEntry_by_keys_row_1.at K))
noncomputable def F.slices_partitionCmpFunc_apiEntry_by_keys_row_1.B (c0 : (List TEntry) → (Int) → (Int) → (Int) → Option (Int × Bool × (List TEntry))) (a0 : List TEntry) (a1 : Int) (a2 : Int) (a3 : Int) : Option (Int × Bool × (List TEntry)) :=
    (guardK (decide (0 ≤ a3) && decide (a3 < (a0.length : Int))) (guardK (decide (0 ≤ a1) && decide (a1 < (a0.length : Int))) (meet (guardK (decide (0 ≤ a1) && decide (a1 < (a0.length : Int))) (guardK (decide (0 ≤ a3) && decide (a3 < ((a0.set a1.toNat ((rd sEntry a0 a3.toNat).1, (rd sEntry a0 a3.toNat).2)).length : Int))) (c0 a0 a1 a2 a3))) (guardK (decide (0 ≤ a1) && decide (a1 < (a0.length : Int))) (guardK (decide (0 ≤ a3) && decide (a3 < ((a0.set a1.toNat ((rd sEntry a0 a3.toNat).1, (rd sEntry a0 a3.toNat).2)).length : Int))) (c0 a0 a1 a2 a3))))))
theorem F.slices_partitionCmpFunc_apiEntry_by_keys_row_1.eq K a0 a1 a2 a3 : F.slices_partitionCmpFunc_apiEntry_by_keys_row_1 (K + 1) a0 a1 a2 a3 = F.slices_partitionCmpFunc_apiEntry_by_keys_row_1.B (F.slices_partitionCmpFunc_apiEntry_by_keys_row_1.j11 K) a0 a1 a2 a3 := (F.slices_partitionCmpFunc_apiEntry_by_keys_row_1.in_main K a0 a1 a2 a3).trans ((show ∀ H, F.slices_partitionCmpFunc_apiEntry_by_keys_row_1.in K H [] [] ⟨slots [.sc (.own 0 none), .sc (.val (.int .i64 a1)), .sc (.val (.int .i64 a2)), .sc (.val (.int .i64 a3)), .sc (.fn 142 [])] 0, [.elems sEntry a0]⟩ = F.slices_partitionCmpFunc_apiEntry_by_keys_row_1.B (fun a0 a1 a2 a3 => H [1, 1] [] (F.slices_partitionCmpFunc_apiEntry_by_keys_row_1.j11.st a0 a1 a2 a3)) a0 a1 a2 a3 from by intro H; kernel_rfl) (F.slices_partitionCmpFunc_apiEntry_by_keys_row_1.at K))
noncomputable def V.slices_partitionCmpFunc_apiEntry_by_keys_row_1.j11 (a0 : List TEntry) (a1 : Int) (a2 : Int) (a3 : Int) := lim fun v => F.slices_partitionCmpFunc_apiEntry_by_keys_row_1.j11 (v 0) a0 a1 a2 a3
noncomputable def V.slices_partitionCmpFunc_apiEntry_by_keys_row_1.l11100 (a0 : List TEntry) (a1 : Int) (a2 : Int) (a3 : Int) (x0 : Int) := lim fun v => F.slices_partitionCmpFunc_apiEntry_by_keys_row_1.l11100 (v 0) (v 1) a0 a1 a2 a3 x0
noncomputable def V.slices_partitionCmpFunc_apiEntry_by_keys_row_1.j11100001 (a0 : List TEntry) (a1 : Int) (a2 : Int) (a3 : Int) (x0 : Int) (x1 : Bool) := lim fun v => F.slices_partitionCmpFunc_apiEntry_by_keys_row_1.j11100001 (v 0) (v 1) a0 a1 a2 a3 x0 x1
noncomputable def V.slices_partitionCmpFunc_apiEntry_by_keys_row_1.j1111 (a0 : List TEntry) (a1 : Int) (a2 : Int) (a3 : Int) (x0 : Int) := lim fun v => F.slices_partitionCmpFunc_apiEntry_by_keys_row_1.j1111 (v 0) a0 a1 a2 a3 x0
noncomputable def V.slices_partitionCmpFunc_apiEntry_by_keys_row_1.l111100 (a0 : List TEntry) (a1 : Int) (a2 : Int) (a3 : Int) (x0 : Int) (x1 : Int) := lim fun v => F.slices_partitionCmpFunc_apiEntry_by_keys_row_1.l111100 (v 0) (v 1) a0 a1 a2 a3 x0 x1
noncomputable def V.slices_partitionCmpFunc_apiEntry_by_keys_row_1.j111100001 (a0 : List TEntry) (a1 : Int) (a2 : Int) (a3 : Int) (x0 : Int) (x1 : Int) (x2 : Bool) := lim fun v => F.slices_partitionCmpFunc_apiEntry_by_keys_row_1.j111100001 (v 0) (v 1) a0 a1 a2 a3 x0 x1 x2
noncomputable def V.slices_partitionCmpFunc_apiEntry_by_keys_row_1.j11111 (a0 : List TEntry) (a1 : Int) (a2 : Int) (a3 : Int) (x0 : Int) (x1 : Int) := lim fun v => F.slices_partitionCmpFunc_apiEntry_by_keys_row_1.j11111 (v 0) a0 a1 a2 a3 x0 x1
noncomputable def V.slices_partitionCmpFunc_apiEntry_by_keys_row_1.j111110101 (a0 : List TEntry) (a1 : Int) (a2 : Int) (a3 : Int) (x0 : Int) (x1 : List TEntry) := lim fun v => F.slices_partitionCmpFunc_apiEntry_by_keys_row_1.j111110101 (v 0) a0 a1 a2 a3 x0 x1
noncomputable def V.slices_partitionCmpFunc_apiEntry_by_keys_row_1.j111111 (a0 : List TEntry) (a1 : Int) (a2 : Int) (a3 : Int) (x0 : Int) (x1 : Int) := lim fun v => F.slices_partitionCmpFunc_apiEntry_by_keys_row_1.j111111 (v 0) a0 a1 a2 a3 x0 x1
noncomputable def V.slices_partitionCmpFunc_apiEntry_by_keys_row_1.j1111111 (a0 : List TEntry) (a1 : Int) (a2 : Int) (a3 : Int) (x0 : Int) (x1 : Int) (x2 : List TEntry) := lim fun v => F.slices_partitionCmpFunc_apiEntry_by_keys_row_1.j1111111 (v 0) a0 a1 a2 a3 x0 x1 x2
noncomputable def V.slices_partitionCmpFunc_apiEntry_by_keys_row_1.l11111111100 (a0 : List TEntry) (a1 : Int) (a2 : Int) (a3 : Int) (x0 : Int) (x1 : Int) (x2 : List TEntry) := lim fun v => F.slices_partitionCmpFunc_apiEntry_by_keys_row_1.l11111111100 (v 0) (v 1) a0 a1 a2 a3 x0 x1 x2
noncomputable def V.slices_partitionCmpFunc_apiEntry_by_keys_row_1.l111111111000000 (a0 : List TEntry) (a1 : Int) (a2 : Int) (a3 : Int) (x0 : Int) (x1 : Int) (x2 : List TEntry) := lim fun v => F.slices_partitionCmpFunc_apiEntry_by_keys_row_1.l111111111000000 (v 0) (v 1) (v 2) a0 a1 a2 a3 x0 x1 x2
noncomputable def V.slices_partitionCmpFunc_apiEntry_by_keys_row_1.j111111111000000001 (a0 : List TEntry) (a1 : Int) (a2 : Int) (a3 : Int) (x0 : Int) (x1 : Int) (x2 : Bool) (x3 : List TEntry) := lim fun v => F.slices_partitionCmpFunc_apiEntry_by_keys_row_1.j111111111000000001 (v 0) (v 1) (v 2) a0 a1 a2 a3 x0 x1 x2 x3
noncomputable def V.slices_partitionCmpFunc_apiEntry_by_keys_row_1.j11111111100001 (a0 : List TEntry) (a1 : Int) (a2 : Int) (a3 : Int) (x0 : Int) (x1 : Int) (x2 : List TEntry) := lim fun v => F.slices_partitionCmpFunc_apiEntry_by_keys_row_1.j11111111100001 (v 0) (v 1) a0 a1 a2 a3 x0 x1 x2
noncomputable def V.slices_partitionCmpFunc_apiEntry_by_keys_row_1.l1111111110000100 (a0 : List TEntry) (a1 : Int) (a2 : Int) (a3 : Int) (x0 : Int) (x1 : Int) (x2 : List TEntry) := lim fun v => F.slices_partitionCmpFunc_apiEntry_by_keys_row_1.l1111111110000100 (v 0) (v 1) (v 2) a0 a1 a2 a3 x0 x1 x2
noncomputable def V.slices_partitionCmpFunc_apiEntry_by_keys_row_1.j1111111110000100001 (a0 : List TEntry) (a1 : Int) (a2 : Int) (a3 : Int) (x0 : Int) (x1 : Int) (x2 : Bool) (x3 : List TEntry) := lim fun v => F.slices_partitionCmpFunc_apiEntry_by_keys_row_1.j1111111110000100001 (v 0) (v 1) (v 2) a0 a1 a2 a3 x0 x1 x2 x3
noncomputable def V.slices_partitionCmpFunc_apiEntry_by_keys_row_1.j111111111000011 (a0 : List TEntry) (a1 : Int) (a2 : Int) (a3 : Int) (x0 : Int) (x1 : Int) (x2 : List TEntry) := lim fun v => F.slices_partitionCmpFunc_apiEntry_by_keys_row_1.j111111111000011 (v 0) (v 1) a0 a1 a2 a3 x0 x1 x2
noncomputable def V.slices_partitionCmpFunc_apiEntry_by_keys_row_1.j1111111110000111 (a0 : List TEntry) (a1 : Int) (a2 : Int) (a3 : Int) (x0 : Int) (x1 : Int) (x2 : List TEntry) := lim fun v => F.slices_partitionCmpFunc_apiEntry_by_keys_row_1.j1111111110000111 (v 0) (v 1) a0 a1 a2 a3 x0 x1 x2
noncomputable def V.slices_partitionCmpFunc_apiEntry_by_keys_row_1.j11111111100001111 (a0 : List TEntry) (a1 : Int) (a2 : Int) (a3 : Int) (x0 : Int) (x1 : Int) (x2 : List TEntry) := lim fun v => F.slices_partitionCmpFunc_apiEntry_by_keys_row_1.j11111111100001111 (v 0) (v 1) a0 a1 a2 a3 x0 x1 x2
noncomputable def V.slices_partitionCmpFunc_apiEntry_by_keys_row_1.j1111111111 (a0 : List TEntry) (a1 : Int) (a2 : Int) (a3 : Int) (x0 : Int) (x1 : List TEntry) := lim fun v => F.slices_partitionCmpFunc_apiEntry_by_keys_row_1.j1111111111 (v 0) a0 a1 a2 a3 x0 x1
noncomputable def V.slices_partitionCmpFunc_apiEntry_by_keys_row_1.j11111111111 (a0 : List TEntry) (a1 : Int) (a2 : Int) (a3 : Int) (x0 : Int) (x1 : List TEntry) := lim fun v => F.slices_partitionCmpFunc_apiEntry_by_keys_row_1.j11111111111 (v 0) a0 a1 a2 a3 x0 x1
noncomputable def V.slices_partitionCmpFunc_apiEntry_by_keys_row_1 (a0 : List TEntry) (a1 : Int) (a2 : Int) (a3 : Int) := lim fun v => F.slices_partitionCmpFunc_apiEntry_by_keys_row_1 (v 0) a0 a1 a2 a3
theorem V.slices_partitionCmpFunc_apiEntry_by_keys_row_1.j11.of a0 a1 a2 a3 {r} (h : F.slices_partitionCmpFunc_apiEntry_by_keys_row_1.j11.B V.slices_partitionCmpFunc_apiEntry_by_keys_row_1.l11100 a0 a1 a2 a3 = some r) : V.slices_partitionCmpFunc_apiEntry_by_keys_row_1.j11 a0 a1 a2 a3 = some r :=
  App.to (App.same (fun v => F.slices_partitionCmpFunc_apiEntry_by_keys_row_1.j11.eq (v 0) a0 a1 a2 a3) (by unfold F.slices_partitionCmpFunc_apiEntry_by_keys_row_1.j11.B; repeat' first | exact App.val | exact App.no | exact App.lim | exact (App.enter 1 App.lim) | apply App.cond | apply App.guard | apply App.meet | apply App.ite | refine App.bind ?_ fun _ => ?_)) h
theorem V.slices_partitionCmpFunc_apiEntry_by_keys_row_1.l11100.of a0 a1 a2 a3 x0 {r} (h : F.slices_partitionCmpFunc_apiEntry_by_keys_row_1.l11100.B V.keys_row_1 V.slices_partitionCmpFunc_apiEntry_by_keys_row_1.j11100001 a0 a1 a2 a3 x0 = some r) : V.slices_partitionCmpFunc_apiEntry_by_keys_row_1.l11100 a0 a1 a2 a3 x0 = some r :=
  App.to (App.step 1 (fun v => F.slices_partitionCmpFunc_apiEntry_by_keys_row_1.l11100.eq (v 0) (v 1) a0 a1 a2 a3 x0) (by unfold F.slices_partitionCmpFunc_apiEntry_by_keys_row_1.l11100.B; repeat' first | exact App.val | exact App.no | exact App.lim | apply App.cond | apply App.guard | apply App.meet | apply App.ite | refine App.bind ?_ fun _ => ?_)) h
theorem V.slices_partitionCmpFunc_apiEntry_by_keys_row_1.j11100001.of a0 a1 a2 a3 x0 x1 {r} (h : F.slices_partitionCmpFunc_apiEntry_by_keys_row_1.j11100001.B V.slices_partitionCmpFunc_apiEntry_by_keys_row_1.l11100 V.slices_partitionCmpFunc_apiEntry_by_keys_row_1.j1111 a0 a1 a2 a3 x0 x1 = some r) : V.slices_partitionCmpFunc_apiEntry_by_keys_row_1.j11100001 a0 a1 a2 a3 x0 x1 = some r :=
  App.to (App.same (fun v => F.slices_partitionCmpFunc_apiEntry_by_keys_row_1.j11100001.eq (v 0) (v 1) a0 a1 a2 a3 x0 x1) (by unfold F.slices_partitionCmpFunc_apiEntry_by_keys_row_1.j11100001.B; repeat' first | exact App.val | exact App.no | exact App.lim | apply App.cond | apply App.guard | apply App.meet | apply App.ite | refine App.bind ?_ fun _ => ?_)) h
theorem V.slices_partitionCmpFunc_apiEntry_by_keys_row_1.j1111.of a0 a1 a2 a3 x0 {r} (h : F.slices_partitionCmpFunc_apiEntry_by_keys_row_1.j1111.B V.slices_partitionCmpFunc_apiEntry_by_keys_row_1.l111100 a0 a1 a2 a3 x0 = some r) : V.slices_partitionCmpFunc_apiEntry_by_keys_row_1.j1111 a0 a1 a2 a3 x0 = some r :=
  App.to (App.same (fun v => F.slices_partitionCmpFunc_apiEntry_by_keys_row_1.j1111.eq (v 0) a0 a1 a2 a3 x0) (by unfold F.slices_partitionCmpFunc_apiEntry_by_keys_row_1.j1111.B; repeat' first | exact App.val | exact App.no | exact App.lim | exact (App.enter 1 App.lim) | apply App.cond | apply App.guard | apply App.meet | apply App.ite | refine App.bind ?_ fun _ => ?_)) h
theorem V.slices_partitionCmpFunc_apiEntry_by_keys_row_1.l111100.of a0 a1 a2 a3 x0 x1 {r} (h : F.slices_partitionCmpFunc_apiEntry_by_keys_row_1.l111100.B V.keys_row_1 V.slices_partitionCmpFunc_apiEntry_by_keys_row_1.j111100001 a0 a1 a2 a3 x0 x1 = some r) : V.slices_partitionCmpFunc_apiEntry_by_keys_row_1.l111100 a0 a1 a2 a3 x0 x1 = some r :=
  App.to (App.step 1 (fun v => F.slices_partitionCmpFunc_apiEntry_by_keys_row_1.l111100.eq (v 0) (v 1) a0 a1 a2 a3 x0 x1) (by unfold F.slices_partitionCmpFunc_apiEntry_by_keys_row_1.l111100.B; repeat' first | exact App.val | exact App.no | exact App.lim | apply App.cond | apply App.guard | apply App.meet | apply App.ite | refine App.bind ?_ fun _ => ?_)) h
theorem V.slices_partitionCmpFunc_apiEntry_by_keys_row_1.j111100001.of a0 a1 a2 a3 x0 x1 x2 {r} (h : F.slices_partitionCmpFunc_apiEntry_by_keys_row_1.j111100001.B V.slices_partitionCmpFunc_apiEntry_by_keys_row_1.l111100 V.slices_partitionCmpFunc_apiEntry_by_keys_row_1.j11111 a0 a1 a2 a3 x0 x1 x2 = some r) : V.slices_partitionCmpFunc_apiEntry_by_keys_row_1.j111100001 a0 a1 a2 a3 x0 x1 x2 = some r :=
  App.to (App.same (fun v => F.slices_partitionCmpFunc_apiEntry_by_keys_row_1.j111100001.eq (v 0) (v 1) a0 a1 a2 a3 x0 x1 x2) (by unfold F.slices_partitionCmpFunc_apiEntry_by_keys_row_1.j111100001.B; repeat' first | exact App.val | exact App.no | exact App.lim | apply App.cond | apply App.guard | apply App.meet | apply App.ite | refine App.bind ?_ fun _ => ?_)) h
theorem V.slices_partitionCmpFunc_apiEntry_by_keys_row_1.j11111.of a0 a1 a2 a3 x0 x1 {r} (h : F.slices_partitionCmpFunc_apiEntry_by_keys_row_1.j11111.B V.slices_partitionCmpFunc_apiEntry_by_keys_row_1.j111110101 V.slices_partitionCmpFunc_apiEntry_by_keys_row_1.j111111 a0 a1 a2 a3 x0 x1 = some r) : V.slices_partitionCmpFunc_apiEntry_by_keys_row_1.j11111 a0 a1 a2 a3 x0 x1 = some r :=
  App.to (App.same (fun v => F.slices_partitionCmpFunc_apiEntry_by_keys_row_1.j11111.eq (v 0) a0 a1 a2 a3 x0 x1) (by unfold F.slices_partitionCmpFunc_apiEntry_by_keys_row_1.j11111.B; repeat' first | exact App.val | exact App.no | exact App.lim | apply App.cond | apply App.guard | apply App.meet | apply App.ite | refine App.bind ?_ fun _ => ?_)) h
theorem V.slices_partitionCmpFunc_apiEntry_by_keys_row_1.j111110101.of a0 a1 a2 a3 x0 x1 {r} (h : F.slices_partitionCmpFunc_apiEntry_by_keys_row_1.j111110101.B a0 a1 a2 a3 x0 x1 = some r) : V.slices_partitionCmpFunc_apiEntry_by_keys_row_1.j111110101 a0 a1 a2 a3 x0 x1 = some r :=
  App.to (App.same (fun v => F.slices_partitionCmpFunc_apiEntry_by_keys_row_1.j111110101.eq (v 0) a0 a1 a2 a3 x0 x1) (by unfold F.slices_partitionCmpFunc_apiEntry_by_keys_row_1.j111110101.B; repeat' first | exact App.val | exact App.no | exact App.lim | apply App.cond | apply App.guard | apply App.meet | apply App.ite | refine App.bind ?_ fun _ => ?_)) h
theorem V.slices_partitionCmpFunc_apiEntry_by_keys_row_1.j111111.of a0 a1 a2 a3 x0 x1 {r} (h : F.slices_partitionCmpFunc_apiEntry_by_keys_row_1.j111111.B V.slices_partitionCmpFunc_apiEntry_by_keys_row_1.j1111111 a0 a1 a2 a3 x0 x1 = some r) : V.slices_partitionCmpFunc_apiEntry_by_keys_row_1.j111111 a0 a1 a2 a3 x0 x1 = some r :=
  App.to (App.same (fun v => F.slices_partitionCmpFunc_apiEntry_by_keys_row_1.j111111.eq (v 0) a0 a1 a2 a3 x0 x1) (by unfold F.slices_partitionCmpFunc_apiEntry_by_keys_row_1.j111111.B; repeat' first | exact App.val | exact App.no | exact App.lim | apply App.cond | apply App.guard | apply App.meet | apply App.ite | refine App.bind ?_ fun _ => ?_)) h
theorem V.slices_partitionCmpFunc_apiEntry_by_keys_row_1.j1111111.of a0 a1 a2 a3 x0 x1 x2 {r} (h : F.slices_partitionCmpFunc_apiEntry_by_keys_row_1.j1111111.B V.slices_partitionCmpFunc_apiEntry_by_keys_row_1.l11111111100 a0 a1 a2 a3 x0 x1 x2 = some r) : V.slices_partitionCmpFunc_apiEntry_by_keys_row_1.j1111111 a0 a1 a2 a3 x0 x1 x2 = some r :=
  App.to (App.same (fun v => F.slices_partitionCmpFunc_apiEntry_by_keys_row_1.j1111111.eq (v 0) a0 a1 a2 a3 x0 x1 x2) (by unfold F.slices_partitionCmpFunc_apiEntry_by_keys_row_1.j1111111.B; repeat' first | exact App.val | exact App.no | exact App.lim | exact (App.enter 1 App.lim) | apply App.cond | apply App.guard | apply App.meet | apply App.ite | refine App.bind ?_ fun _ => ?_)) h
theorem V.slices_partitionCmpFunc_apiEntry_by_keys_row_1.l11111111100.of a0 a1 a2 a3 x0 x1 x2 {r} (h : F.slices_partitionCmpFunc_apiEntry_by_keys_row_1.l11111111100.B V.slices_partitionCmpFunc_apiEntry_by_keys_row_1.l111111111000000 a0 a1 a2 a3 x0 x1 x2 = some r) : V.slices_partitionCmpFunc_apiEntry_by_keys_row_1.l11111111100 a0 a1 a2 a3 x0 x1 x2 = some r :=
  App.to (App.step 1 (fun v => F.slices_partitionCmpFunc_apiEntry_by_keys_row_1.l11111111100.eq (v 0) (v 1) a0 a1 a2 a3 x0 x1 x2) (by unfold F.slices_partitionCmpFunc_apiEntry_by_keys_row_1.l11111111100.B; repeat' first | exact App.val | exact App.no | exact App.lim | exact (App.enter 2 App.lim) | apply App.cond | apply App.guard | apply App.meet | apply App.ite | refine App.bind ?_ fun _ => ?_)) h
theorem V.slices_partitionCmpFunc_apiEntry_by_keys_row_1.l111111111000000.of a0 a1 a2 a3 x0 x1 x2 {r} (h : F.slices_partitionCmpFunc_apiEntry_by_keys_row_1.l111111111000000.B V.keys_row_1 V.slices_partitionCmpFunc_apiEntry_by_keys_row_1.j111111111000000001 a0 a1 a2 a3 x0 x1 x2 = some r) : V.slices_partitionCmpFunc_apiEntry_by_keys_row_1.l111111111000000 a0 a1 a2 a3 x0 x1 x2 = some r :=
  App.to (App.step 2 (fun v => F.slices_partitionCmpFunc_apiEntry_by_keys_row_1.l111111111000000.eq (v 0) (v 1) (v 2) a0 a1 a2 a3 x0 x1 x2) (by unfold F.slices_partitionCmpFunc_apiEntry_by_keys_row_1.l111111111000000.B; repeat' first | exact App.val | exact App.no | exact App.lim | apply App.cond | apply App.guard | apply App.meet | apply App.ite | refine App.bind ?_ fun _ => ?_)) h
theorem V.slices_partitionCmpFunc_apiEntry_by_keys_row_1.j111111111000000001.of a0 a1 a2 a3 x0 x1 x2 x3 {r} (h : F.slices_partitionCmpFunc_apiEntry_by_keys_row_1.j111111111000000001.B V.slices_partitionCmpFunc_apiEntry_by_keys_row_1.l111111111000000 V.slices_partitionCmpFunc_apiEntry_by_keys_row_1.j11111111100001 a0 a1 a2 a3 x0 x1 x2 x3 = some r) : V.slices_partitionCmpFunc_apiEntry_by_keys_row_1.j111111111000000001 a0 a1 a2 a3 x0 x1 x2 x3 = some r :=
  App.to (App.same (fun v => F.slices_partitionCmpFunc_apiEntry_by_keys_row_1.j111111111000000001.eq (v 0) (v 1) (v 2) a0 a1 a2 a3 x0 x1 x2 x3) (by unfold F.slices_partitionCmpFunc_apiEntry_by_keys_row_1.j111111111000000001.B; repeat' first | exact App.val | exact App.no | exact App.lim | apply App.cond | apply App.guard | apply App.meet | apply App.ite | refine App.bind ?_ fun _ => ?_)) h
theorem V.slices_partitionCmpFunc_apiEntry_by_keys_row_1.j11111111100001.of a0 a1 a2 a3 x0 x1 x2 {r} (h : F.slices_partitionCmpFunc_apiEntry_by_keys_row_1.j11111111100001.B V.slices_partitionCmpFunc_apiEntry_by_keys_row_1.l1111111110000100 a0 a1 a2 a3 x0 x1 x2 = some r) : V.slices_partitionCmpFunc_apiEntry_by_keys_row_1.j11111111100001 a0 a1 a2 a3 x0 x1 x2 = some r :=
  App.to (App.same (fun v => F.slices_partitionCmpFunc_apiEntry_by_keys_row_1.j11111111100001.eq (v 0) (v 1) a0 a1 a2 a3 x0 x1 x2) (by unfold F.slices_partitionCmpFunc_apiEntry_by_keys_row_1.j11111111100001.B; repeat' first | exact App.val | exact App.no | exact App.lim | exact (App.enter 2 App.lim) | apply App.cond | apply App.guard | apply App.meet | apply App.ite | refine App.bind ?_ fun _ => ?_)) h
theorem V.slices_partitionCmpFunc_apiEntry_by_keys_row_1.l1111111110000100.of a0 a1 a2 a3 x0 x1 x2 {r} (h : F.slices_partitionCmpFunc_apiEntry_by_keys_row_1.l1111111110000100.B V.keys_row_1 V.slices_partitionCmpFunc_apiEntry_by_keys_row_1.j1111111110000100001 a0 a1 a2 a3 x0 x1 x2 = some r) : V.slices_partitionCmpFunc_apiEntry_by_keys_row_1.l1111111110000100 a0 a1 a2 a3 x0 x1 x2 = some r :=
  App.to (App.step 2 (fun v => F.slices_partitionCmpFunc_apiEntry_by_keys_row_1.l1111111110000100.eq (v 0) (v 1) (v 2) a0 a1 a2 a3 x0 x1 x2) (by unfold F.slices_partitionCmpFunc_apiEntry_by_keys_row_1.l1111111110000100.B; repeat' first | exact App.val | exact App.no | exact App.lim | apply App.cond | apply App.guard | apply App.meet | apply App.ite | refine App.bind ?_ fun _ => ?_)) h
theorem V.slices_partitionCmpFunc_apiEntry_by_keys_row_1.j1111111110000100001.of a0 a1 a2 a3 x0 x1 x2 x3 {r} (h : F.slices_partitionCmpFunc_apiEntry_by_keys_row_1.j1111111110000100001.B V.slices_partitionCmpFunc_apiEntry_by_keys_row_1.l1111111110000100 V.slices_partitionCmpFunc_apiEntry_by_keys_row_1.j111111111000011 a0 a1 a2 a3 x0 x1 x2 x3 = some r) : V.slices_partitionCmpFunc_apiEntry_by_keys_row_1.j1111111110000100001 a0 a1 a2 a3 x0 x1 x2 x3 = some r :=
  App.to (App.same (fun v => F.slices_partitionCmpFunc_apiEntry_by_keys_row_1.j1111111110000100001.eq (v 0) (v 1) (v 2) a0 a1 a2 a3 x0 x1 x2 x3) (by unfold F.slices_partitionCmpFunc_apiEntry_by_keys_row_1.j1111111110000100001.B; repeat' first | exact App.val | exact App.no | exact App.lim | apply App.cond | apply App.guard | apply App.meet | apply App.ite | refine App.bind ?_ fun _ => ?_)) h
theorem V.slices_partitionCmpFunc_apiEntry_by_keys_row_1.j111111111000011.of a0 a1 a2 a3 x0 x1 x2 {r} (h : F.slices_partitionCmpFunc_apiEntry_by_keys_row_1.j111111111000011.B V.slices_partitionCmpFunc_apiEntry_by_keys_row_1.j1111111111 V.slices_partitionCmpFunc_apiEntry_by_keys_row_1.j1111111110000111 a0 a1 a2 a3 x0 x1 x2 = some r) : V.slices_partitionCmpFunc_apiEntry_by_keys_row_1.j111111111000011 a0 a1 a2 a3 x0 x1 x2 = some r :=
  App.to (App.same (fun v => F.slices_partitionCmpFunc_apiEntry_by_keys_row_1.j111111111000011.eq (v 0) (v 1) a0 a1 a2 a3 x0 x1 x2) (by unfold F.slices_partitionCmpFunc_apiEntry_by_keys_row_1.j111111111000011.B; repeat' first | exact App.val | exact App.no | exact App.lim | apply App.cond | apply App.guard | apply App.meet | apply App.ite | refine App.bind ?_ fun _ => ?_)) h
theorem V.slices_partitionCmpFunc_apiEntry_by_keys_row_1.j1111111110000111.of a0 a1 a2 a3 x0 x1 x2 {r} (h : F.slices_partitionCmpFunc_apiEntry_by_keys_row_1.j1111111110000111.B V.slices_partitionCmpFunc_apiEntry_by_keys_row_1.j11111111100001111 a0 a1 a2 a3 x0 x1 x2 = some r) : V.slices_partitionCmpFunc_apiEntry_by_keys_row_1.j1111111110000111 a0 a1 a2 a3 x0 x1 x2 = some r :=
  App.to (App.same (fun v => F.slices_partitionCmpFunc_apiEntry_by_keys_row_1.j1111111110000111.eq (v 0) (v 1) a0 a1 a2 a3 x0 x1 x2) (by unfold F.slices_partitionCmpFunc_apiEntry_by_keys_row_1.j1111111110000111.B; repeat' first | exact App.val | exact App.no | exact App.lim | apply App.cond | apply App.guard | apply App.meet | apply App.ite | refine App.bind ?_ fun _ => ?_)) h
theorem V.slices_partitionCmpFunc_apiEntry_by_keys_row_1.j11111111100001111.of a0 a1 a2 a3 x0 x1 x2 {r} (h : F.slices_partitionCmpFunc_apiEntry_by_keys_row_1.j11111111100001111.B V.slices_partitionCmpFunc_apiEntry_by_keys_row_1.l11111111100 a0 a1 a2 a3 x0 x1 x2 = some r) : V.slices_partitionCmpFunc_apiEntry_by_keys_row_1.j11111111100001111 a0 a1 a2 a3 x0 x1 x2 = some r :=
  App.to (App.same (fun v => F.slices_partitionCmpFunc_apiEntry_by_keys_row_1.j11111111100001111.eq (v 0) (v 1) a0 a1 a2 a3 x0 x1 x2) (by unfold F.slices_partitionCmpFunc_apiEntry_by_keys_row_1.j11111111100001111.B; repeat' first | exact App.val | exact App.no | exact App.lim | apply App.cond | apply App.guard | apply App.meet | apply App.ite | refine App.bind ?_ fun _ => ?_)) h
theorem V.slices_partitionCmpFunc_apiEntry_by_keys_row_1.j1111111111.of a0 a1 a2 a3 x0 x1 {r} (h : F.slices_partitionCmpFunc_apiEntry_by_keys_row_1.j1111111111.B V.slices_partitionCmpFunc_apiEntry_by_keys_row_1.j11111111111 a0 a1 a2 a3 x0 x1 = some r) : V.slices_partitionCmpFunc_apiEntry_by_keys_row_1.j1111111111 a0 a1 a2 a3 x0 x1 = some r :=
  App.to (App.same (fun v => F.slices_partitionCmpFunc_apiEntry_by_keys_row_1.j1111111111.eq (v 0) a0 a1 a2 a3 x0 x1) (by unfold F.slices_partitionCmpFunc_apiEntry_by_keys_row_1.j1111111111.B; repeat' first | exact App.val | exact App.no | exact App.lim | apply App.cond | apply App.guard | apply App.meet | apply App.ite | refine App.bind ?_ fun _ => ?_)) h
theorem V.slices_partitionCmpFunc_apiEntry_by_keys_row_1.j11111111111.of a0 a1 a2 a3 x0 x1 {r} (h : F.slices_partitionCmpFunc_apiEntry_by_keys_row_1.j11111111111.B a0 a1 a2 a3 x0 x1 = some r) : V.slices_partitionCmpFunc_apiEntry_by_keys_row_1.j11111111111 a0 a1 a2 a3 x0 x1 = some r :=
  App.to (App.same (fun v => F.slices_partitionCmpFunc_apiEntry_by_keys_row_1.j11111111111.eq (v 0) a0 a1 a2 a3 x0 x1) (by unfold F.slices_partitionCmpFunc_apiEntry_by_keys_row_1.j11111111111.B; repeat' first | exact App.val | exact App.no | exact App.lim | apply App.cond | apply App.guard | apply App.meet | apply App.ite | refine App.bind ?_ fun _ => ?_)) h
theorem V.slices_partitionCmpFunc_apiEntry_by_keys_row_1.of a0 a1 a2 a3 {r} (h : F.slices_partitionCmpFunc_apiEntry_by_keys_row_1.B V.slices_partitionCmpFunc_apiEntry_by_keys_row_1.j11 a0 a1 a2 a3 = some r) : V.slices_partitionCmpFunc_apiEntry_by_keys_row_1 a0 a1 a2 a3 = some r :=
  App.to (App.step 0 (fun v => F.slices_partitionCmpFunc_apiEntry_by_keys_row_1.eq (v 0) a0 a1 a2 a3) (by unfold F.slices_partitionCmpFunc_apiEntry_by_keys_row_1.B; repeat' first | exact App.val | exact App.no | exact App.lim | apply App.cond | apply App.guard | apply App.meet | apply App.ite | refine App.bind ?_ fun _ => ?_)) h
noncomputable def F.slices_nextPowerOfTwo (K : Nat) (a0 : Int) : Option (Int) := evFn Try.prog sg K 229 [.sc (.val (.int .i64 a0))] []
noncomputable def F.slices_nextPowerOfTwo.B (c0 : (Int) → Option (Int)) (a0 : Int) : Option (Int) :=
    ((c0 (IntKind.wrap .u64 a0)).bind fun t0 => (if t0 < 0 then none else (some (IntKind.wrap .u64 (1 * 2 ^ (min t0.toNat 64))))))
theorem F.slices_nextPowerOfTwo.eq K a0 : F.slices_nextPowerOfTwo (K + 1) a0 = F.slices_nextPowerOfTwo.B (F.math_bits_Len K) a0 := by kernel_rfl
noncomputable def V.slices_nextPowerOfTwo (a0 : Int) := lim fun v => F.slices_nextPowerOfTwo (v 0) a0
theorem V.slices_nextPowerOfTwo.of a0 {r} (h : F.slices_nextPowerOfTwo.B V.math_bits_Len a0 = some r) : V.slices_nextPowerOfTwo a0 = some r :=
  App.to (App.step 0 (fun v => F.slices_nextPowerOfTwo.eq (v 0) a0) (by unfold F.slices_nextPowerOfTwo.B; repeat' first | exact App.val | exact App.no | exact App.lim | apply App.cond | apply App.guard | apply App.meet | apply App.ite | refine App.bind ?_ fun _ => ?_)) h
noncomputable def F.slices_xorshift_Next (K : Nat) (a0 : Int) : Option (Int × Int) := evFn Try.prog sg K 230 [.sc (.ref 0 0)] [.cells 261 [.val (.int .u64 a0)]]
noncomputable def F.slices_xorshift_Next.at (K : Nat) (p ns : List Nat) (s : St) : Option (Int × Int) := atFn Try.prog sg K 230 1 p ns s
noncomputable def F.slices_xorshift_Next.in (K : Nat) (H : List Nat → List Nat → St → Option (Int × Int)) (p ns : List Nat) (s : St) : Option (Int × Int) := inFn Try.prog sg K 230 1 [[1, 1], [1, 1, 1], [1, 1, 1, 1]] H p ns s
theorem F.slices_xorshift_Next.in_eq K p ns s : F.slices_xorshift_Next.at K p ns s = F.slices_xorshift_Next.in K (F.slices_xorshift_Next.at K) p ns s := atFn_eq (P := Try.prog) (sg := sg) (K := K) (f := 230) (m := 1) [[1, 1], [1, 1, 1], [1, 1, 1, 1]] p ns s
theorem F.slices_xorshift_Next.in_main K a0 : F.slices_xorshift_Next (K + 1) a0 = F.slices_xorshift_Next.in K (F.slices_xorshift_Next.at K) [] [] ⟨slots [.sc (.ref 0 0)] 0, [.cells 261 [.val (.int .u64 a0)]]⟩ := evFn_eq (P := Try.prog) (sg := sg) (K := K) (f := 230) (args := [.sc (.ref 0 0)]) (σ := [.cells 261 [.val (.int .u64 a0)]]) [[1, 1], [1, 1, 1], [1, 1, 1, 1]] (by kernel_rfl)
def F.slices_xorshift_Next.j11.st (a0 : Int) : St := ⟨[(0, .one (.sc (.ref 0 0)))], [.cells 261 [.val (.int .u64 (IntKind.wrap .u64 ((BitVec.ofInt 64 a0 ^^^ BitVec.ofInt 64 (IntKind.wrap .u64 (a0 * 2 ^ 13))).toNat : Int)))]]⟩
noncomputable def F.slices_xorshift_Next.j11 (K : Nat) (a0 : Int) := F.slices_xorshift_Next.at K [1, 1] [] (F.slices_xorshift_Next.j11.st a0)
def F.slices_xorshift_Next.j111.st (a0 : Int) : St := ⟨[(0, .one (.sc (.ref 0 0)))], [.cells 261 [.val (.int .u64 (IntKind.wrap .u64 ((BitVec.ofInt 64 (IntKind.wrap .u64 ((BitVec.ofInt 64 a0 ^^^ BitVec.ofInt 64 (IntKind.wrap .u64 (a0 * 2 ^ 13))).toNat : Int)) ^^^ BitVec.ofInt 64 (Int.fdiv (IntKind.wrap .u64 ((BitVec.ofInt 64 a0 ^^^ BitVec.ofInt 64 (IntKind.wrap .u64 (a0 * 2 ^ 13))).toNat : Int)) (2 ^ 7))).toNat : Int)))]]⟩
noncomputable def F.slices_xorshift_Next.j111 (K : Nat) (a0 : Int) := F.slices_xorshift_Next.at K [1, 1, 1] [] (F.slices_xorshift_Next.j111.st a0)
def F.slices_xorshift_Next.j1111.st (a0 : Int) : St := ⟨[(0, .one (.sc (.ref 0 0)))], [.cells 261 [.val (.int .u64 (IntKind.wrap .u64 ((BitVec.ofInt 64 (IntKind.wrap .u64 ((BitVec.ofInt 64 (IntKind.wrap .u64 ((BitVec.ofInt 64 a0 ^^^ BitVec.ofInt 64 (IntKind.wrap .u64 (a0 * 2 ^ 13))).toNat : Int)) ^^^ BitVec.ofInt 64 (Int.fdiv (IntKind.wrap .u64 ((BitVec.ofInt 64 a0 ^^^ BitVec.ofInt 64 (IntKind.wrap .u64 (a0 * 2 ^ 13))).toNat : Int)) (2 ^ 7))).toNat : Int)) ^^^ BitVec.ofInt 64 (IntKind.wrap .u64 ((IntKind.wrap .u64 ((BitVec.ofInt 64 (IntKind.wrap .u64 ((BitVec.ofInt 64 a0 ^^^ BitVec.ofInt 64 (IntKind.wrap .u64 (a0 * 2 ^ 13))).toNat : Int)) ^^^ BitVec.ofInt 64 (Int.fdiv (IntKind.wrap .u64 ((BitVec.ofInt 64 a0 ^^^ BitVec.ofInt 64 (IntKind.wrap .u64 (a0 * 2 ^ 13))).toNat : Int)) (2 ^ 7))).toNat : Int)) * 2 ^ 17))).toNat : Int)))]]⟩
noncomputable def F.slices_xorshift_Next.j1111 (K : Nat) (a0 : Int) := F.slices_xorshift_Next.at K [1, 1, 1, 1] [] (F.slices_xorshift_Next.j1111.st a0)
noncomputable def F.slices_xorshift_Next.j11.B (c0 : (Int) → Option (Int × Int)) (a0 : Int) : Option (Int × Int) :=
    (meet (c0 a0) (c0 a0))
theorem F.slices_xorshift_Next.j11.eq K a0 : F.slices_xorshift_Next.j11 K a0 = F.slices_xorshift_Next.j11.B (F.slices_xorshift_Next.j111 K) a0 := (F.slices_xorshift_Next.in_eq K [1, 1] [] (F.slices_xorshift_Next.j11.st a0)).trans ((show ∀ H, F.slices_xorshift_Next.in K H [1, 1] [] (F.slices_xorshift_Next.j11.st a0) = F.slices_xorshift_Next.j11.B (fun a0 => H [1, 1, 1] [] (F.slices_xorshift_Next.j111.st a0)) a0 from by intro H; kernel_rfl) (F.slices_xorshift_Next.at K))
noncomputable def F.slices_xorshift_Next.j111.B (c0 : (Int) → Option (Int × Int)) (a0 : Int) : Option (Int × Int) :=
    (meet (c0 a0) (c0 a0))
theorem F.slices_xorshift_Next.j111.eq K a0 : F.slices_xorshift_Next.j111 K a0 = F.slices_xorshift_Next.j111.B (F.slices_xorshift_Next.j1111 K) a0 := (F.slices_xorshift_Next.in_eq K [1, 1, 1] [] (F.slices_xorshift_Next.j111.st a0)).trans ((show ∀ H, F.slices_xorshift_Next.in K H [1, 1, 1] [] (F.slices_xorshift_Next.j111.st a0) = F.slices_xorshift_Next.j111.B (fun a0 => H [1, 1, 1, 1] [] (F.slices_xorshift_Next.j1111.st a0)) a0 from by intro H; kernel_rfl) (F.slices_xorshift_Next.at K))
noncomputable def F.slices_xorshift_Next.j1111.B (a0 : Int) : Option (Int × Int) :=
    (some ((IntKind.wrap .u64 ((BitVec.ofInt 64 (IntKind.wrap .u64 ((BitVec.ofInt 64 (IntKind.wrap .u64 ((BitVec.ofInt 64 a0 ^^^ BitVec.ofInt 64 (IntKind.wrap .u64 (a0 * 2 ^ 13))).toNat : Int)) ^^^ BitVec.ofInt 64 (Int.fdiv (IntKind.wrap .u64 ((BitVec.ofInt 64 a0 ^^^ BitVec.ofInt 64 (IntKind.wrap .u64 (a0 * 2 ^ 13))).toNat : Int)) (2 ^ 7))).toNat : Int)) ^^^ BitVec.ofInt 64 (IntKind.wrap .u64 ((IntKind.wrap .u64 ((BitVec.ofInt 64 (IntKind.wrap .u64 ((BitVec.ofInt 64 a0 ^^^ BitVec.ofInt 64 (IntKind.wrap .u64 (a0 * 2 ^ 13))).toNat : Int)) ^^^ BitVec.ofInt 64 (Int.fdiv (IntKind.wrap .u64 ((BitVec.ofInt 64 a0 ^^^ BitVec.ofInt 64 (IntKind.wrap .u64 (a0 * 2 ^ 13))).toNat : Int)) (2 ^ 7))).toNat : Int)) * 2 ^ 17))).toNat : Int)), (IntKind.wrap .u64 ((BitVec.ofInt 64 (IntKind.wrap .u64 ((BitVec.ofInt 64 (IntKind.wrap .u64 ((BitVec.ofInt 64 a0 ^^^ BitVec.ofInt 64 (IntKind.wrap .u64 (a0 * 2 ^ 13))).toNat : Int)) ^^^ BitVec.ofInt 64 (Int.fdiv (IntKind.wrap .u64 ((BitVec.ofInt 64 a0 ^^^ BitVec.ofInt 64 (IntKind.wrap .u64 (a0 * 2 ^ 13))).toNat : Int)) (2 ^ 7))).toNat : Int)) ^^^ BitVec.ofInt 64 (IntKind.wrap .u64 ((IntKind.wrap .u64 ((BitVec.ofInt 64 (IntKind.wrap .u64 ((BitVec.ofInt 64 a0 ^^^ BitVec.ofInt 64 (IntKind.wrap .u64 (a0 * 2 ^ 13))).toNat : Int)) ^^^ BitVec.ofInt 64 (Int.fdiv (IntKind.wrap .u64 ((BitVec.ofInt 64 a0 ^^^ BitVec.ofInt 64 (IntKind.wrap .u64 (a0 * 2 ^ 13))).toNat : Int)) (2 ^ 7))).toNat : Int)) * 2 ^ 17))).toNat : Int))))
theorem F.slices_xorshift_Next.j1111.eq K a0 : F.slices_xorshift_Next.j1111 K a0 = F.slices_xorshift_Next.j1111.B a0 := (F.slices_xorshift_Next.in_eq K [1, 1, 1, 1] [] (F.slices_xorshift_Next.j1111.st a0)).trans ((show ∀ H, F.slices_xorshift_Next.in K H [1, 1, 1, 1] [] (F.slices_xorshift_Next.j1111.st a0) = F.slices_xorshift_Next.j1111.B a0 from by intro H; kernel_rfl) (F.slices_xorshift_Next.at K))
noncomputable def F.slices_xorshift_Next.B (c0 : (Int) → Option (Int × Int)) (a0 : Int) : Option (Int × Int) :=
    (meet (c0 a0) (c0 a0))
theorem F.slices_xorshift_Next.eq K a0 : F.slices_xorshift_Next (K + 1) a0 = F.slices_xorshift_Next.B (F.slices_xorshift_Next.j11 K) a0 := (F.slices_xorshift_Next.in_main K a0).trans ((show ∀ H, F.slices_xorshift_Next.in K H [] [] ⟨slots [.sc (.ref 0 0)] 0, [.cells 261 [.val (.int .u64 a0)]]⟩ = F.slices_xorshift_Next.B (fun a0 => H [1, 1] [] (F.slices_xorshift_Next.j11.st a0)) a0 from by intro H; kernel_rfl) (F.slices_xorshift_Next.at K))
noncomputable def V.slices_xorshift_Next.j11 (a0 : Int) := lim fun v => F.slices_xorshift_Next.j11 (v 0) a0
noncomputable def V.slices_xorshift_Next.j111 (a0 : Int) := lim fun v => F.slices_xorshift_Next.j111 (v 0) a0
noncomputable def V.slices_xorshift_Next.j1111 (a0 : Int) := lim fun v => F.slices_xorshift_Next.j1111 (v 0) a0
noncomputable def V.slices_xorshift_Next (a0 : Int) := lim fun v => F.slices_xorshift_Next (v 0) a0
theorem V.slices_xorshift_Next.j11.of a0 {r} (h : F.slices_xorshift_Next.j11.B V.slices_xorshift_Next.j111 a0 = some r) : V.slices_xorshift_Next.j11 a0 = some r :=
  App.to (App.same (fun v => F.slices_xorshift_Next.j11.eq (v 0) a0) (by unfold F.slices_xorshift_Next.j11.B; repeat' first | exact App.val | exact App.no | exact App.lim | apply App.cond | apply App.guard | apply App.meet | apply App.ite | refine App.bind ?_ fun _ => ?_)) h
theorem V.slices_xorshift_Next.j111.of a0 {r} (h : F.slices_xorshift_Next.j111.B V.slices_xorshift_Next.j1111 a0 = some r) : V.slices_xorshift_Next.j111 a0 = some r :=
  App.to (App.same (fun v => F.slices_xorshift_Next.j111.eq (v 0) a0) (by unfold F.slices_xorshift_Next.j111.B; repeat' first | exact App.val | exact App.no | exact App.lim | apply App.cond | apply App.guard | apply App.meet | apply App.ite | refine App.bind ?_ fun _ => ?_)) h
theorem V.slices_xorshift_Next.j1111.of a0 {r} (h : F.slices_xorshift_Next.j1111.B a0 = some r) : V.slices_xorshift_Next.j1111 a0 = some r :=
  App.to (App.same (fun v => F.slices_xorshift_Next.j1111.eq (v 0) a0) (by unfold F.slices_xorshift_Next.j1111.B; repeat' first | exact App.val | exact App.no | exact App.lim | apply App.cond | apply App.guard | apply App.meet | apply App.ite | refine App.bind ?_ fun _ => ?_)) h
theorem V.slices_xorshift_Next.of a0 {r} (h : F.slices_xorshift_Next.B V.slices_xorshift_Next.j11 a0 = some r) : V.slices_xorshift_Next a0 = some r :=
  App.to (App.step 0 (fun v => F.slices_xorshift_Next.eq (v 0) a0) (by unfold F.slices_xorshift_Next.B; repeat' first | exact App.val | exact App.no | exact App.lim | apply App.cond | apply App.guard | apply App.meet | apply App.ite | refine App.bind ?_ fun _ => ?_)) h
noncomputable def F.slices_breakPatternsCmpFunc_apiEntry_by_keys_row_1 (K : Nat) (a0 : List TEntry) (a1 : Int) (a2 : Int) : Option ((List TEntry)) := evFn Try.prog sg K 205 [.sc (.own 0 none), .sc (.val (.int .i64 a1)), .sc (.val (.int .i64 a2)), .sc (.fn 142 [])] [.elems sEntry a0]
noncomputable def F.slices_breakPatternsCmpFunc_apiEntry_by_keys_row_1.at (K : Nat) (p ns : List Nat) (s : St) : Option ((List TEntry)) := atFn Try.prog sg K 205 1 p ns s
noncomputable def F.slices_breakPatternsCmpFunc_apiEntry_by_keys_row_1.in (K : Nat) (H : List Nat → List Nat → St → Option ((List TEntry))) (p ns : List Nat) (s : St) : Option ((List TEntry)) := inFn Try.prog sg K 205 1 [[1, 1, 0, 1, 1, 1, 0, 0, 1, 0, 0, 1, 1], [1, 1, 0, 1, 1, 1, 0, 0, 1, 1]] H p ns s
theorem F.slices_breakPatternsCmpFunc_apiEntry_by_keys_row_1.in_eq K p ns s : F.slices_breakPatternsCmpFunc_apiEntry_by_keys_row_1.at K p ns s = F.slices_breakPatternsCmpFunc_apiEntry_by_keys_row_1.in K (F.slices_breakPatternsCmpFunc_apiEntry_by_keys_row_1.at K) p ns s := atFn_eq (P := Try.prog) (sg := sg) (K := K) (f := 205) (m := 1) [[1, 1, 0, 1, 1, 1, 0, 0, 1, 0, 0, 1, 1], [1, 1, 0, 1, 1, 1, 0, 0, 1, 1]] p ns s
theorem F.slices_breakPatternsCmpFunc_apiEntry_by_keys_row_1.in_main K a0 a1 a2 : F.slices_breakPatternsCmpFunc_apiEntry_by_keys_row_1 (K + 1) a0 a1 a2 = F.slices_breakPatternsCmpFunc_apiEntry_by_keys_row_1.in K (F.slices_breakPatternsCmpFunc_apiEntry_by_keys_row_1.at K) [] [] ⟨slots [.sc (.own 0 none), .sc (.val (.int .i64 a1)), .sc (.val (.int .i64 a2)), .sc (.fn 142 [])] 0, [.elems sEntry a0]⟩ := evFn_eq (P := Try.prog) (sg := sg) (K := K) (f := 205) (args := [.sc (.own 0 none), .sc (.val (.int .i64 a1)), .sc (.val (.int .i64 a2)), .sc (.fn 142 [])]) (σ := [.elems sEntry a0]) [[1, 1, 0, 1, 1, 1, 0, 0, 1, 0, 0, 1, 1], [1, 1, 0, 1, 1, 1, 0, 0, 1, 1]] (by kernel_rfl)
def F.slices_breakPatternsCmpFunc_apiEntry_by_keys_row_1.l1101110.st (a0 : List TEntry) (a1 : Int) (a2 : Int) (x0 : Int) (x1 : Int) (x2 : List TEntry) (x3 : Int) : St := ⟨[(0, .one (.sc (.own 0 none))), (1, vI a1), (8, vI (w64 (a2 - a1))), (9, .one (.sc (.ref 1 0))), (10, .one (.sc (.val (.int .u64 x0)))), (11, vI x1)], [.elems sEntry x2, .cells 261 [.val (.int .u64 x3)]]⟩
noncomputable def F.slices_breakPatternsCmpFunc_apiEntry_by_keys_row_1.l1101110 (K n0 : Nat) (a0 : List TEntry) (a1 : Int) (a2 : Int) (x0 : Int) (x1 : Int) (x2 : List TEntry) (x3 : Int) := F.slices_breakPatternsCmpFunc_apiEntry_by_keys_row_1.at K [1, 1, 0, 1, 1, 1, 0] [n0] (F.slices_breakPatternsCmpFunc_apiEntry_by_keys_row_1.l1101110.st a0 a1 a2 x0 x1 x2 x3)
def F.slices_breakPatternsCmpFunc_apiEntry_by_keys_row_1.j1101110010011.st (a0 : List TEntry) (a1 : Int) (a2 : Int) (x0 : Int) (x1 : Int) (x2 : Int) (x3 : List TEntry) (x4 : Int) : St := ⟨[(0, .one (.sc (.own 0 none))), (1, vI a1), (8, vI (w64 (a2 - a1))), (9, .one (.sc (.ref 1 0))), (10, .one (.sc (.val (.int .u64 x0)))), (11, vI x1), (12, vI x2)], [.elems sEntry x3, .cells 261 [.val (.int .u64 x4)]]⟩
noncomputable def F.slices_breakPatternsCmpFunc_apiEntry_by_keys_row_1.j1101110010011 (K n0 : Nat) (a0 : List TEntry) (a1 : Int) (a2 : Int) (x0 : Int) (x1 : Int) (x2 : Int) (x3 : List TEntry) (x4 : Int) := F.slices_breakPatternsCmpFunc_apiEntry_by_keys_row_1.at K [1, 1, 0, 1, 1, 1, 0, 0, 1, 0, 0, 1, 1] [n0] (F.slices_breakPatternsCmpFunc_apiEntry_by_keys_row_1.j1101110010011.st a0 a1 a2 x0 x1 x2 x3 x4)
def F.slices_breakPatternsCmpFunc_apiEntry_by_keys_row_1.j1101110011.st (a0 : List TEntry) (a1 : Int) (a2 : Int) (x0 : Int) (x1 : Int) (x2 : List TEntry) (x3 : Int) : St := ⟨[(0, .one (.sc (.own 0 none))), (1, vI a1), (8, vI (w64 (a2 - a1))), (9, .one (.sc (.ref 1 0))), (10, .one (.sc (.val (.int .u64 x0)))), (11, vI x1)], [.elems sEntry x2, .cells 261 [.val (.int .u64 x3)]]⟩
noncomputable def F.slices_breakPatternsCmpFunc_apiEntry_by_keys_row_1.j1101110011 (K n0 : Nat) (a0 : List TEntry) (a1 : Int) (a2 : Int) (x0 : Int) (x1 : Int) (x2 : List TEntry) (x3 : Int) := F.slices_breakPatternsCmpFunc_apiEntry_by_keys_row_1.at K [1, 1, 0, 1, 1, 1, 0, 0, 1, 1] [n0] (F.slices_breakPatternsCmpFunc_apiEntry_by_keys_row_1.j1101110011.st a0 a1 a2 x0 x1 x2 x3)
noncomputable def F.slices_breakPatternsCmpFunc_apiEntry_by_keys_row_1.l1101110.B (c0 : (Int) → Option (Int × Int)) (c1 : (List TEntry) → (Int) → (Int) → (Int) → (Int) → (Int) → (List TEntry) → (Int) → Option ((List TEntry))) (a0 : List TEntry) (a1 : Int) (a2 : Int) (x0 : Int) (x1 : Int) (x2 : List TEntry) (x3 : Int) : Option ((List TEntry)) :=
    (bif (decide (x1 ≤ (w64 ((w64 (a1 + (w64 ((w64 (Int.tdiv (w64 (a2 - a1)) 4)) * 2)))) + 1)))) then ((c0 x3).bind fun t1 => (bif (decide ((w64 (IntKind.wrap .u64 ((BitVec.ofInt 64 t1.1 &&& BitVec.ofInt 64 (IntKind.wrap .u64 (x0 - 1))).toNat : Int))) ≥ (w64 (a2 - a1)))) then (c1 a0 a1 a2 x0 x1 (w64 ((w64 (IntKind.wrap .u64 ((BitVec.ofInt 64 t1.1 &&& BitVec.ofInt 64 (IntKind.wrap .u64 (x0 - 1))).toNat : Int))) - (w64 (a2 - a1)))) x2 t1.2) else (c1 a0 a1 a2 x0 x1 (w64 (IntKind.wrap .u64 ((BitVec.ofInt 64 t1.1 &&& BitVec.ofInt 64 (IntKind.wrap .u64 (x0 - 1))).toNat : Int))) x2 t1.2))) else (some x2))
theorem F.slices_breakPatternsCmpFunc_apiEntry_by_keys_row_1.l1101110.eq K n0 a0 a1 a2 x0 x1 x2 x3 : F.slices_breakPatternsCmpFunc_apiEntry_by_keys_row_1.l1101110 K (n0 + 1) a0 a1 a2 x0 x1 x2 x3 = F.slices_breakPatternsCmpFunc_apiEntry_by_keys_row_1.l1101110.B (F.slices_xorshift_Next K) (F.slices_breakPatternsCmpFunc_apiEntry_by_keys_row_1.j1101110010011 K n0) a0 a1 a2 x0 x1 x2 x3 := (F.slices_breakPatternsCmpFunc_apiEntry_by_keys_row_1.in_eq K [1, 1, 0, 1, 1, 1, 0] [n0 + 1] (F.slices_breakPatternsCmpFunc_apiEntry_by_keys_row_1.l1101110.st a0 a1 a2 x0 x1 x2 x3)).trans ((show ∀ H, F.slices_breakPatternsCmpFunc_apiEntry_by_keys_row_1.in K H [1, 1, 0, 1, 1, 1, 0] [n0 + 1] (F.slices_breakPatternsCmpFunc_apiEntry_by_keys_row_1.l1101110.st a0 a1 a2 x0 x1 x2 x3) = F.slices_breakPatternsCmpFunc_apiEntry_by_keys_row_1.l1101110.B (F.slices_xorshift_Next K) (fun a0 a1 a2 x0 x1 x2 x3 x4 => H [1, 1, 0, 1, 1, 1, 0, 0, 1, 0, 0, 1, 1] [n0] (F.slices_breakPatternsCmpFunc_apiEntry_by_keys_row_1.j1101110010011.st a0 a1 a2 x0 x1 x2 x3 x4)) a0 a1 a2 x0 x1 x2 x3 from by intro H; kernel_rfl) (F.slices_breakPatternsCmpFunc_apiEntry_by_keys_row_1.at K))
noncomputable def F.slices_breakPatternsCmpFunc_apiEntry_by_keys_row_1.j1101110010011.B (c0 : (List TEntry) → (Int) → (Int) → (Int) → (Int) → (List TEntry) → (Int) → Option ((List TEntry))) (a0 : List TEntry) (a1 : Int) (a2 : Int) (x0 : Int) (x1 : Int) (x2 : Int) (x3 : List TEntry) (x4 : Int) : Option ((List TEntry)) :=
    (guardK (decide (0 ≤ (w64 (a1 + x2))) && decide ((w64 (a1 + x2)) < (x3.length : Int))) (guardK (decide (0 ≤ x1) && decide (x1 < (x3.length : Int))) (meet (guardK (decide (0 ≤ x1) && decide (x1 < (x3.length : Int))) (guardK (decide (0 ≤ (w64 (a1 + x2))) && decide ((w64 (a1 + x2)) < ((x3.set x1.toNat ((rd sEntry x3 ((w64 (a1 + x2)).toNat)).1, (rd sEntry x3 ((w64 (a1 + x2)).toNat)).2)).length : Int))) (c0 a0 a1 a2 x0 x1 ((x3.set x1.toNat ((rd sEntry x3 ((w64 (a1 + x2)).toNat)).1, (rd sEntry x3 ((w64 (a1 + x2)).toNat)).2)).set ((w64 (a1 + x2)).toNat) ((rd sEntry x3 x1.toNat).1, (rd sEntry x3 x1.toNat).2)) x4))) (guardK (decide (0 ≤ x1) && decide (x1 < (x3.length : Int))) (guardK (decide (0 ≤ (w64 (a1 + x2))) && decide ((w64 (a1 + x2)) < ((x3.set x1.toNat ((rd sEntry x3 ((w64 (a1 + x2)).toNat)).1, (rd sEntry x3 ((w64 (a1 + x2)).toNat)).2)).length : Int))) (c0 a0 a1 a2 x0 x1 ((x3.set x1.toNat ((rd sEntry x3 ((w64 (a1 + x2)).toNat)).1, (rd sEntry x3 ((w64 (a1 + x2)).toNat)).2)).set ((w64 (a1 + x2)).toNat) ((rd sEntry x3 x1.toNat).1, (rd sEntry x3 x1.toNat).2)) x4))))))
theorem F.slices_breakPatternsCmpFunc_apiEntry_by_keys_row_1.j1101110010011.eq K n0 a0 a1 a2 x0 x1 x2 x3 x4 : F.slices_breakPatternsCmpFunc_apiEntry_by_keys_row_1.j1101110010011 K n0 a0 a1 a2 x0 x1 x2 x3 x4 = F.slices_breakPatternsCmpFunc_apiEntry_by_keys_row_1.j1101110010011.B (F.slices_breakPatternsCmpFunc_apiEntry_by_keys_row_1.j1101110011 K n0) a0 a1 a2 x0 x1 x2 x3 x4 := (F.slices_breakPatternsCmpFunc_apiEntry_by_keys_row_1.in_eq K [1, 1, 0, 1, 1, 1, 0, 0, 1, 0, 0, 1, 1] [n0] (F.slices_breakPatternsCmpFunc_apiEntry_by_keys_row_1.j1101110010011.st a0 a1 a2 x0 x1 x2 x3 x4)).trans ((show ∀ H, F.slices_breakPatternsCmpFunc_apiEntry_by_keys_row_1.in K H [1, 1, 0, 1, 1, 1, 0, 0, 1, 0, 0, 1, 1] [n0] (F.slices_breakPatternsCmpFunc_apiEntry_by_keys_row_1.j1101110010011.st a0 a1 a2 x0 x1 x2 x3 x4) = F.slices_breakPatternsCmpFunc_apiEntry_by_keys_row_1.j1101110010011.B (fun a0 a1 a2 x0 x1 x2 x3 => H [1, 1, 0, 1, 1, 1, 0, 0, 1, 1] [n0] (F.slices_breakPatternsCmpFunc_apiEntry_by_keys_row_1.j1101110011.st a0 a1 a2 x0 x1 x2 x3)) a0 a1 a2 x0 x1 x2 x3 x4 from by intro H; kernel_rfl) (F.slices_breakPatternsCmpFunc_apiEntry_by_keys_row_1.at K))
noncomputable def F.slices_breakPatternsCmpFunc_apiEntry_by_keys_row_1.j1101110011.B (c0 : (List TEntry) → (Int) → (Int) → (Int) → (Int) → (List TEntry) → (Int) → Option ((List TEntry))) (a0 : List TEntry) (a1 : Int) (a2 : Int) (x0 : Int) (x1 : Int) (x2 : List TEntry) (x3 : Int) : Option ((List TEntry)) :=
    (c0 a0 a1 a2 x0 (w64 (x1 + 1)) x2 x3)
theorem F.slices_breakPatternsCmpFunc_apiEntry_by_keys_row_1.j1101110011.eq K n0 a0 a1 a2 x0 x1 x2 x3 : F.slices_breakPatternsCmpFunc_apiEntry_by_keys_row_1.j1101110011 K n0 a0 a1 a2 x0 x1 x2 x3 = F.slices_breakPatternsCmpFunc_apiEntry_by_keys_row_1.j1101110011.B (F.slices_breakPatternsCmpFunc_apiEntry_by_keys_row_1.l1101110 K n0) a0 a1 a2 x0 x1 x2 x3 := (F.slices_breakPatternsCmpFunc_apiEntry_by_keys_row_1.in_eq K [1, 1, 0, 1, 1, 1, 0, 0, 1, 1] [n0] (F.slices_breakPatternsCmpFunc_apiEntry_by_keys_row_1.j1101110011.st a0 a1 a2 x0 x1 x2 x3)).trans ((show ∀ H, F.slices_breakPatternsCmpFunc_apiEntry_by_keys_row_1.in K H [1, 1, 0, 1, 1, 1, 0, 0, 1, 1] [n0] (F.slices_breakPatternsCmpFunc_apiEntry_by_keys_row_1.j1101110011.st a0 a1 a2 x0 x1 x2 x3) = F.slices_breakPatternsCmpFunc_apiEntry_by_keys_row_1.j1101110011.B (fun a0 a1 a2 x0 x1 x2 x3 => H [1, 1, 0, 1, 1, 1, 0] [n0] (F.slices_breakPatternsCmpFunc_apiEntry_by_keys_row_1.l1101110.st a0 a1 a2 x0 x1 x2 x3)) a0 a1 a2 x0 x1 x2 x3 from by intro H; kernel_rfl) (F.slices_breakPatternsCmpFunc_apiEntry_by_keys_row_1.at K))
noncomputable def F.slices_breakPatternsCmpFunc_apiEntry_by_keys_row_1.B (c0 : (Int) → Option (Int)) (c1 : (List TEntry) → (Int) → (Int) → (Int) → (Int) → (List TEntry) → (Int) → Option ((List TEntry))) (a0 : List TEntry) (a1 : Int) (a2 : Int) : Option ((List TEntry)) :=
    (bif (decide ((w64 (a2 - a1)) ≥ 8)) then ((c0 (w64 (a2 - a1))).bind fun t0 => (c1 a0 a1 a2 t0 (w64 ((w64 (a1 + (w64 ((w64 (Int.tdiv (w64 (a2 - a1)) 4)) * 2)))) - 1)) a0 (IntKind.wrap .u64 (w64 (a2 - a1))))) else (some a0))
theorem F.slices_breakPatternsCmpFunc_apiEntry_by_keys_row_1.eq K a0 a1 a2 : F.slices_breakPatternsCmpFunc_apiEntry_by_keys_row_1 (K + 1) a0 a1 a2 = F.slices_breakPatternsCmpFunc_apiEntry_by_keys_row_1.B (F.slices_nextPowerOfTwo K) (F.slices_breakPatternsCmpFunc_apiEntry_by_keys_row_1.l1101110 K K) a0 a1 a2 := (F.slices_breakPatternsCmpFunc_apiEntry_by_keys_row_1.in_main K a0 a1 a2).trans ((show ∀ H, F.slices_breakPatternsCmpFunc_apiEntry_by_keys_row_1.in K H [] [] ⟨slots [.sc (.own 0 none), .sc (.val (.int .i64 a1)), .sc (.val (.int .i64 a2)), .sc (.fn 142 [])] 0, [.elems sEntry a0]⟩ = F.slices_breakPatternsCmpFunc_apiEntry_by_keys_row_1.B (F.slices_nextPowerOfTwo K) (fun a0 a1 a2 x0 x1 x2 x3 => H [1, 1, 0, 1, 1, 1, 0] [K] (F.slices_breakPatternsCmpFunc_apiEntry_by_keys_row_1.l1101110.st a0 a1 a2 x0 x1 x2 x3)) a0 a1 a2 from by intro H; kernel_rfl) (F.slices_breakPatternsCmpFunc_apiEntry_by_keys_row_1.at K))
noncomputable def V.slices_breakPatternsCmpFunc_apiEntry_by_keys_row_1.l1101110 (a0 : List TEntry) (a1 : Int) (a2 : Int) (x0 : Int) (x1 : Int) (x2 : List TEntry) (x3 : Int) := lim fun v => F.slices_breakPatternsCmpFunc_apiEntry_by_keys_row_1.l1101110 (v 0) (v 1) a0 a1 a2 x0 x1 x2 x3
noncomputable def V.slices_breakPatternsCmpFunc_apiEntry_by_keys_row_1.j1101110010011 (a0 : List TEntry) (a1 : Int) (a2 : Int) (x0 : Int) (x1 : Int) (x2 : Int) (x3 : List TEntry) (x4 : Int) := lim fun v => F.slices_breakPatternsCmpFunc_apiEntry_by_keys_row_1.j1101110010011 (v 0) (v 1) a0 a1 a2 x0 x1 x2 x3 x4
noncomputable def V.slices_breakPatternsCmpFunc_apiEntry_by_keys_row_1.j1101110011 (a0 : List TEntry) (a1 : Int) (a2 : Int) (x0 : Int) (x1 : Int) (x2 : List TEntry) (x3 : Int) := lim fun v => F.slices_breakPatternsCmpFunc_apiEntry_by_keys_row_1.j1101110011 (v 0) (v 1) a0 a1 a2 x0 x1 x2 x3
noncomputable def V.slices_breakPatternsCmpFunc_apiEntry_by_keys_row_1 (a0 : List TEntry) (a1 : Int) (a2 : Int) := lim fun v => F.slices_breakPatternsCmpFunc_apiEntry_by_keys_row_1 (v 0) a0 a1 a2
theorem V.slices_breakPatternsCmpFunc_apiEntry_by_keys_row_1.l1101110.of a0 a1 a2 x0 x1 x2 x3 {r} (h : F.slices_breakPatternsCmpFunc_apiEntry_by_keys_row_1.l1101110.B V.slices_xorshift_Next V.slices_breakPatternsCmpFunc_apiEntry_by_keys_row_1.j1101110010011 a0 a1 a2 x0 x1 x2 x3 = some r) : V.slices_breakPatternsCmpFunc_apiEntry_by_keys_row_1.l1101110 a0 a1 a2 x0 x1 x2 x3 = some r :=
  App.to (App.step 1 (fun v => F.slices_breakPatternsCmpFunc_apiEntry_by_keys_row_1.l1101110.eq (v 0) (v 1) a0 a1 a2 x0 x1 x2 x3) (by unfold F.slices_breakPatternsCmpFunc_apiEntry_by_keys_row_1.l1101110.B; repeat' first | exact App.val | exact App.no | exact App.lim | apply App.cond | apply App.guard | apply App.meet | apply App.ite | refine App.bind ?_ fun _ => ?_)) h
theorem V.slices_breakPatternsCmpFunc_apiEntry_by_keys_row_1.j1101110010011.of a0 a1 a2 x0 x1 x2 x3 x4 {r} (h : F.slices_breakPatternsCmpFunc_apiEntry_by_keys_row_1.j1101110010011.B V.slices_breakPatternsCmpFunc_apiEntry_by_keys_row_1.j1101110011 a0 a1 a2 x0 x1 x2 x3 x4 = some r) : V.slices_breakPatternsCmpFunc_apiEntry_by_keys_row_1.j1101110010011 a0 a1 a2 x0 x1 x2 x3 x4 = some r :=
  App.to (App.same (fun v => F.slices_breakPatternsCmpFunc_apiEntry_by_keys_row_1.j1101110010011.eq (v 0) (v 1) a0 a1 a2 x0 x1 x2 x3 x4) (by unfold F.slices_breakPatternsCmpFunc_apiEntry_by_keys_row_1.j1101110010011.B; repeat' first | exact App.val | exact App.no | exact App.lim | apply App.cond | apply App.guard | apply App.meet | apply App.ite | refine App.bind ?_ fun _ => ?_)) h
theorem V.slices_breakPatternsCmpFunc_apiEntry_by_keys_row_1.j1101110011.of a0 a1 a2 x0 x1 x2 x3 {r} (h : F.slices_breakPatternsCmpFunc_apiEntry_by_keys_row_1.j1101110011.B V.slices_breakPatternsCmpFunc_apiEntry_by_keys_row_1.l1101110 a0 a1 a2 x0 x1 x2 x3 = some r) : V.slices_breakPatternsCmpFunc_apiEntry_by_keys_row_1.j1101110011 a0 a1 a2 x0 x1 x2 x3 = some r :=
  App.to (App.same (fun v => F.slices_breakPatternsCmpFunc_apiEntry_by_keys_row_1.j1101110011.eq (v 0) (v 1) a0 a1 a2 x0 x1 x2 x3) (by unfold F.slices_breakPatternsCmpFunc_apiEntry_by_keys_row_1.j1101110011.B; repeat' first | exact App.val | exact App.no | exact App.lim | apply App.cond | apply App.guard | apply App.meet | apply App.ite | refine App.bind ?_ fun _ => ?_)) h
theorem V.slices_breakPatternsCmpFunc_apiEntry_by_keys_row_1.of a0 a1 a2 {r} (h : F.slices_breakPatternsCmpFunc_apiEntry_by_keys_row_1.B V.slices_nextPowerOfTwo V.slices_breakPatternsCmpFunc_apiEntry_by_keys_row_1.l1101110 a0 a1 a2 = some r) : V.slices_breakPatternsCmpFunc_apiEntry_by_keys_row_1 a0 a1 a2 = some r :=
  App.to (App.step 0 (fun v => F.slices_breakPatternsCmpFunc_apiEntry_by_keys_row_1.eq (v 0) a0 a1 a2) (by unfold F.slices_breakPatternsCmpFunc_apiEntry_by_keys_row_1.B; repeat' first | exact App.val | exact App.no | exact App.lim | exact (App.enter 1 App.lim) | apply App.cond | apply App.guard | apply App.meet | apply App.ite | refine App.bind ?_ fun _ => ?_)) h
noncomputable def F.slices_pdqsortCmpFunc_apiEntry_by_keys_row_1 (K : Nat) (a0 : List TEntry) (a1 : Int) (a2 : Int) (a3 : Int) : Option ((List TEntry)) := evFn Try.prog sg K 178 [.sc (.own 0 none), .sc (.val (.int .i64 a1)), .sc (.val (.int .i64 a2)), .sc (.val (.int .i64 a3)), .sc (.fn 142 [])] [.elems sEntry a0]
noncomputable def F.slices_pdqsortCmpFunc_apiEntry_by_keys_row_1.at (K : Nat) (p ns : List Nat) (s : St) : Option ((List TEntry)) := atFn Try.prog sg K 178 1 p ns s
noncomputable def F.slices_pdqsortCmpFunc_apiEntry_by_keys_row_1.in (K : Nat) (H : List Nat → List Nat → St → Option ((List TEntry))) (p ns : List Nat) (s : St) : Option ((List TEntry)) := inFn Try.prog sg K 178 1 [[1, 1, 0, 0, 0, 1, 1, 1, 1], [1, 1, 0, 0, 0, 1, 1, 1, 1, 1, 1], [1, 1, 0, 0, 0, 1, 1, 1, 1, 1, 1, 0, 1], [1, 1, 0, 0, 0, 1, 1, 1, 1, 1, 1, 1], [1, 1, 0, 0, 0, 1, 1, 1, 1, 1, 1, 1, 0, 1], [1, 1, 0, 0, 0, 1, 1, 1, 1, 1, 1, 1, 1]] H p ns s
theorem F.slices_pdqsortCmpFunc_apiEntry_by_keys_row_1.in_eq K p ns s : F.slices_pdqsortCmpFunc_apiEntry_by_keys_row_1.at K p ns s = F.slices_pdqsortCmpFunc_apiEntry_by_keys_row_1.in K (F.slices_pdqsortCmpFunc_apiEntry_by_keys_row_1.at K) p ns s := atFn_eq (P := Try.prog) (sg := sg) (K := K) (f := 178) (m := 1) [[1, 1, 0, 0, 0, 1, 1, 1, 1], [1, 1, 0, 0, 0, 1, 1, 1, 1, 1, 1], [1, 1, 0, 0, 0, 1, 1, 1, 1, 1, 1, 0, 1], [1, 1, 0, 0, 0, 1, 1, 1, 1, 1, 1, 1], [1, 1, 0, 0, 0, 1, 1, 1, 1, 1, 1, 1, 0, 1], [1, 1, 0, 0, 0, 1, 1, 1, 1, 1, 1, 1, 1]] p ns s
theorem F.slices_pdqsortCmpFunc_apiEntry_by_keys_row_1.in_main K a0 a1 a2 a3 : F.slices_pdqsortCmpFunc_apiEntry_by_keys_row_1 (K + 1) a0 a1 a2 a3 = F.slices_pdqsortCmpFunc_apiEntry_by_keys_row_1.in K (F.slices_pdqsortCmpFunc_apiEntry_by_keys_row_1.at K) [] [] ⟨slots [.sc (.own 0 none), .sc (.val (.int .i64 a1)), .sc (.val (.int .i64 a2)), .sc (.val (.int .i64 a3)), .sc (.fn 142 [])] 0, [.elems sEntry a0]⟩ := evFn_eq (P := Try.prog) (sg := sg) (K := K) (f := 178) (args := [.sc (.own 0 none), .sc (.val (.int .i64 a1)), .sc (.val (.int .i64 a2)), .sc (.val (.int .i64 a3)), .sc (.fn 142 [])]) (σ := [.elems sEntry a0]) [[1, 1, 0, 0, 0, 1, 1, 1, 1], [1, 1, 0, 0, 0, 1, 1, 1, 1, 1, 1], [1, 1, 0, 0, 0, 1, 1, 1, 1, 1, 1, 0, 1], [1, 1, 0, 0, 0, 1, 1, 1, 1, 1, 1, 1], [1, 1, 0, 0, 0, 1, 1, 1, 1, 1, 1, 1, 0, 1], [1, 1, 0, 0, 0, 1, 1, 1, 1, 1, 1, 1, 1]] (by kernel_rfl)
def F.slices_pdqsortCmpFunc_apiEntry_by_keys_row_1.l110.st (a0 : List TEntry) (a1 : Int) (a2 : Int) (a3 : Int) (x0 : Int) (x1 : Int) (x2 : Int) (x3 : Bool) (x4 : Bool) (x5 : List TEntry) : St := ⟨[(0, .one (.sc (.own 0 none))), (1, vI x0), (2, vI x1), (3, vI x2), (4, .one (.sc (.fn 142 []))), (10, vB x3), (11, vB x4)], [.elems sEntry x5]⟩
noncomputable def F.slices_pdqsortCmpFunc_apiEntry_by_keys_row_1.l110 (K n0 : Nat) (a0 : List TEntry) (a1 : Int) (a2 : Int) (a3 : Int) (x0 : Int) (x1 : Int) (x2 : Int) (x3 : Bool) (x4 : Bool) (x5 : List TEntry) := F.slices_pdqsortCmpFunc_apiEntry_by_keys_row_1.at K [1, 1, 0] [n0] (F.slices_pdqsortCmpFunc_apiEntry_by_keys_row_1.l110.st a0 a1 a2 a3 x0 x1 x2 x3 x4 x5)
def F.slices_pdqsortCmpFunc_apiEntry_by_keys_row_1.j110001111.st (a0 : List TEntry) (a1 : Int) (a2 : Int) (a3 : Int) (x0 : Int) (x1 : Int) (x2 : Int) (x3 : Bool) (x4 : Bool) (x5 : Int) (x6 : List TEntry) : St := ⟨[(0, .one (.sc (.own 0 none))), (1, vI x0), (2, vI x1), (3, vI x2), (4, .one (.sc (.fn 142 []))), (10, vB x3), (11, vB x4), (12, vI x5)], [.elems sEntry x6]⟩
noncomputable def F.slices_pdqsortCmpFunc_apiEntry_by_keys_row_1.j110001111 (K n0 : Nat) (a0 : List TEntry) (a1 : Int) (a2 : Int) (a3 : Int) (x0 : Int) (x1 : Int) (x2 : Int) (x3 : Bool) (x4 : Bool) (x5 : Int) (x6 : List TEntry) := F.slices_pdqsortCmpFunc_apiEntry_by_keys_row_1.at K [1, 1, 0, 0, 0, 1, 1, 1, 1] [n0] (F.slices_pdqsortCmpFunc_apiEntry_by_keys_row_1.j110001111.st a0 a1 a2 a3 x0 x1 x2 x3 x4 x5 x6)
def F.slices_pdqsortCmpFunc_apiEntry_by_keys_row_1.j11000111111.st (a0 : List TEntry) (a1 : Int) (a2 : Int) (a3 : Int) (x0 : Int) (x1 : Int) (x2 : Int) (x3 : Bool) (x4 : Bool) (x5 : Int) (x6 : Int) (x7 : Int) (x8 : List TEntry) : St := ⟨[(0, .one (.sc (.own 0 none))), (1, vI x0), (2, vI x1), (3, vI x2), (4, .one (.sc (.fn 142 []))), (10, vB x3), (11, vB x4), (12, vI x5), (13, vI x6), (14, vI x7)], [.elems sEntry x8]⟩
noncomputable def F.slices_pdqsortCmpFunc_apiEntry_by_keys_row_1.j11000111111 (K n0 : Nat) (a0 : List TEntry) (a1 : Int) (a2 : Int) (a3 : Int) (x0 : Int) (x1 : Int) (x2 : Int) (x3 : Bool) (x4 : Bool) (x5 : Int) (x6 : Int) (x7 : Int) (x8 : List TEntry) := F.slices_pdqsortCmpFunc_apiEntry_by_keys_row_1.at K [1, 1, 0, 0, 0, 1, 1, 1, 1, 1, 1] [n0] (F.slices_pdqsortCmpFunc_apiEntry_by_keys_row_1.j11000111111.st a0 a1 a2 a3 x0 x1 x2 x3 x4 x5 x6 x7 x8)
def F.slices_pdqsortCmpFunc_apiEntry_by_keys_row_1.j1100011111101.st (a0 : List TEntry) (a1 : Int) (a2 : Int) (a3 : Int) (x0 : Int) (x1 : Int) (x2 : Int) (x3 : Bool) (x4 : Bool) (x5 : Int) (x6 : Int) (x7 : Bool) (x8 : List TEntry) : St := ⟨[(0, .one (.sc (.own 0 none))), (1, vI x0), (2, vI x1), (3, vI x2), (4, .one (.sc (.fn 142 []))), (10, vB x3), (11, vB x4), (12, vI x5), (13, vI x6), (75, vB x7)], [.elems sEntry x8]⟩
noncomputable def F.slices_pdqsortCmpFunc_apiEntry_by_keys_row_1.j1100011111101 (K n0 : Nat) (a0 : List TEntry) (a1 : Int) (a2 : Int) (a3 : Int) (x0 : Int) (x1 : Int) (x2 : Int) (x3 : Bool) (x4 : Bool) (x5 : Int) (x6 : Int) (x7 : Bool) (x8 : List TEntry) := F.slices_pdqsortCmpFunc_apiEntry_by_keys_row_1.at K [1, 1, 0, 0, 0, 1, 1, 1, 1, 1, 1, 0, 1] [n0] (F.slices_pdqsortCmpFunc_apiEntry_by_keys_row_1.j1100011111101.st a0 a1 a2 a3 x0 x1 x2 x3 x4 x5 x6 x7 x8)
def F.slices_pdqsortCmpFunc_apiEntry_by_keys_row_1.j110001111111.st (a0 : List TEntry) (a1 : Int) (a2 : Int) (a3 : Int) (x0 : Int) (x1 : Int) (x2 : Int) (x3 : Bool) (x4 : Bool) (x5 : Int) (x6 : Int) (x7 : List TEntry) : St := ⟨[(0, .one (.sc (.own 0 none))), (1, vI x0), (2, vI x1), (3, vI x2), (4, .one (.sc (.fn 142 []))), (10, vB x3), (11, vB x4), (12, vI x5), (13, vI x6)], [.elems sEntry x7]⟩
noncomputable def F.slices_pdqsortCmpFunc_apiEntry_by_keys_row_1.j110001111111 (K n0 : Nat) (a0 : List TEntry) (a1 : Int) (a2 : Int) (a3 : Int) (x0 : Int) (x1 : Int) (x2 : Int) (x3 : Bool) (x4 : Bool) (x5 : Int) (x6 : Int) (x7 : List TEntry) := F.slices_pdqsortCmpFunc_apiEntry_by_keys_row_1.at K [1, 1, 0, 0, 0, 1, 1, 1, 1, 1, 1, 1] [n0] (F.slices_pdqsortCmpFunc_apiEntry_by_keys_row_1.j110001111111.st a0 a1 a2 a3 x0 x1 x2 x3 x4 x5 x6 x7)
def F.slices_pdqsortCmpFunc_apiEntry_by_keys_row_1.j11000111111101.st (a0 : List TEntry) (a1 : Int) (a2 : Int) (a3 : Int) (x0 : Int) (x1 : Int) (x2 : Int) (x3 : Bool) (x4 : Bool) (x5 : Int) (x6 : Int) (x7 : Bool) (x8 : List TEntry) : St := ⟨[(0, .one (.sc (.own 0 none))), (1, vI x0), (2, vI x1), (3, vI x2), (4, .one (.sc (.fn 142 []))), (10, vB x3), (11, vB x4), (12, vI x5), (13, vI x6), (97, vB x7)], [.elems sEntry x8]⟩
noncomputable def F.slices_pdqsortCmpFunc_apiEntry_by_keys_row_1.j11000111111101 (K n0 : Nat) (a0 : List TEntry) (a1 : Int) (a2 : Int) (a3 : Int) (x0 : Int) (x1 : Int) (x2 : Int) (x3 : Bool) (x4 : Bool) (x5 : Int) (x6 : Int) (x7 : Bool) (x8 : List TEntry) := F.slices_pdqsortCmpFunc_apiEntry_by_keys_row_1.at K [1, 1, 0, 0, 0, 1, 1, 1, 1, 1, 1, 1, 0, 1] [n0] (F.slices_pdqsortCmpFunc_apiEntry_by_keys_row_1.j11000111111101.st a0 a1 a2 a3 x0 x1 x2 x3 x4 x5 x6 x7 x8)
def F.slices_pdqsortCmpFunc_apiEntry_by_keys_row_1.j1100011111111.st (a0 : List TEntry) (a1 : Int) (a2 : Int) (a3 : Int) (x0 : Int) (x1 : Int) (x2 : Int) (x3 : Int) (x4 : Int) (x5 : List TEntry) : St := ⟨[(0, .one (.sc (.own 0 none))), (1, vI x0), (2, vI x1), (3, vI x2), (4, .one (.sc (.fn 142 []))), (12, vI x3), (13, vI x4)], [.elems sEntry x5]⟩
noncomputable def F.slices_pdqsortCmpFunc_apiEntry_by_keys_row_1.j1100011111111 (K n0 : Nat) (a0 : List TEntry) (a1 : Int) (a2 : Int) (a3 : Int) (x0 : Int) (x1 : Int) (x2 : Int) (x3 : Int) (x4 : Int) (x5 : List TEntry) := F.slices_pdqsortCmpFunc_apiEntry_by_keys_row_1.at K [1, 1, 0, 0, 0, 1, 1, 1, 1, 1, 1, 1, 1] [n0] (F.slices_pdqsortCmpFunc_apiEntry_by_keys_row_1.j1100011111111.st a0 a1 a2 a3 x0 x1 x2 x3 x4 x5)
noncomputable def F.slices_pdqsortCmpFunc_apiEntry_by_keys_row_1.l110.B (c0 : (List TEntry) → (Int) → (Int) → Option ((List TEntry))) (c1 : (List TEntry) → (Int) → (Int) → Option ((List TEntry))) (c2 : (List TEntry) → (Int) → (Int) → Option ((List TEntry))) (c3 : (List TEntry) → (Int) → (Int) → (Int) → (Int) → (Int) → (Int) → (Bool) → (Bool) → (Int) → (List TEntry) → Option ((List TEntry))) (a0 : List TEntry) (a1 : Int) (a2 : Int) (a3 : Int) (x0 : Int) (x1 : Int) (x2 : Int) (x3 : Bool) (x4 : Bool) (x5 : List TEntry) : Option ((List TEntry)) :=
    (bif (decide ((w64 (x1 - x0)) ≤ 12)) then ((c0 x5 x0 x1).bind fun t0 => (some t0)) else (bif (x2 == 0) then ((c1 x5 x0 x1).bind fun t1 => (some t1)) else (bif (!x3) then ((c2 x5 x0 x1).bind fun t2 => (c3 a0 a1 a2 a3 x0 x1 (w64 (x2 - 1)) x3 x4 (w64 (x1 - x0)) t2)) else (c3 a0 a1 a2 a3 x0 x1 x2 x3 x4 (w64 (x1 - x0)) x5))))
theorem F.slices_pdqsortCmpFunc_apiEntry_by_keys_row_1.l110.eq K n0 a0 a1 a2 a3 x0 x1 x2 x3 x4 x5 : F.slices_pdqsortCmpFunc_apiEntry_by_keys_row_1.l110 K (n0 + 1) a0 a1 a2 a3 x0 x1 x2 x3 x4 x5 = F.slices_pdqsortCmpFunc_apiEntry_by_keys_row_1.l110.B (F.slices_insertionSortCmpFunc_apiEntry_by_keys_row_1 K) (F.slices_heapSortCmpFunc_apiEntry_by_keys_row_1 K) (F.slices_breakPatternsCmpFunc_apiEntry_by_keys_row_1 K) (F.slices_pdqsortCmpFunc_apiEntry_by_keys_row_1.j110001111 K n0) a0 a1 a2 a3 x0 x1 x2 x3 x4 x5 := (F.slices_pdqsortCmpFunc_apiEntry_by_keys_row_1.in_eq K [1, 1, 0] [n0 + 1] (F.slices_pdqsortCmpFunc_apiEntry_by_keys_row_1.l110.st a0 a1 a2 a3 x0 x1 x2 x3 x4 x5)).trans ((show ∀ H, F.slices_pdqsortCmpFunc_apiEntry_by_keys_row_1.in K H [1, 1, 0] [n0 + 1] (F.slices_pdqsortCmpFunc_apiEntry_by_keys_row_1.l110.st a0 a1 a2 a3 x0 x1 x2 x3 x4 x5) = F.slices_pdqsortCmpFunc_apiEntry_by_keys_row_1.l110.B (F.slices_insertionSortCmpFunc_apiEntry_by_keys_row_1 K) (F.slices_heapSortCmpFunc_apiEntry_by_keys_row_1 K) (F.slices_breakPatternsCmpFunc_apiEntry_by_keys_row_1 K) (fun a0 a1 a2 a3 x0 x1 x2 x3 x4 x5 x6 => H [1, 1, 0, 0, 0, 1, 1, 1, 1] [n0] (F.slices_pdqsortCmpFunc_apiEntry_by_keys_row_1.j110001111.st a0 a1 a2 a3 x0 x1 x2 x3 x4 x5 x6)) a0 a1 a2 a3 x0 x1 x2 x3 x4 x5 from by intro H; kernel_rfl) (F.slices_pdqsortCmpFunc_apiEntry_by_keys_row_1.at K))
noncomputable def F.slices_pdqsortCmpFunc_apiEntry_by_keys_row_1.j110001111.B (c0 : (List TEntry) → (Int) → (Int) → Option (Int × Int × (List TEntry))) (c1 : (List TEntry) → (Int) → (Int) → Option ((List TEntry))) (c2 : (List TEntry) → (Int) → (Int) → (Int) → (Int) → (Int) → (Int) → (Bool) → (Bool) → (Int) → (Int) → (Int) → (List TEntry) → Option ((List TEntry))) (a0 : List TEntry) (a1 : Int) (a2 : Int) (a3 : Int) (x0 : Int) (x1 : Int) (x2 : Int) (x3 : Bool) (x4 : Bool) (x5 : Int) (x6 : List TEntry) : Option ((List TEntry)) :=
    ((c0 x6 x0 x1).bind fun t3 => (bif (t3.2.1 == 2) then ((c1 t3.2.2 x0 x1).bind fun t4 => (c2 a0 a1 a2 a3 x0 x1 x2 x3 x4 x5 (w64 ((w64 (x1 - 1)) - (w64 (t3.1 - x0)))) 1 t4)) else (c2 a0 a1 a2 a3 x0 x1 x2 x3 x4 x5 t3.1 t3.2.1 t3.2.2)))
theorem F.slices_pdqsortCmpFunc_apiEntry_by_keys_row_1.j110001111.eq K n0 a0 a1 a2 a3 x0 x1 x2 x3 x4 x5 x6 : F.slices_pdqsortCmpFunc_apiEntry_by_keys_row_1.j110001111 K n0 a0 a1 a2 a3 x0 x1 x2 x3 x4 x5 x6 = F.slices_pdqsortCmpFunc_apiEntry_by_keys_row_1.j110001111.B (F.slices_choosePivotCmpFunc_apiEntry_by_keys_row_1 K) (F.slices_reverseRangeCmpFunc_apiEntry_by_keys_row_1 K) (F.slices_pdqsortCmpFunc_apiEntry_by_keys_row_1.j11000111111 K n0) a0 a1 a2 a3 x0 x1 x2 x3 x4 x5 x6 := (F.slices_pdqsortCmpFunc_apiEntry_by_keys_row_1.in_eq K [1, 1, 0, 0, 0, 1, 1, 1, 1] [n0] (F.slices_pdqsortCmpFunc_apiEntry_by_keys_row_1.j110001111.st a0 a1 a2 a3 x0 x1 x2 x3 x4 x5 x6)).trans ((show ∀ H, F.slices_pdqsortCmpFunc_apiEntry_by_keys_row_1.in K H [1, 1, 0, 0, 0, 1, 1, 1, 1] [n0] (F.slices_pdqsortCmpFunc_apiEntry_by_keys_row_1.j110001111.st a0 a1 a2 a3 x0 x1 x2 x3 x4 x5 x6) = F.slices_pdqsortCmpFunc_apiEntry_by_keys_row_1.j110001111.B (F.slices_choosePivotCmpFunc_apiEntry_by_keys_row_1 K) (F.slices_reverseRangeCmpFunc_apiEntry_by_keys_row_1 K) (fun a0 a1 a2 a3 x0 x1 x2 x3 x4 x5 x6 x7 x8 => H [1, 1, 0, 0, 0, 1, 1, 1, 1, 1, 1] [n0] (F.slices_pdqsortCmpFunc_apiEntry_by_keys_row_1.j11000111111.st a0 a1 a2 a3 x0 x1 x2 x3 x4 x5 x6 x7 x8)) a0 a1 a2 a3 x0 x1 x2 x3 x4 x5 x6 from by intro H; kernel_rfl) (F.slices_pdqsortCmpFunc_apiEntry_by_keys_row_1.at K))
noncomputable def F.slices_pdqsortCmpFunc_apiEntry_by_keys_row_1.j11000111111.B (c0 : (List TEntry) → (Int) → (Int) → (Int) → (Int) → (Int) → (Int) → (Bool) → (Bool) → (Int) → (Int) → (Bool) → (List TEntry) → Option ((List TEntry))) (a0 : List TEntry) (a1 : Int) (a2 : Int) (a3 : Int) (x0 : Int) (x1 : Int) (x2 : Int) (x3 : Bool) (x4 : Bool) (x5 : Int) (x6 : Int) (x7 : Int) (x8 : List TEntry) : Option ((List TEntry)) :=
    (bif x3 then (bif x4 then (c0 a0 a1 a2 a3 x0 x1 x2 x3 x4 x5 x6 (x7 == 1) x8) else (c0 a0 a1 a2 a3 x0 x1 x2 x3 x4 x5 x6 false x8)) else (c0 a0 a1 a2 a3 x0 x1 x2 x3 x4 x5 x6 false x8))
theorem F.slices_pdqsortCmpFunc_apiEntry_by_keys_row_1.j11000111111.eq K n0 a0 a1 a2 a3 x0 x1 x2 x3 x4 x5 x6 x7 x8 : F.slices_pdqsortCmpFunc_apiEntry_by_keys_row_1.j11000111111 K n0 a0 a1 a2 a3 x0 x1 x2 x3 x4 x5 x6 x7 x8 = F.slices_pdqsortCmpFunc_apiEntry_by_keys_row_1.j11000111111.B (F.slices_pdqsortCmpFunc_apiEntry_by_keys_row_1.j1100011111101 K n0) a0 a1 a2 a3 x0 x1 x2 x3 x4 x5 x6 x7 x8 := (F.slices_pdqsortCmpFunc_apiEntry_by_keys_row_1.in_eq K [1, 1, 0, 0, 0, 1, 1, 1, 1, 1, 1] [n0] (F.slices_pdqsortCmpFunc_apiEntry_by_keys_row_1.j11000111111.st a0 a1 a2 a3 x0 x1 x2 x3 x4 x5 x6 x7 x8)).trans ((show ∀ H, F.slices_pdqsortCmpFunc_apiEntry_by_keys_row_1.in K H [1, 1, 0, 0, 0, 1, 1, 1, 1, 1, 1] [n0] (F.slices_pdqsortCmpFunc_apiEntry_by_keys_row_1.j11000111111.st a0 a1 a2 a3 x0 x1 x2 x3 x4 x5 x6 x7 x8) = F.slices_pdqsortCmpFunc_apiEntry_by_keys_row_1.j11000111111.B (fun a0 a1 a2 a3 x0 x1 x2 x3 x4 x5 x6 x7 x8 => H [1, 1, 0, 0, 0, 1, 1, 1, 1, 1, 1, 0, 1] [n0] (F.slices_pdqsortCmpFunc_apiEntry_by_keys_row_1.j1100011111101.st a0 a1 a2 a3 x0 x1 x2 x3 x4 x5 x6 x7 x8)) a0 a1 a2 a3 x0 x1 x2 x3 x4 x5 x6 x7 x8 from by intro H; kernel_rfl) (F.slices_pdqsortCmpFunc_apiEntry_by_keys_row_1.at K))
noncomputable def F.slices_pdqsortCmpFunc_apiEntry_by_keys_row_1.j1100011111101.B (c0 : (List TEntry) → (Int) → (Int) → Option (Bool × (List TEntry))) (c1 : (List TEntry) → (Int) → (Int) → (Int) → (Int) → (Int) → (Int) → (Bool) → (Bool) → (Int) → (Int) → (List TEntry) → Option ((List TEntry))) (a0 : List TEntry) (a1 : Int) (a2 : Int) (a3 : Int) (x0 : Int) (x1 : Int) (x2 : Int) (x3 : Bool) (x4 : Bool) (x5 : Int) (x6 : Int) (x7 : Bool) (x8 : List TEntry) : Option ((List TEntry)) :=
    (bif x7 then ((c0 x8 x0 x1).bind fun t5 => (bif t5.1 then (some t5.2) else (c1 a0 a1 a2 a3 x0 x1 x2 x3 x4 x5 x6 t5.2))) else (c1 a0 a1 a2 a3 x0 x1 x2 x3 x4 x5 x6 x8))
theorem F.slices_pdqsortCmpFunc_apiEntry_by_keys_row_1.j1100011111101.eq K n0 a0 a1 a2 a3 x0 x1 x2 x3 x4 x5 x6 x7 x8 : F.slices_pdqsortCmpFunc_apiEntry_by_keys_row_1.j1100011111101 K n0 a0 a1 a2 a3 x0 x1 x2 x3 x4 x5 x6 x7 x8 = F.slices_pdqsortCmpFunc_apiEntry_by_keys_row_1.j1100011111101.B (F.slices_partialInsertionSortCmpFunc_apiEntry_by_keys_row_1 K) (F.slices_pdqsortCmpFunc_apiEntry_by_keys_row_1.j110001111111 K n0) a0 a1 a2 a3 x0 x1 x2 x3 x4 x5 x6 x7 x8 := (F.slices_pdqsortCmpFunc_apiEntry_by_keys_row_1.in_eq K [1, 1, 0, 0, 0, 1, 1, 1, 1, 1, 1, 0, 1] [n0] (F.slices_pdqsortCmpFunc_apiEntry_by_keys_row_1.j1100011111101.st a0 a1 a2 a3 x0 x1 x2 x3 x4 x5 x6 x7 x8)).trans ((show ∀ H, F.slices_pdqsortCmpFunc_apiEntry_by_keys_row_1.in K H [1, 1, 0, 0, 0, 1, 1, 1, 1, 1, 1, 0, 1] [n0] (F.slices_pdqsortCmpFunc_apiEntry_by_keys_row_1.j1100011111101.st a0 a1 a2 a3 x0 x1 x2 x3 x4 x5 x6 x7 x8) = F.slices_pdqsortCmpFunc_apiEntry_by_keys_row_1.j1100011111101.B (F.slices_partialInsertionSortCmpFunc_apiEntry_by_keys_row_1 K) (fun a0 a1 a2 a3 x0 x1 x2 x3 x4 x5 x6 x7 => H [1, 1, 0, 0, 0, 1, 1, 1, 1, 1, 1, 1] [n0] (F.slices_pdqsortCmpFunc_apiEntry_by_keys_row_1.j110001111111.st a0 a1 a2 a3 x0 x1 x2 x3 x4 x5 x6 x7)) a0 a1 a2 a3 x0 x1 x2 x3 x4 x5 x6 x7 x8 from by intro H; kernel_rfl) (F.slices_pdqsortCmpFunc_apiEntry_by_keys_row_1.at K))
noncomputable def F.slices_pdqsortCmpFunc_apiEntry_by_keys_row_1.j110001111111.B (c0 : (TEntry) → (TEntry) → Option (Int)) (c1 : (List TEntry) → (Int) → (Int) → (Int) → (Int) → (Int) → (Int) → (Bool) → (Bool) → (Int) → (Int) → (Bool) → (List TEntry) → Option ((List TEntry))) (a0 : List TEntry) (a1 : Int) (a2 : Int) (a3 : Int) (x0 : Int) (x1 : Int) (x2 : Int) (x3 : Bool) (x4 : Bool) (x5 : Int) (x6 : Int) (x7 : List TEntry) : Option ((List TEntry)) :=
    (bif (decide (x0 > 0)) then (guardK (decide (0 ≤ (w64 (x0 - 1))) && decide ((w64 (x0 - 1)) < (x7.length : Int))) (guardK (decide (0 ≤ x6) && decide (x6 < (x7.length : Int))) ((c0 ((rd sEntry x7 ((w64 (x0 - 1)).toNat)).1, (rd sEntry x7 ((w64 (x0 - 1)).toNat)).2) ((rd sEntry x7 x6.toNat).1, (rd sEntry x7 x6.toNat).2)).bind fun t6 => (c1 a0 a1 a2 a3 x0 x1 x2 x3 x4 x5 x6 (!(decide (t6 < 0))) x7)))) else (c1 a0 a1 a2 a3 x0 x1 x2 x3 x4 x5 x6 false x7))
theorem F.slices_pdqsortCmpFunc_apiEntry_by_keys_row_1.j110001111111.eq K n0 a0 a1 a2 a3 x0 x1 x2 x3 x4 x5 x6 x7 : F.slices_pdqsortCmpFunc_apiEntry_by_keys_row_1.j110001111111 K n0 a0 a1 a2 a3 x0 x1 x2 x3 x4 x5 x6 x7 = F.slices_pdqsortCmpFunc_apiEntry_by_keys_row_1.j110001111111.B (F.keys_row_1 K) (F.slices_pdqsortCmpFunc_apiEntry_by_keys_row_1.j11000111111101 K n0) a0 a1 a2 a3 x0 x1 x2 x3 x4 x5 x6 x7 := (F.slices_pdqsortCmpFunc_apiEntry_by_keys_row_1.in_eq K [1, 1, 0, 0, 0, 1, 1, 1, 1, 1, 1, 1] [n0] (F.slices_pdqsortCmpFunc_apiEntry_by_keys_row_1.j110001111111.st a0 a1 a2 a3 x0 x1 x2 x3 x4 x5 x6 x7)).trans ((show ∀ H, F.slices_pdqsortCmpFunc_apiEntry_by_keys_row_1.in K H [1, 1, 0, 0, 0, 1, 1, 1, 1, 1, 1, 1] [n0] (F.slices_pdqsortCmpFunc_apiEntry_by_keys_row_1.j110001111111.st a0 a1 a2 a3 x0 x1 x2 x3 x4 x5 x6 x7) = F.slices_pdqsortCmpFunc_apiEntry_by_keys_row_1.j110001111111.B (F.keys_row_1 K) (fun a0 a1 a2 a3 x0 x1 x2 x3 x4 x5 x6 x7 x8 => H [1, 1, 0, 0, 0, 1, 1, 1, 1, 1, 1, 1, 0, 1] [n0] (F.slices_pdqsortCmpFunc_apiEntry_by_keys_row_1.j11000111111101.st a0 a1 a2 a3 x0 x1 x2 x3 x4 x5 x6 x7 x8)) a0 a1 a2 a3 x0 x1 x2 x3 x4 x5 x6 x7 from by intro H; kernel_rfl) (F.slices_pdqsortCmpFunc_apiEntry_by_keys_row_1.at K))
noncomputable def F.slices_pdqsortCmpFunc_apiEntry_by_keys_row_1.j11000111111101.B (c0 : (List TEntry) → (Int) → (Int) → (Int) → Option (Int × (List TEntry))) (c1 : (List TEntry) → (Int) → (Int) → (Int) → (Int) → (Int) → (Int) → (Bool) → (Bool) → (List TEntry) → Option ((List TEntry))) (c2 : (List TEntry) → (Int) → (Int) → (Int) → (Int) → (Int) → (Int) → (Int) → (Int) → (List TEntry) → Option ((List TEntry))) (a0 : List TEntry) (a1 : Int) (a2 : Int) (a3 : Int) (x0 : Int) (x1 : Int) (x2 : Int) (x3 : Bool) (x4 : Bool) (x5 : Int) (x6 : Int) (x7 : Bool) (x8 : List TEntry) : Option ((List TEntry)) :=
    (bif x7 then ((c0 x8 x0 x1 x6).bind fun t7 => (c1 a0 a1 a2 a3 t7.1 x1 x2 x3 x4 t7.2)) else (c2 a0 a1 a2 a3 x0 x1 x2 x5 x6 x8))
theorem F.slices_pdqsortCmpFunc_apiEntry_by_keys_row_1.j11000111111101.eq K n0 a0 a1 a2 a3 x0 x1 x2 x3 x4 x5 x6 x7 x8 : F.slices_pdqsortCmpFunc_apiEntry_by_keys_row_1.j11000111111101 K n0 a0 a1 a2 a3 x0 x1 x2 x3 x4 x5 x6 x7 x8 = F.slices_pdqsortCmpFunc_apiEntry_by_keys_row_1.j11000111111101.B (F.slices_partitionEqualCmpFunc_apiEntry_by_keys_row_1 K) (F.slices_pdqsortCmpFunc_apiEntry_by_keys_row_1.l110 K n0) (F.slices_pdqsortCmpFunc_apiEntry_by_keys_row_1.j1100011111111 K n0) a0 a1 a2 a3 x0 x1 x2 x3 x4 x5 x6 x7 x8 := (F.slices_pdqsortCmpFunc_apiEntry_by_keys_row_1.in_eq K [1, 1, 0, 0, 0, 1, 1, 1, 1, 1, 1, 1, 0, 1] [n0] (F.slices_pdqsortCmpFunc_apiEntry_by_keys_row_1.j11000111111101.st a0 a1 a2 a3 x0 x1 x2 x3 x4 x5 x6 x7 x8)).trans ((show ∀ H, F.slices_pdqsortCmpFunc_apiEntry_by_keys_row_1.in K H [1, 1, 0, 0, 0, 1, 1, 1, 1, 1, 1, 1, 0, 1] [n0] (F.slices_pdqsortCmpFunc_apiEntry_by_keys_row_1.j11000111111101.st a0 a1 a2 a3 x0 x1 x2 x3 x4 x5 x6 x7 x8) = F.slices_pdqsortCmpFunc_apiEntry_by_keys_row_1.j11000111111101.B (F.slices_partitionEqualCmpFunc_apiEntry_by_keys_row_1 K) (fun a0 a1 a2 a3 x0 x1 x2 x3 x4 x5 => H [1, 1, 0] [n0] (F.slices_pdqsortCmpFunc_apiEntry_by_keys_row_1.l110.st a0 a1 a2 a3 x0 x1 x2 x3 x4 x5)) (fun a0 a1 a2 a3 x0 x1 x2 x3 x4 x5 => H [1, 1, 0, 0, 0, 1, 1, 1, 1, 1, 1, 1, 1] [n0] (F.slices_pdqsortCmpFunc_apiEntry_by_keys_row_1.j1100011111111.st a0 a1 a2 a3 x0 x1 x2 x3 x4 x5)) a0 a1 a2 a3 x0 x1 x2 x3 x4 x5 x6 x7 x8 from by intro H; kernel_rfl) (F.slices_pdqsortCmpFunc_apiEntry_by_keys_row_1.at K))
noncomputable def F.slices_pdqsortCmpFunc_apiEntry_by_keys_row_1.j1100011111111.B (c0 : (List TEntry) → (Int) → (Int) → (Int) → Option (Int × Bool × (List TEntry))) (c1 : (List TEntry) → (Int) → (Int) → (Int) → Option ((List TEntry))) (c2 : (List TEntry) → (Int) → (Int) → (Int) → (Int) → (Int) → (Int) → (Bool) → (Bool) → (List TEntry) → Option ((List TEntry))) (a0 : List TEntry) (a1 : Int) (a2 : Int) (a3 : Int) (x0 : Int) (x1 : Int) (x2 : Int) (x3 : Int) (x4 : Int) (x5 : List TEntry) : Option ((List TEntry)) :=
    ((c0 x5 x0 x1 x4).bind fun t8 => (bif (decide ((w64 (t8.1 - x0)) < (w64 (x1 - t8.1)))) then ((c1 t8.2.2 x0 t8.1 x2).bind fun t9 => (c2 a0 a1 a2 a3 (w64 (t8.1 + 1)) x1 x2 (decide ((w64 (t8.1 - x0)) ≥ (w64 (Int.tdiv x3 8)))) t8.2.1 t9)) else ((c1 t8.2.2 (w64 (t8.1 + 1)) x1 x2).bind fun t10 => (c2 a0 a1 a2 a3 x0 t8.1 x2 (decide ((w64 (x1 - t8.1)) ≥ (w64 (Int.tdiv x3 8)))) t8.2.1 t10))))
theorem F.slices_pdqsortCmpFunc_apiEntry_by_keys_row_1.j1100011111111.eq K n0 a0 a1 a2 a3 x0 x1 x2 x3 x4 x5 : F.slices_pdqsortCmpFunc_apiEntry_by_keys_row_1.j1100011111111 K n0 a0 a1 a2 a3 x0 x1 x2 x3 x4 x5 = F.slices_pdqsortCmpFunc_apiEntry_by_keys_row_1.j1100011111111.B (F.slices_partitionCmpFunc_apiEntry_by_keys_row_1 K) (F.slices_pdqsortCmpFunc_apiEntry_by_keys_row_1 K) (F.slices_pdqsortCmpFunc_apiEntry_by_keys_row_1.l110 K n0) a0 a1 a2 a3 x0 x1 x2 x3 x4 x5 := (F.slices_pdqsortCmpFunc_apiEntry_by_keys_row_1.in_eq K [1, 1, 0, 0, 0, 1, 1, 1, 1, 1, 1, 1, 1] [n0] (F.slices_pdqsortCmpFunc_apiEntry_by_keys_row_1.j1100011111111.st a0 a1 a2 a3 x0 x1 x2 x3 x4 x5)).trans ((show ∀ H, F.slices_pdqsortCmpFunc_apiEntry_by_keys_row_1.in K H [1, 1, 0, 0, 0, 1, 1, 1, 1, 1, 1, 1, 1] [n0] (F.slices_pdqsortCmpFunc_apiEntry_by_keys_row_1.j1100011111111.st a0 a1 a2 a3 x0 x1 x2 x3 x4 x5) = F.slices_pdqsortCmpFunc_apiEntry_by_keys_row_1.j1100011111111.B (F.slices_partitionCmpFunc_apiEntry_by_keys_row_1 K) (F.slices_pdqsortCmpFunc_apiEntry_by_keys_row_1 K) (fun a0 a1 a2 a3 x0 x1 x2 x3 x4 x5 => H [1, 1, 0] [n0] (F.slices_pdqsortCmpFunc_apiEntry_by_keys_row_1.l110.st a0 a1 a2 a3 x0 x1 x2 x3 x4 x5)) a0 a1 a2 a3 x0 x1 x2 x3 x4 x5 from by intro H; kernel_rfl) (F.slices_pdqsortCmpFunc_apiEntry_by_keys_row_1.at K))
noncomputable def F.slices_pdqsortCmpFunc_apiEntry_by_keys_row_1.B (c0 : (List TEntry) → (Int) → (Int) → (Int) → (Int) → (Int) → (Int) → (Bool) → (Bool) → (List TEntry) → Option ((List TEntry))) (a0 : List TEntry) (a1 : Int) (a2 : Int) (a3 : Int) : Option ((List TEntry)) :=
    (c0 a0 a1 a2 a3 a1 a2 a3 true true a0)
theorem F.slices_pdqsortCmpFunc_apiEntry_by_keys_row_1.eq K a0 a1 a2 a3 : F.slices_pdqsortCmpFunc_apiEntry_by_keys_row_1 (K + 1) a0 a1 a2 a3 = F.slices_pdqsortCmpFunc_apiEntry_by_keys_row_1.B (F.slices_pdqsortCmpFunc_apiEntry_by_keys_row_1.l110 K K) a0 a1 a2 a3 := (F.slices_pdqsortCmpFunc_apiEntry_by_keys_row_1.in_main K a0 a1 a2 a3).trans ((show ∀ H, F.slices_pdqsortCmpFunc_apiEntry_by_keys_row_1.in K H [] [] ⟨slots [.sc (.own 0 none), .sc (.val (.int .i64 a1)), .sc (.val (.int .i64 a2)), .sc (.val (.int .i64 a3)), .sc (.fn 142 [])] 0, [.elems sEntry a0]⟩ = F.slices_pdqsortCmpFunc_apiEntry_by_keys_row_1.B (fun a0 a1 a2 a3 x0 x1 x2 x3 x4 x5 => H [1, 1, 0] [K] (F.slices_pdqsortCmpFunc_apiEntry_by_keys_row_1.l110.st a0 a1 a2 a3 x0 x1 x2 x3 x4 x5)) a0 a1 a2 a3 from by intro H; kernel_rfl) (F.slices_pdqsortCmpFunc_apiEntry_by_keys_row_1.at K))
noncomputable def V.slices_pdqsortCmpFunc_apiEntry_by_keys_row_1.l110 (a0 : List TEntry) (a1 : Int) (a2 : Int) (a3 : Int) (x0 : Int) (x1 : Int) (x2 : Int) (x3 : Bool) (x4 : Bool) (x5 : List TEntry) := lim fun v => F.slices_pdqsortCmpFunc_apiEntry_by_keys_row_1.l110 (v 0) (v 1) a0 a1 a2 a3 x0 x1 x2 x3 x4 x5
noncomputable def V.slices_pdqsortCmpFunc_apiEntry_by_keys_row_1.j110001111 (a0 : List TEntry) (a1 : Int) (a2 : Int) (a3 : Int) (x0 : Int) (x1 : Int) (x2 : Int) (x3 : Bool) (x4 : Bool) (x5 : Int) (x6 : List TEntry) := lim fun v => F.slices_pdqsortCmpFunc_apiEntry_by_keys_row_1.j110001111 (v 0) (v 1) a0 a1 a2 a3 x0 x1 x2 x3 x4 x5 x6
noncomputable def V.slices_pdqsortCmpFunc_apiEntry_by_keys_row_1.j11000111111 (a0 : List TEntry) (a1 : Int) (a2 : Int) (a3 : Int) (x0 : Int) (x1 : Int) (x2 : Int) (x3 : Bool) (x4 : Bool) (x5 : Int) (x6 : Int) (x7 : Int) (x8 : List TEntry) := lim fun v => F.slices_pdqsortCmpFunc_apiEntry_by_keys_row_1.j11000111111 (v 0) (v 1) a0 a1 a2 a3 x0 x1 x2 x3 x4 x5 x6 x7 x8
noncomputable def V.slices_pdqsortCmpFunc_apiEntry_by_keys_row_1.j1100011111101 (a0 : List TEntry) (a1 : Int) (a2 : Int) (a3 : Int) (x0 : Int) (x1 : Int) (x2 : Int) (x3 : Bool) (x4 : Bool) (x5 : Int) (x6 : Int) (x7 : Bool) (x8 : List TEntry) := lim fun v => F.slices_pdqsortCmpFunc_apiEntry_by_keys_row_1.j1100011111101 (v 0) (v 1) a0 a1 a2 a3 x0 x1 x2 x3 x4 x5 x6 x7 x8
noncomputable def V.slices_pdqsortCmpFunc_apiEntry_by_keys_row_1.j110001111111 (a0 : List TEntry) (a1 : Int) (a2 : Int) (a3 : Int) (x0 : Int) (x1 : Int) (x2 : Int) (x3 : Bool) (x4 : Bool) (x5 : Int) (x6 : Int) (x7 : List TEntry) := lim fun v => F.slices_pdqsortCmpFunc_apiEntry_by_keys_row_1.j110001111111 (v 0) (v 1) a0 a1 a2 a3 x0 x1 x2 x3 x4 x5 x6 x7
noncomputable def V.slices_pdqsortCmpFunc_apiEntry_by_keys_row_1.j11000111111101 (a0 : List TEntry) (a1 : Int) (a2 : Int) (a3 : Int) (x0 : Int) (x1 : Int) (x2 : Int) (x3 : Bool) (x4 : Bool) (x5 : Int) (x6 : Int) (x7 : Bool) (x8 : List TEntry) := lim fun v => F.slices_pdqsortCmpFunc_apiEntry_by_keys_row_1.j11000111111101 (v 0) (v 1) a0 a1 a2 a3 x0 x1 x2 x3 x4 x5 x6 x7 x8
noncomputable def V.slices_pdqsortCmpFunc_apiEntry_by_keys_row_1.j1100011111111 (a0 : List TEntry) (a1 : Int) (a2 : Int) (a3 : Int) (x0 : Int) (x1 : Int) (x2 : Int) (x3 : Int) (x4 : Int) (x5 : List TEntry) := lim fun v => F.slices_pdqsortCmpFunc_apiEntry_by_keys_row_1.j1100011111111 (v 0) (v 1) a0 a1 a2 a3 x0 x1 x2 x3 x4 x5
noncomputable def V.slices_pdqsortCmpFunc_apiEntry_by_keys_row_1 (a0 : List TEntry) (a1 : Int) (a2 : Int) (a3 : Int) := lim fun v => F.slices_pdqsortCmpFunc_apiEntry_by_keys_row_1 (v 0) a0 a1 a2 a3
theorem V.slices_pdqsortCmpFunc_apiEntry_by_keys_row_1.l110.of a0 a1 a2 a3 x0 x1 x2 x3 x4 x5 {r} (h : F.slices_pdqsortCmpFunc_apiEntry_by_keys_row_1.l110.B V.slices_insertionSortCmpFunc_apiEntry_by_keys_row_1 V.slices_heapSortCmpFunc_apiEntry_by_keys_row_1 V.slices_breakPatternsCmpFunc_apiEntry_by_keys_row_1 V.slices_pdqsortCmpFunc_apiEntry_by_keys_row_1.j110001111 a0 a1 a2 a3 x0 x1 x2 x3 x4 x5 = some r) : V.slices_pdqsortCmpFunc_apiEntry_by_keys_row_1.l110 a0 a1 a2 a3 x0 x1 x2 x3 x4 x5 = some r :=
  App.to (App.step 1 (fun v => F.slices_pdqsortCmpFunc_apiEntry_by_keys_row_1.l110.eq (v 0) (v 1) a0 a1 a2 a3 x0 x1 x2 x3 x4 x5) (by unfold F.slices_pdqsortCmpFunc_apiEntry_by_keys_row_1.l110.B; repeat' first | exact App.val | exact App.no | exact App.lim | apply App.cond | apply App.guard | apply App.meet | apply App.ite | refine App.bind ?_ fun _ => ?_)) h
theorem V.slices_pdqsortCmpFunc_apiEntry_by_keys_row_1.j110001111.of a0 a1 a2 a3 x0 x1 x2 x3 x4 x5 x6 {r} (h : F.slices_pdqsortCmpFunc_apiEntry_by_keys_row_1.j110001111.B V.slices_choosePivotCmpFunc_apiEntry_by_keys_row_1 V.slices_reverseRangeCmpFunc_apiEntry_by_keys_row_1 V.slices_pdqsortCmpFunc_apiEntry_by_keys_row_1.j11000111111 a0 a1 a2 a3 x0 x1 x2 x3 x4 x5 x6 = some r) : V.slices_pdqsortCmpFunc_apiEntry_by_keys_row_1.j110001111 a0 a1 a2 a3 x0 x1 x2 x3 x4 x5 x6 = some r :=
  App.to (App.same (fun v => F.slices_pdqsortCmpFunc_apiEntry_by_keys_row_1.j110001111.eq (v 0) (v 1) a0 a1 a2 a3 x0 x1 x2 x3 x4 x5 x6) (by unfold F.slices_pdqsortCmpFunc_apiEntry_by_keys_row_1.j110001111.B; repeat' first | exact App.val | exact App.no | exact App.lim | apply App.cond | apply App.guard | apply App.meet | apply App.ite | refine App.bind ?_ fun _ => ?_)) h
theorem V.slices_pdqsortCmpFunc_apiEntry_by_keys_row_1.j11000111111.of a0 a1 a2 a3 x0 x1 x2 x3 x4 x5 x6 x7 x8 {r} (h : F.slices_pdqsortCmpFunc_apiEntry_by_keys_row_1.j11000111111.B V.slices_pdqsortCmpFunc_apiEntry_by_keys_row_1.j1100011111101 a0 a1 a2 a3 x0 x1 x2 x3 x4 x5 x6 x7 x8 = some r) : V.slices_pdqsortCmpFunc_apiEntry_by_keys_row_1.j11000111111 a0 a1 a2 a3 x0 x1 x2 x3 x4 x5 x6 x7 x8 = some r :=
  App.to (App.same (fun v => F.slices_pdqsortCmpFunc_apiEntry_by_keys_row_1.j11000111111.eq (v 0) (v 1) a0 a1 a2 a3 x0 x1 x2 x3 x4 x5 x6 x7 x8) (by unfold F.slices_pdqsortCmpFunc_apiEntry_by_keys_row_1.j11000111111.B; repeat' first | exact App.val | exact App.no | exact App.lim | apply App.cond | apply App.guard | apply App.meet | apply App.ite | refine App.bind ?_ fun _ => ?_)) h
theorem V.slices_pdqsortCmpFunc_apiEntry_by_keys_row_1.j1100011111101.of a0 a1 a2 a3 x0 x1 x2 x3 x4 x5 x6 x7 x8 {r} (h : F.slices_pdqsortCmpFunc_apiEntry_by_keys_row_1.j1100011111101.B V.slices_partialInsertionSortCmpFunc_apiEntry_by_keys_row_1 V.slices_pdqsortCmpFunc_apiEntry_by_keys_row_1.j110001111111 a0 a1 a2 a3 x0 x1 x2 x3 x4 x5 x6 x7 x8 = some r) : V.slices_pdqsortCmpFunc_apiEntry_by_keys_row_1.j1100011111101 a0 a1 a2 a3 x0 x1 x2 x3 x4 x5 x6 x7 x8 = some r :=
  App.to (App.same (fun v => F.slices_pdqsortCmpFunc_apiEntry_by_keys_row_1.j1100011111101.eq (v 0) (v 1) a0 a1 a2 a3 x0 x1 x2 x3 x4 x5 x6 x7 x8) (by unfold F.slices_pdqsortCmpFunc_apiEntry_by_keys_row_1.j1100011111101.B; repeat' first | exact App.val | exact App.no | exact App.lim | apply App.cond | apply App.guard | apply App.meet | apply App.ite | refine App.bind ?_ fun _ => ?_)) h
theorem V.slices_pdqsortCmpFunc_apiEntry_by_keys_row_1.j110001111111.of a0 a1 a2 a3 x0 x1 x2 x3 x4 x5 x6 x7 {r} (h : F.slices_pdqsortCmpFunc_apiEntry_by_keys_row_1.j110001111111.B V.keys_row_1 V.slices_pdqsortCmpFunc_apiEntry_by_keys_row_1.j11000111111101 a0 a1 a2 a3 x0 x1 x2 x3 x4 x5 x6 x7 = some r) : V.slices_pdqsortCmpFunc_apiEntry_by_keys_row_1.j110001111111 a0 a1 a2 a3 x0 x1 x2 x3 x4 x5 x6 x7 = some r :=
  App.to (App.same (fun v => F.slices_pdqsortCmpFunc_apiEntry_by_keys_row_1.j110001111111.eq (v 0) (v 1) a0 a1 a2 a3 x0 x1 x2 x3 x4 x5 x6 x7) (by unfold F.slices_pdqsortCmpFunc_apiEntry_by_keys_row_1.j110001111111.B; repeat' first | exact App.val | exact App.no | exact App.lim | apply App.cond | apply App.guard | apply App.meet | apply App.ite | refine App.bind ?_ fun _ => ?_)) h
theorem V.slices_pdqsortCmpFunc_apiEntry_by_keys_row_1.j11000111111101.of a0 a1 a2 a3 x0 x1 x2 x3 x4 x5 x6 x7 x8 {r} (h : F.slices_pdqsortCmpFunc_apiEntry_by_keys_row_1.j11000111111101.B V.slices_partitionEqualCmpFunc_apiEntry_by_keys_row_1 V.slices_pdqsortCmpFunc_apiEntry_by_keys_row_1.l110 V.slices_pdqsortCmpFunc_apiEntry_by_keys_row_1.j1100011111111 a0 a1 a2 a3 x0 x1 x2 x3 x4 x5 x6 x7 x8 = some r) : V.slices_pdqsortCmpFunc_apiEntry_by_keys_row_1.j11000111111101 a0 a1 a2 a3 x0 x1 x2 x3 x4 x5 x6 x7 x8 = some r :=
  App.to (App.same (fun v => F.slices_pdqsortCmpFunc_apiEntry_by_keys_row_1.j11000111111101.eq (v 0) (v 1) a0 a1 a2 a3 x0 x1 x2 x3 x4 x5 x6 x7 x8) (by unfold F.slices_pdqsortCmpFunc_apiEntry_by_keys_row_1.j11000111111101.B; repeat' first | exact App.val | exact App.no | exact App.lim | apply App.cond | apply App.guard | apply App.meet | apply App.ite | refine App.bind ?_ fun _ => ?_)) h
theorem V.slices_pdqsortCmpFunc_apiEntry_by_keys_row_1.j1100011111111.of a0 a1 a2 a3 x0 x1 x2 x3 x4 x5 {r} (h : F.slices_pdqsortCmpFunc_apiEntry_by_keys_row_1.j1100011111111.B V.slices_partitionCmpFunc_apiEntry_by_keys_row_1 V.slices_pdqsortCmpFunc_apiEntry_by_keys_row_1 V.slices_pdqsortCmpFunc_apiEntry_by_keys_row_1.l110 a0 a1 a2 a3 x0 x1 x2 x3 x4 x5 = some r) : V.slices_pdqsortCmpFunc_apiEntry_by_keys_row_1.j1100011111111 a0 a1 a2 a3 x0 x1 x2 x3 x4 x5 = some r :=
  App.to (App.same (fun v => F.slices_pdqsortCmpFunc_apiEntry_by_keys_row_1.j1100011111111.eq (v 0) (v 1) a0 a1 a2 a3 x0 x1 x2 x3 x4 x5) (by unfold F.slices_pdqsortCmpFunc_apiEntry_by_keys_row_1.j1100011111111.B; repeat' first | exact App.val | exact App.no | exact App.lim | apply App.cond | apply App.guard | apply App.meet | apply App.ite | refine App.bind ?_ fun _ => ?_)) h
theorem V.slices_pdqsortCmpFunc_apiEntry_by_keys_row_1.of a0 a1 a2 a3 {r} (h : F.slices_pdqsortCmpFunc_apiEntry_by_keys_row_1.B V.slices_pdqsortCmpFunc_apiEntry_by_keys_row_1.l110 a0 a1 a2 a3 = some r) : V.slices_pdqsortCmpFunc_apiEntry_by_keys_row_1 a0 a1 a2 a3 = some r :=
  App.to (App.step 0 (fun v => F.slices_pdqsortCmpFunc_apiEntry_by_keys_row_1.eq (v 0) a0 a1 a2 a3) (by unfold F.slices_pdqsortCmpFunc_apiEntry_by_keys_row_1.B; repeat' first | exact App.val | exact App.no | exact App.lim | exact (App.enter 1 App.lim) | apply App.cond | apply App.guard | apply App.meet | apply App.ite | refine App.bind ?_ fun _ => ?_)) h
noncomputable def F.slices_SortFunc_apiEntryapiEntry_by_keys_row_1 (K : Nat) (a0 : List TEntry) : Option ((List TEntry)) := evFn Try.prog sg K 141 [.sc (.own 0 none), .sc (.fn 142 [])] [.elems sEntry a0]
noncomputable def F.slices_SortFunc_apiEntryapiEntry_by_keys_row_1.B (c0 : (Int) → Option (Int)) (c1 : (List TEntry) → (Int) → (Int) → (Int) → Option ((List TEntry))) (a0 : List TEntry) : Option ((List TEntry)) :=
    ((c0 (IntKind.wrap .u64 (a0.length : Int))).bind fun t0 => ((c1 a0 0 (a0.length : Int) t0).bind fun t1 => (some t1)))
theorem F.slices_SortFunc_apiEntryapiEntry_by_keys_row_1.eq K a0 : F.slices_SortFunc_apiEntryapiEntry_by_keys_row_1 (K + 1) a0 = F.slices_SortFunc_apiEntryapiEntry_by_keys_row_1.B (F.math_bits_Len K) (F.slices_pdqsortCmpFunc_apiEntry_by_keys_row_1 K) a0 := by kernel_rfl
noncomputable def V.slices_SortFunc_apiEntryapiEntry_by_keys_row_1 (a0 : List TEntry) := lim fun v => F.slices_SortFunc_apiEntryapiEntry_by_keys_row_1 (v 0) a0
theorem V.slices_SortFunc_apiEntryapiEntry_by_keys_row_1.of a0 {r} (h : F.slices_SortFunc_apiEntryapiEntry_by_keys_row_1.B V.math_bits_Len V.slices_pdqsortCmpFunc_apiEntry_by_keys_row_1 a0 = some r) : V.slices_SortFunc_apiEntryapiEntry_by_keys_row_1 a0 = some r :=
  App.to (App.step 0 (fun v => F.slices_SortFunc_apiEntryapiEntry_by_keys_row_1.eq (v 0) a0) (by unfold F.slices_SortFunc_apiEntryapiEntry_by_keys_row_1.B; repeat' first | exact App.val | exact App.no | exact App.lim | apply App.cond | apply App.guard | apply App.meet | apply App.ite | refine App.bind ?_ fun _ => ?_)) h
noncomputable def F.keys_row (K : Nat) (a0 : List TEntry) : Option ((List TEntry)) := evFn Try.prog sg K 95 [.sc (.own 0 none)] [.elems sEntry a0]
noncomputable def F.keys_row.B (c0 : (List TEntry) → Option ((List TEntry))) (a0 : List TEntry) : Option ((List TEntry)) :=
    ((c0 a0).bind fun t0 => (some t0))
theorem F.keys_row.eq K a0 : F.keys_row (K + 1) a0 = F.keys_row.B (F.slices_SortFunc_apiEntryapiEntry_by_keys_row_1 K) a0 := by kernel_rfl
noncomputable def V.keys_row (a0 : List TEntry) := lim fun v => F.keys_row (v 0) a0
theorem V.keys_row.of a0 {r} (h : F.keys_row.B V.slices_SortFunc_apiEntryapiEntry_by_keys_row_1 a0 = some r) : V.keys_row a0 = some r :=
  App.to (App.step 0 (fun v => F.keys_row.eq (v 0) a0) (by unfold F.keys_row.B; repeat' first | exact App.val | exact App.no | exact App.lim | apply App.cond | apply App.guard | apply App.meet | apply App.ite | refine App.bind ?_ fun _ => ?_)) h
noncomputable def F.keys_Nodes (K : Nat) (a0 : List TNode) : Option ((List TEntry) × Int) := evFn Try.prog sg K 48 [.sc (.list sNode a0 false)] []
noncomputable def F.keys_Nodes.at (K : Nat) (p ns : List Nat) (s : St) : Option ((List TEntry) × Int) := atFn Try.prog sg K 48 0 p ns s
noncomputable def F.keys_Nodes.in (K : Nat) (H : List Nat → List Nat → St → Option ((List TEntry) × Int)) (p ns : List Nat) (s : St) : Option ((List TEntry) × Int) := inFn Try.prog sg K 48 0 [] H p ns s
theorem F.keys_Nodes.in_eq K p ns s : F.keys_Nodes.at K p ns s = F.keys_Nodes.in K (F.keys_Nodes.at K) p ns s := atFn_eq (P := Try.prog) (sg := sg) (K := K) (f := 48) (m := 0) [] p ns s
theorem F.keys_Nodes.in_main K a0 : F.keys_Nodes (K + 1) a0 = F.keys_Nodes.in K (F.keys_Nodes.at K) [] [] ⟨slots [.sc (.list sNode a0 false)] 0, []⟩ := evFn_eq (P := Try.prog) (sg := sg) (K := K) (f := 48) (args := [.sc (.list sNode a0 false)]) (σ := []) [] (by kernel_rfl)
def F.keys_Nodes.l11010.st (a0 : List TNode) (x0 : Int) (x1 : List TEntry) : St := ⟨[(4, .one (.sc (.own 0 none))), (9, vL sNode a0), (10, vI (a0.length : Int)), (11, vI x0)], [.elems sEntry x1]⟩
noncomputable def F.keys_Nodes.l11010 (K n0 : Nat) (a0 : List TNode) (x0 : Int) (x1 : List TEntry) := F.keys_Nodes.at K [1, 1, 0, 1, 0] [n0] (F.keys_Nodes.l11010.st a0 x0 x1)
noncomputable def F.keys_Nodes.l11010.B (c0 : (TNode) → Option (ByteArray × Int)) (c1 : (List TNode) → (Int) → (List TEntry) → Option ((List TEntry) × Int)) (c2 : (List TEntry) → Option ((List TEntry))) (a0 : List TNode) (x0 : Int) (x1 : List TEntry) : Option ((List TEntry) × Int) :=
    (bif (decide (x0 < (a0.length : Int))) then (guardK (decide (0 ≤ x0) && decide (x0 < (a0.length : Int))) ((c0 ((rd sNode a0 x0.toNat).1, ((rd sNode a0 x0.toNat).2).1, ((rd sNode a0 x0.toNat).2).2)).bind fun t0 => (bif (t0.2 != 0) then (some ([], t0.2)) else (guardK (decide (x1.length + ([((rd sNode a0 x0.toNat).1, t0.1)]).length ≤ nmax)) (c1 a0 (w64 (x0 + 1)) (x1 ++ [((rd sNode a0 x0.toNat).1, t0.1)])))))) else ((c2 x1).bind fun t1 => (some (t1, 0))))
theorem F.keys_Nodes.l11010.eq K n0 a0 x0 x1 : F.keys_Nodes.l11010 K (n0 + 1) a0 x0 x1 = F.keys_Nodes.l11010.B (F.elem_PutNode K) (F.keys_Nodes.l11010 K n0) (F.keys_row K) a0 x0 x1 := (F.keys_Nodes.in_eq K [1, 1, 0, 1, 0] [n0 + 1] (F.keys_Nodes.l11010.st a0 x0 x1)).trans ((show ∀ H, F.keys_Nodes.in K H [1, 1, 0, 1, 0] [n0 + 1] (F.keys_Nodes.l11010.st a0 x0 x1) = F.keys_Nodes.l11010.B (F.elem_PutNode K) (fun a0 x0 x1 => H [1, 1, 0, 1, 0] [n0] (F.keys_Nodes.l11010.st a0 x0 x1)) (F.keys_row K) a0 x0 x1 from by intro H; kernel_rfl) (F.keys_Nodes.at K))
noncomputable def F.keys_Nodes.B (c0 : (List TNode) → (Int) → (List TEntry) → Option ((List TEntry) × Int)) (a0 : List TNode) : Option ((List TEntry) × Int) :=
    (c0 a0 0 ([]))
theorem F.keys_Nodes.eq K a0 : F.keys_Nodes (K + 1) a0 = F.keys_Nodes.B (F.keys_Nodes.l11010 K K) a0 := (F.keys_Nodes.in_main K a0).trans ((show ∀ H, F.keys_Nodes.in K H [] [] ⟨slots [.sc (.list sNode a0 false)] 0, []⟩ = F.keys_Nodes.B (fun a0 x0 x1 => H [1, 1, 0, 1, 0] [K] (F.keys_Nodes.l11010.st a0 x0 x1)) a0 from by intro H; kernel_rfl) (F.keys_Nodes.at K))
noncomputable def V.keys_Nodes.l11010 (a0 : List TNode) (x0 : Int) (x1 : List TEntry) := lim fun v => F.keys_Nodes.l11010 (v 0) (v 1) a0 x0 x1
noncomputable def V.keys_Nodes (a0 : List TNode) := lim fun v => F.keys_Nodes (v 0) a0
theorem V.keys_Nodes.l11010.of a0 x0 x1 {r} (h : F.keys_Nodes.l11010.B V.elem_PutNode V.keys_Nodes.l11010 V.keys_row a0 x0 x1 = some r) : V.keys_Nodes.l11010 a0 x0 x1 = some r :=
  App.to (App.step 1 (fun v => F.keys_Nodes.l11010.eq (v 0) (v 1) a0 x0 x1) (by unfold F.keys_Nodes.l11010.B; repeat' first | exact App.val | exact App.no | exact App.lim | apply App.cond | apply App.guard | apply App.meet | apply App.ite | refine App.bind ?_ fun _ => ?_)) h
theorem V.keys_Nodes.of a0 {r} (h : F.keys_Nodes.B V.keys_Nodes.l11010 a0 = some r) : V.keys_Nodes a0 = some r :=
  App.to (App.step 0 (fun v => F.keys_Nodes.eq (v 0) a0) (by unfold F.keys_Nodes.B; repeat' first | exact App.val | exact App.no | exact App.lim | exact (App.enter 1 App.lim) | apply App.cond | apply App.guard | apply App.meet | apply App.ite | refine App.bind ?_ fun _ => ?_)) h
noncomputable def F.elem_CheckEdge (K : Nat) (a0 : TEdge) : Option (Int) := evFn Try.prog sg K 86 [.agg [.val (.string a0.1), .val (.string a0.2.1), .val (.string a0.2.2.1), .list .str a0.2.2.2.1 false, .list sProp a0.2.2.2.2 false]] []
noncomputable def F.elem_CheckEdge.at (K : Nat) (p ns : List Nat) (s : St) : Option (Int) := atFn Try.prog sg K 86 0 p ns s
noncomputable def F.elem_CheckEdge.in (K : Nat) (H : List Nat → List Nat → St → Option (Int)) (p ns : List Nat) (s : St) : Option (Int) := inFn Try.prog sg K 86 0 [] H p ns s
theorem F.elem_CheckEdge.in_eq K p ns s : F.elem_CheckEdge.at K p ns s = F.elem_CheckEdge.in K (F.elem_CheckEdge.at K) p ns s := atFn_eq (P := Try.prog) (sg := sg) (K := K) (f := 86) (m := 0) [] p ns s
theorem F.elem_CheckEdge.in_main K a0 : F.elem_CheckEdge (K + 1) a0 = F.elem_CheckEdge.in K (F.elem_CheckEdge.at K) [] [] ⟨slots [.agg [.val (.string a0.1), .val (.string a0.2.1), .val (.string a0.2.2.1), .list .str a0.2.2.2.1 false, .list sProp a0.2.2.2.2 false]] 0, []⟩ := evFn_eq (P := Try.prog) (sg := sg) (K := K) (f := 86) (args := [.agg [.val (.string a0.1), .val (.string a0.2.1), .val (.string a0.2.2.1), .list .str a0.2.2.2.1 false, .list sProp a0.2.2.2.2 false]]) (σ := []) [] (by kernel_rfl)
def F.elem_CheckEdge.l1010.st (a0 : TEdge) (x0 : Int) : St := ⟨[(1, .one (.sc (.ref 0 0))), (12, .one (.agg [.val (.string a0.1), .val (.string a0.2.1), .val (.string a0.2.2.1)])), (13, vI x0)], [.cells 95 [.val (.string a0.1), .val (.string a0.2.1), .val (.string a0.2.2.1), .list .str a0.2.2.2.1 false, .list sProp a0.2.2.2.2 false]]⟩
noncomputable def F.elem_CheckEdge.l1010 (K n0 : Nat) (a0 : TEdge) (x0 : Int) := F.elem_CheckEdge.at K [1, 0, 1, 0] [n0] (F.elem_CheckEdge.l1010.st a0 x0)
noncomputable def F.elem_CheckEdge.l1010.B (c0 : (ByteArray) → Option (Int)) (c1 : (TEdge) → (Int) → Option (Int)) (c2 : (List ByteArray) → (List TProp) → Option (Int)) (a0 : TEdge) (x0 : Int) : Option (Int) :=
    (bif (decide (x0 < 3)) then (bif (x0 == 0) then ((c0 a0.1).bind fun t0 => (bif (t0 != 0) then (some t0) else (c1 a0 (w64 (x0 + 1))))) else (bif (x0 == 1) then ((c0 a0.2.1).bind fun t1 => (bif (t1 != 0) then (some t1) else (c1 a0 (w64 (x0 + 1))))) else (bif (x0 == 2) then ((c0 a0.2.2.1).bind fun t2 => (bif (t2 != 0) then (some t2) else (c1 a0 (w64 (x0 + 1))))) else none))) else ((c2 a0.2.2.2.1 a0.2.2.2.2).bind fun t3 => (some t3)))
theorem F.elem_CheckEdge.l1010.eq K n0 a0 x0 : F.elem_CheckEdge.l1010 K (n0 + 1) a0 x0 = F.elem_CheckEdge.l1010.B (F.name_Check K) (F.elem_CheckEdge.l1010 K n0) (F.elem_rest K) a0 x0 := (F.elem_CheckEdge.in_eq K [1, 0, 1, 0] [n0 + 1] (F.elem_CheckEdge.l1010.st a0 x0)).trans ((show ∀ H, F.elem_CheckEdge.in K H [1, 0, 1, 0] [n0 + 1] (F.elem_CheckEdge.l1010.st a0 x0) = F.elem_CheckEdge.l1010.B (F.name_Check K) (fun a0 x0 => H [1, 0, 1, 0] [n0] (F.elem_CheckEdge.l1010.st a0 x0)) (F.elem_rest K) a0 x0 from by intro H; kernel_rfl) (F.elem_CheckEdge.at K))
noncomputable def F.elem_CheckEdge.B (c0 : (TEdge) → (Int) → Option (Int)) (a0 : TEdge) : Option (Int) :=
    (c0 a0 0)
theorem F.elem_CheckEdge.eq K a0 : F.elem_CheckEdge (K + 1) a0 = F.elem_CheckEdge.B (F.elem_CheckEdge.l1010 K K) a0 := (F.elem_CheckEdge.in_main K a0).trans ((show ∀ H, F.elem_CheckEdge.in K H [] [] ⟨slots [.agg [.val (.string a0.1), .val (.string a0.2.1), .val (.string a0.2.2.1), .list .str a0.2.2.2.1 false, .list sProp a0.2.2.2.2 false]] 0, []⟩ = F.elem_CheckEdge.B (fun a0 x0 => H [1, 0, 1, 0] [K] (F.elem_CheckEdge.l1010.st a0 x0)) a0 from by intro H; kernel_rfl) (F.elem_CheckEdge.at K))
noncomputable def V.elem_CheckEdge.l1010 (a0 : TEdge) (x0 : Int) := lim fun v => F.elem_CheckEdge.l1010 (v 0) (v 1) a0 x0
noncomputable def V.elem_CheckEdge (a0 : TEdge) := lim fun v => F.elem_CheckEdge (v 0) a0
theorem V.elem_CheckEdge.l1010.of a0 x0 {r} (h : F.elem_CheckEdge.l1010.B V.name_Check V.elem_CheckEdge.l1010 V.elem_rest a0 x0 = some r) : V.elem_CheckEdge.l1010 a0 x0 = some r :=
  App.to (App.step 1 (fun v => F.elem_CheckEdge.l1010.eq (v 0) (v 1) a0 x0) (by unfold F.elem_CheckEdge.l1010.B; repeat' first | exact App.val | exact App.no | exact App.lim | apply App.cond | apply App.guard | apply App.meet | apply App.ite | refine App.bind ?_ fun _ => ?_)) h
theorem V.elem_CheckEdge.of a0 {r} (h : F.elem_CheckEdge.B V.elem_CheckEdge.l1010 a0 = some r) : V.elem_CheckEdge a0 = some r :=
  App.to (App.step 0 (fun v => F.elem_CheckEdge.eq (v 0) a0) (by unfold F.elem_CheckEdge.B; repeat' first | exact App.val | exact App.no | exact App.lim | exact (App.enter 1 App.lim) | apply App.cond | apply App.guard | apply App.meet | apply App.ite | refine App.bind ?_ fun _ => ?_)) h
noncomputable def F.elem_PutEdge (K : Nat) (a0 : TEdge) : Option (ByteArray × Int) := evFn Try.prog sg K 96 [.agg [.val (.string a0.1), .val (.string a0.2.1), .val (.string a0.2.2.1), .list .str a0.2.2.2.1 false, .list sProp a0.2.2.2.2 false]] []
noncomputable def F.elem_PutEdge.B (c0 : (TEdge) → Option (Int)) (c1 : (ByteArray) → Option (ByteArray)) (c2 : (List ByteArray) → (List TProp) → Option (ByteArray)) (a0 : TEdge) : Option (ByteArray × Int) :=
    ((c0 (a0.1, a0.2.1, a0.2.2.1, a0.2.2.2.1, a0.2.2.2.2)).bind fun t0 => (bif (t0 != 0) then (some ((⟨#[]⟩ : ByteArray), t0)) else ((c1 a0.2.1).bind fun t1 => ((c1 a0.2.2.1).bind fun t2 => (guardK (decide (t1.size + t2.size ≤ i64max)) ((c2 a0.2.2.2.1 a0.2.2.2.2).bind fun t3 => (guardK (decide ((t1 ++ t2).size + t3.size ≤ i64max)) (some (((t1 ++ t2) ++ t3), 0)))))))))
theorem F.elem_PutEdge.eq K a0 : F.elem_PutEdge (K + 1) a0 = F.elem_PutEdge.B (F.elem_CheckEdge K) (F.scan_PutText K) (F.elem_put K) a0 := by kernel_rfl
noncomputable def V.elem_PutEdge (a0 : TEdge) := lim fun v => F.elem_PutEdge (v 0) a0
theorem V.elem_PutEdge.of a0 {r} (h : F.elem_PutEdge.B V.elem_CheckEdge V.scan_PutText V.elem_put a0 = some r) : V.elem_PutEdge a0 = some r :=
  App.to (App.step 0 (fun v => F.elem_PutEdge.eq (v 0) a0) (by unfold F.elem_PutEdge.B; repeat' first | exact App.val | exact App.no | exact App.lim | apply App.cond | apply App.guard | apply App.meet | apply App.ite | refine App.bind ?_ fun _ => ?_)) h
noncomputable def F.keys_Edges (K : Nat) (a0 : List TEdge) : Option ((List TEntry) × Int) := evFn Try.prog sg K 49 [.sc (.list sEdge a0 false)] []
noncomputable def F.keys_Edges.at (K : Nat) (p ns : List Nat) (s : St) : Option ((List TEntry) × Int) := atFn Try.prog sg K 49 0 p ns s
noncomputable def F.keys_Edges.in (K : Nat) (H : List Nat → List Nat → St → Option ((List TEntry) × Int)) (p ns : List Nat) (s : St) : Option ((List TEntry) × Int) := inFn Try.prog sg K 49 0 [] H p ns s
theorem F.keys_Edges.in_eq K p ns s : F.keys_Edges.at K p ns s = F.keys_Edges.in K (F.keys_Edges.at K) p ns s := atFn_eq (P := Try.prog) (sg := sg) (K := K) (f := 49) (m := 0) [] p ns s
theorem F.keys_Edges.in_main K a0 : F.keys_Edges (K + 1) a0 = F.keys_Edges.in K (F.keys_Edges.at K) [] [] ⟨slots [.sc (.list sEdge a0 false)] 0, []⟩ := evFn_eq (P := Try.prog) (sg := sg) (K := K) (f := 49) (args := [.sc (.list sEdge a0 false)]) (σ := []) [] (by kernel_rfl)
def F.keys_Edges.l11010.st (a0 : List TEdge) (x0 : Int) (x1 : List TEntry) : St := ⟨[(4, .one (.sc (.own 0 none))), (9, vL sEdge a0), (10, vI (a0.length : Int)), (11, vI x0)], [.elems sEntry x1]⟩
noncomputable def F.keys_Edges.l11010 (K n0 : Nat) (a0 : List TEdge) (x0 : Int) (x1 : List TEntry) := F.keys_Edges.at K [1, 1, 0, 1, 0] [n0] (F.keys_Edges.l11010.st a0 x0 x1)
noncomputable def F.keys_Edges.l11010.B (c0 : (TEdge) → Option (ByteArray × Int)) (c1 : (List TEdge) → (Int) → (List TEntry) → Option ((List TEntry) × Int)) (c2 : (List TEntry) → Option ((List TEntry))) (a0 : List TEdge) (x0 : Int) (x1 : List TEntry) : Option ((List TEntry) × Int) :=
    (bif (decide (x0 < (a0.length : Int))) then (guardK (decide (0 ≤ x0) && decide (x0 < (a0.length : Int))) ((c0 ((rd sEdge a0 x0.toNat).1, ((rd sEdge a0 x0.toNat).2).1, (((rd sEdge a0 x0.toNat).2).2).1, ((((rd sEdge a0 x0.toNat).2).2).2).1, ((((rd sEdge a0 x0.toNat).2).2).2).2)).bind fun t0 => (bif (t0.2 != 0) then (some ([], t0.2)) else (guardK (decide (x1.length + ([((rd sEdge a0 x0.toNat).1, t0.1)]).length ≤ nmax)) (c1 a0 (w64 (x0 + 1)) (x1 ++ [((rd sEdge a0 x0.toNat).1, t0.1)])))))) else ((c2 x1).bind fun t1 => (some (t1, 0))))
theorem F.keys_Edges.l11010.eq K n0 a0 x0 x1 : F.keys_Edges.l11010 K (n0 + 1) a0 x0 x1 = F.keys_Edges.l11010.B (F.elem_PutEdge K) (F.keys_Edges.l11010 K n0) (F.keys_row K) a0 x0 x1 := (F.keys_Edges.in_eq K [1, 1, 0, 1, 0] [n0 + 1] (F.keys_Edges.l11010.st a0 x0 x1)).trans ((show ∀ H, F.keys_Edges.in K H [1, 1, 0, 1, 0] [n0 + 1] (F.keys_Edges.l11010.st a0 x0 x1) = F.keys_Edges.l11010.B (F.elem_PutEdge K) (fun a0 x0 x1 => H [1, 1, 0, 1, 0] [n0] (F.keys_Edges.l11010.st a0 x0 x1)) (F.keys_row K) a0 x0 x1 from by intro H; kernel_rfl) (F.keys_Edges.at K))
noncomputable def F.keys_Edges.B (c0 : (List TEdge) → (Int) → (List TEntry) → Option ((List TEntry) × Int)) (a0 : List TEdge) : Option ((List TEntry) × Int) :=
    (c0 a0 0 ([]))
theorem F.keys_Edges.eq K a0 : F.keys_Edges (K + 1) a0 = F.keys_Edges.B (F.keys_Edges.l11010 K K) a0 := (F.keys_Edges.in_main K a0).trans ((show ∀ H, F.keys_Edges.in K H [] [] ⟨slots [.sc (.list sEdge a0 false)] 0, []⟩ = F.keys_Edges.B (fun a0 x0 x1 => H [1, 1, 0, 1, 0] [K] (F.keys_Edges.l11010.st a0 x0 x1)) a0 from by intro H; kernel_rfl) (F.keys_Edges.at K))
noncomputable def V.keys_Edges.l11010 (a0 : List TEdge) (x0 : Int) (x1 : List TEntry) := lim fun v => F.keys_Edges.l11010 (v 0) (v 1) a0 x0 x1
noncomputable def V.keys_Edges (a0 : List TEdge) := lim fun v => F.keys_Edges (v 0) a0
theorem V.keys_Edges.l11010.of a0 x0 x1 {r} (h : F.keys_Edges.l11010.B V.elem_PutEdge V.keys_Edges.l11010 V.keys_row a0 x0 x1 = some r) : V.keys_Edges.l11010 a0 x0 x1 = some r :=
  App.to (App.step 1 (fun v => F.keys_Edges.l11010.eq (v 0) (v 1) a0 x0 x1) (by unfold F.keys_Edges.l11010.B; repeat' first | exact App.val | exact App.no | exact App.lim | apply App.cond | apply App.guard | apply App.meet | apply App.ite | refine App.bind ?_ fun _ => ?_)) h
theorem V.keys_Edges.of a0 {r} (h : F.keys_Edges.B V.keys_Edges.l11010 a0 = some r) : V.keys_Edges a0 = some r :=
  App.to (App.step 0 (fun v => F.keys_Edges.eq (v 0) a0) (by unfold F.keys_Edges.B; repeat' first | exact App.val | exact App.no | exact App.lim | exact (App.enter 1 App.lim) | apply App.cond | apply App.guard | apply App.meet | apply App.ite | refine App.bind ?_ fun _ => ?_)) h
noncomputable def F.keys_Out_1 (K : Nat) (a0 : TEdge) : Option (ByteArray × ByteArray) := evFn Try.prog sg K 98 [.agg [.val (.string a0.1), .val (.string a0.2.1), .val (.string a0.2.2.1), .list .str a0.2.2.2.1 false, .list sProp a0.2.2.2.2 false]] []
noncomputable def F.keys_Out_1.B (a0 : TEdge) : Option (ByteArray × ByteArray) :=
    (some (a0.2.1, a0.2.2.1))
theorem F.keys_Out_1.eq K a0 : F.keys_Out_1 (K + 1) a0 = F.keys_Out_1.B a0 := by kernel_rfl
noncomputable def V.keys_Out_1 (a0 : TEdge) := lim fun v => F.keys_Out_1 (v 0) a0
theorem V.keys_Out_1.of a0 {r} (h : F.keys_Out_1.B a0 = some r) : V.keys_Out_1 a0 = some r :=
  App.to (App.step 0 (fun v => F.keys_Out_1.eq (v 0) a0) (by unfold F.keys_Out_1.B; repeat' first | exact App.val | exact App.no | exact App.lim | apply App.cond | apply App.guard | apply App.meet | apply App.ite | refine App.bind ?_ fun _ => ?_)) h
noncomputable def F.keys_sides_by_keys_Out_1 (K : Nat) (a0 : List TEdge) : Option ((List TEntry) × Int) := evFn Try.prog sg K 97 [.sc (.list sEdge a0 false), .sc (.fn 98 [])] []
noncomputable def F.keys_sides_by_keys_Out_1.at (K : Nat) (p ns : List Nat) (s : St) : Option ((List TEntry) × Int) := atFn Try.prog sg K 97 0 p ns s
noncomputable def F.keys_sides_by_keys_Out_1.in (K : Nat) (H : List Nat → List Nat → St → Option ((List TEntry) × Int)) (p ns : List Nat) (s : St) : Option ((List TEntry) × Int) := inFn Try.prog sg K 97 0 [] H p ns s
theorem F.keys_sides_by_keys_Out_1.in_eq K p ns s : F.keys_sides_by_keys_Out_1.at K p ns s = F.keys_sides_by_keys_Out_1.in K (F.keys_sides_by_keys_Out_1.at K) p ns s := atFn_eq (P := Try.prog) (sg := sg) (K := K) (f := 97) (m := 0) [] p ns s
theorem F.keys_sides_by_keys_Out_1.in_main K a0 : F.keys_sides_by_keys_Out_1 (K + 1) a0 = F.keys_sides_by_keys_Out_1.in K (F.keys_sides_by_keys_Out_1.at K) [] [] ⟨slots [.sc (.list sEdge a0 false), .sc (.fn 98 [])] 0, []⟩ := evFn_eq (P := Try.prog) (sg := sg) (K := K) (f := 97) (args := [.sc (.list sEdge a0 false), .sc (.fn 98 [])]) (σ := []) [] (by kernel_rfl)
def F.keys_sides_by_keys_Out_1.l11010.st (a0 : List TEdge) (x0 : Int) (x1 : List TEntry) : St := ⟨[(1, .one (.sc (.fn 98 []))), (6, .one (.sc (.own 0 none))), (13, vL sEdge a0), (14, vI (a0.length : Int)), (15, vI x0)], [.elems sEntry x1]⟩
noncomputable def F.keys_sides_by_keys_Out_1.l11010 (K n0 : Nat) (a0 : List TEdge) (x0 : Int) (x1 : List TEntry) := F.keys_sides_by_keys_Out_1.at K [1, 1, 0, 1, 0] [n0] (F.keys_sides_by_keys_Out_1.l11010.st a0 x0 x1)
noncomputable def F.keys_sides_by_keys_Out_1.l11010.B (c0 : (TEdge) → Option (ByteArray × ByteArray)) (c1 : (ByteArray) → (ByteArray) → Option (ByteArray × Int)) (c2 : (List TEdge) → (Int) → (List TEntry) → Option ((List TEntry) × Int)) (c3 : (List TEntry) → Option ((List TEntry))) (a0 : List TEdge) (x0 : Int) (x1 : List TEntry) : Option ((List TEntry) × Int) :=
    (bif (decide (x0 < (a0.length : Int))) then (guardK (decide (0 ≤ x0) && decide (x0 < (a0.length : Int))) ((c0 ((rd sEdge a0 x0.toNat).1, ((rd sEdge a0 x0.toNat).2).1, (((rd sEdge a0 x0.toNat).2).2).1, ((((rd sEdge a0 x0.toNat).2).2).2).1, ((((rd sEdge a0 x0.toNat).2).2).2).2)).bind fun t0 => ((c1 t0.1 ((rd sEdge a0 x0.toNat).1)).bind fun t1 => (bif (t1.2 != 0) then (some ([], t1.2)) else (guardK (decide (x1.length + ([(t1.1, t0.2)]).length ≤ nmax)) (c2 a0 (w64 (x0 + 1)) (x1 ++ [(t1.1, t0.2)]))))))) else ((c3 x1).bind fun t2 => (some (t2, 0))))
theorem F.keys_sides_by_keys_Out_1.l11010.eq K n0 a0 x0 x1 : F.keys_sides_by_keys_Out_1.l11010 K (n0 + 1) a0 x0 x1 = F.keys_sides_by_keys_Out_1.l11010.B (F.keys_Out_1 K) (F.keys_Of K) (F.keys_sides_by_keys_Out_1.l11010 K n0) (F.keys_row K) a0 x0 x1 := (F.keys_sides_by_keys_Out_1.in_eq K [1, 1, 0, 1, 0] [n0 + 1] (F.keys_sides_by_keys_Out_1.l11010.st a0 x0 x1)).trans ((show ∀ H, F.keys_sides_by_keys_Out_1.in K H [1, 1, 0, 1, 0] [n0 + 1] (F.keys_sides_by_keys_Out_1.l11010.st a0 x0 x1) = F.keys_sides_by_keys_Out_1.l11010.B (F.keys_Out_1 K) (F.keys_Of K) (fun a0 x0 x1 => H [1, 1, 0, 1, 0] [n0] (F.keys_sides_by_keys_Out_1.l11010.st a0 x0 x1)) (F.keys_row K) a0 x0 x1 from by intro H; kernel_rfl) (F.keys_sides_by_keys_Out_1.at K))
noncomputable def F.keys_sides_by_keys_Out_1.B (c0 : (List TEdge) → (Int) → (List TEntry) → Option ((List TEntry) × Int)) (a0 : List TEdge) : Option ((List TEntry) × Int) :=
    (c0 a0 0 ([]))
theorem F.keys_sides_by_keys_Out_1.eq K a0 : F.keys_sides_by_keys_Out_1 (K + 1) a0 = F.keys_sides_by_keys_Out_1.B (F.keys_sides_by_keys_Out_1.l11010 K K) a0 := (F.keys_sides_by_keys_Out_1.in_main K a0).trans ((show ∀ H, F.keys_sides_by_keys_Out_1.in K H [] [] ⟨slots [.sc (.list sEdge a0 false), .sc (.fn 98 [])] 0, []⟩ = F.keys_sides_by_keys_Out_1.B (fun a0 x0 x1 => H [1, 1, 0, 1, 0] [K] (F.keys_sides_by_keys_Out_1.l11010.st a0 x0 x1)) a0 from by intro H; kernel_rfl) (F.keys_sides_by_keys_Out_1.at K))
noncomputable def V.keys_sides_by_keys_Out_1.l11010 (a0 : List TEdge) (x0 : Int) (x1 : List TEntry) := lim fun v => F.keys_sides_by_keys_Out_1.l11010 (v 0) (v 1) a0 x0 x1
noncomputable def V.keys_sides_by_keys_Out_1 (a0 : List TEdge) := lim fun v => F.keys_sides_by_keys_Out_1 (v 0) a0
theorem V.keys_sides_by_keys_Out_1.l11010.of a0 x0 x1 {r} (h : F.keys_sides_by_keys_Out_1.l11010.B V.keys_Out_1 V.keys_Of V.keys_sides_by_keys_Out_1.l11010 V.keys_row a0 x0 x1 = some r) : V.keys_sides_by_keys_Out_1.l11010 a0 x0 x1 = some r :=
  App.to (App.step 1 (fun v => F.keys_sides_by_keys_Out_1.l11010.eq (v 0) (v 1) a0 x0 x1) (by unfold F.keys_sides_by_keys_Out_1.l11010.B; repeat' first | exact App.val | exact App.no | exact App.lim | apply App.cond | apply App.guard | apply App.meet | apply App.ite | refine App.bind ?_ fun _ => ?_)) h
theorem V.keys_sides_by_keys_Out_1.of a0 {r} (h : F.keys_sides_by_keys_Out_1.B V.keys_sides_by_keys_Out_1.l11010 a0 = some r) : V.keys_sides_by_keys_Out_1 a0 = some r :=
  App.to (App.step 0 (fun v => F.keys_sides_by_keys_Out_1.eq (v 0) a0) (by unfold F.keys_sides_by_keys_Out_1.B; repeat' first | exact App.val | exact App.no | exact App.lim | exact (App.enter 1 App.lim) | apply App.cond | apply App.guard | apply App.meet | apply App.ite | refine App.bind ?_ fun _ => ?_)) h
noncomputable def F.keys_Out (K : Nat) (a0 : List TEdge) : Option ((List TEntry) × Int) := evFn Try.prog sg K 50 [.sc (.list sEdge a0 false)] []
noncomputable def F.keys_Out.B (c0 : (List TEdge) → Option ((List TEntry) × Int)) (a0 : List TEdge) : Option ((List TEntry) × Int) :=
    ((c0 a0).bind fun t0 => (some (t0.1, t0.2)))
theorem F.keys_Out.eq K a0 : F.keys_Out (K + 1) a0 = F.keys_Out.B (F.keys_sides_by_keys_Out_1 K) a0 := by kernel_rfl
noncomputable def V.keys_Out (a0 : List TEdge) := lim fun v => F.keys_Out (v 0) a0
theorem V.keys_Out.of a0 {r} (h : F.keys_Out.B V.keys_sides_by_keys_Out_1 a0 = some r) : V.keys_Out a0 = some r :=
  App.to (App.step 0 (fun v => F.keys_Out.eq (v 0) a0) (by unfold F.keys_Out.B; repeat' first | exact App.val | exact App.no | exact App.lim | apply App.cond | apply App.guard | apply App.meet | apply App.ite | refine App.bind ?_ fun _ => ?_)) h
noncomputable def F.keys_In_1 (K : Nat) (a0 : TEdge) : Option (ByteArray × ByteArray) := evFn Try.prog sg K 99 [.agg [.val (.string a0.1), .val (.string a0.2.1), .val (.string a0.2.2.1), .list .str a0.2.2.2.1 false, .list sProp a0.2.2.2.2 false]] []
noncomputable def F.keys_In_1.B (a0 : TEdge) : Option (ByteArray × ByteArray) :=
    (some (a0.2.2.1, a0.2.1))
theorem F.keys_In_1.eq K a0 : F.keys_In_1 (K + 1) a0 = F.keys_In_1.B a0 := by kernel_rfl
noncomputable def V.keys_In_1 (a0 : TEdge) := lim fun v => F.keys_In_1 (v 0) a0
theorem V.keys_In_1.of a0 {r} (h : F.keys_In_1.B a0 = some r) : V.keys_In_1 a0 = some r :=
  App.to (App.step 0 (fun v => F.keys_In_1.eq (v 0) a0) (by unfold F.keys_In_1.B; repeat' first | exact App.val | exact App.no | exact App.lim | apply App.cond | apply App.guard | apply App.meet | apply App.ite | refine App.bind ?_ fun _ => ?_)) h
noncomputable def F.keys_sides_by_keys_In_1 (K : Nat) (a0 : List TEdge) : Option ((List TEntry) × Int) := evFn Try.prog sg K 97 [.sc (.list sEdge a0 false), .sc (.fn 99 [])] []
noncomputable def F.keys_sides_by_keys_In_1.at (K : Nat) (p ns : List Nat) (s : St) : Option ((List TEntry) × Int) := atFn Try.prog sg K 97 0 p ns s
noncomputable def F.keys_sides_by_keys_In_1.in (K : Nat) (H : List Nat → List Nat → St → Option ((List TEntry) × Int)) (p ns : List Nat) (s : St) : Option ((List TEntry) × Int) := inFn Try.prog sg K 97 0 [] H p ns s
theorem F.keys_sides_by_keys_In_1.in_eq K p ns s : F.keys_sides_by_keys_In_1.at K p ns s = F.keys_sides_by_keys_In_1.in K (F.keys_sides_by_keys_In_1.at K) p ns s := atFn_eq (P := Try.prog) (sg := sg) (K := K) (f := 97) (m := 0) [] p ns s
theorem F.keys_sides_by_keys_In_1.in_main K a0 : F.keys_sides_by_keys_In_1 (K + 1) a0 = F.keys_sides_by_keys_In_1.in K (F.keys_sides_by_keys_In_1.at K) [] [] ⟨slots [.sc (.list sEdge a0 false), .sc (.fn 99 [])] 0, []⟩ := evFn_eq (P := Try.prog) (sg := sg) (K := K) (f := 97) (args := [.sc (.list sEdge a0 false), .sc (.fn 99 [])]) (σ := []) [] (by kernel_rfl)
def F.keys_sides_by_keys_In_1.l11010.st (a0 : List TEdge) (x0 : Int) (x1 : List TEntry) : St := ⟨[(1, .one (.sc (.fn 99 []))), (6, .one (.sc (.own 0 none))), (13, vL sEdge a0), (14, vI (a0.length : Int)), (15, vI x0)], [.elems sEntry x1]⟩
noncomputable def F.keys_sides_by_keys_In_1.l11010 (K n0 : Nat) (a0 : List TEdge) (x0 : Int) (x1 : List TEntry) := F.keys_sides_by_keys_In_1.at K [1, 1, 0, 1, 0] [n0] (F.keys_sides_by_keys_In_1.l11010.st a0 x0 x1)
noncomputable def F.keys_sides_by_keys_In_1.l11010.B (c0 : (TEdge) → Option (ByteArray × ByteArray)) (c1 : (ByteArray) → (ByteArray) → Option (ByteArray × Int)) (c2 : (List TEdge) → (Int) → (List TEntry) → Option ((List TEntry) × Int)) (c3 : (List TEntry) → Option ((List TEntry))) (a0 : List TEdge) (x0 : Int) (x1 : List TEntry) : Option ((List TEntry) × Int) :=
    (bif (decide (x0 < (a0.length : Int))) then (guardK (decide (0 ≤ x0) && decide (x0 < (a0.length : Int))) ((c0 ((rd sEdge a0 x0.toNat).1, ((rd sEdge a0 x0.toNat).2).1, (((rd sEdge a0 x0.toNat).2).2).1, ((((rd sEdge a0 x0.toNat).2).2).2).1, ((((rd sEdge a0 x0.toNat).2).2).2).2)).bind fun t0 => ((c1 t0.1 ((rd sEdge a0 x0.toNat).1)).bind fun t1 => (bif (t1.2 != 0) then (some ([], t1.2)) else (guardK (decide (x1.length + ([(t1.1, t0.2)]).length ≤ nmax)) (c2 a0 (w64 (x0 + 1)) (x1 ++ [(t1.1, t0.2)]))))))) else ((c3 x1).bind fun t2 => (some (t2, 0))))
theorem F.keys_sides_by_keys_In_1.l11010.eq K n0 a0 x0 x1 : F.keys_sides_by_keys_In_1.l11010 K (n0 + 1) a0 x0 x1 = F.keys_sides_by_keys_In_1.l11010.B (F.keys_In_1 K) (F.keys_Of K) (F.keys_sides_by_keys_In_1.l11010 K n0) (F.keys_row K) a0 x0 x1 := (F.keys_sides_by_keys_In_1.in_eq K [1, 1, 0, 1, 0] [n0 + 1] (F.keys_sides_by_keys_In_1.l11010.st a0 x0 x1)).trans ((show ∀ H, F.keys_sides_by_keys_In_1.in K H [1, 1, 0, 1, 0] [n0 + 1] (F.keys_sides_by_keys_In_1.l11010.st a0 x0 x1) = F.keys_sides_by_keys_In_1.l11010.B (F.keys_In_1 K) (F.keys_Of K) (fun a0 x0 x1 => H [1, 1, 0, 1, 0] [n0] (F.keys_sides_by_keys_In_1.l11010.st a0 x0 x1)) (F.keys_row K) a0 x0 x1 from by intro H; kernel_rfl) (F.keys_sides_by_keys_In_1.at K))
noncomputable def F.keys_sides_by_keys_In_1.B (c0 : (List TEdge) → (Int) → (List TEntry) → Option ((List TEntry) × Int)) (a0 : List TEdge) : Option ((List TEntry) × Int) :=
    (c0 a0 0 ([]))
theorem F.keys_sides_by_keys_In_1.eq K a0 : F.keys_sides_by_keys_In_1 (K + 1) a0 = F.keys_sides_by_keys_In_1.B (F.keys_sides_by_keys_In_1.l11010 K K) a0 := (F.keys_sides_by_keys_In_1.in_main K a0).trans ((show ∀ H, F.keys_sides_by_keys_In_1.in K H [] [] ⟨slots [.sc (.list sEdge a0 false), .sc (.fn 99 [])] 0, []⟩ = F.keys_sides_by_keys_In_1.B (fun a0 x0 x1 => H [1, 1, 0, 1, 0] [K] (F.keys_sides_by_keys_In_1.l11010.st a0 x0 x1)) a0 from by intro H; kernel_rfl) (F.keys_sides_by_keys_In_1.at K))
noncomputable def V.keys_sides_by_keys_In_1.l11010 (a0 : List TEdge) (x0 : Int) (x1 : List TEntry) := lim fun v => F.keys_sides_by_keys_In_1.l11010 (v 0) (v 1) a0 x0 x1
noncomputable def V.keys_sides_by_keys_In_1 (a0 : List TEdge) := lim fun v => F.keys_sides_by_keys_In_1 (v 0) a0
theorem V.keys_sides_by_keys_In_1.l11010.of a0 x0 x1 {r} (h : F.keys_sides_by_keys_In_1.l11010.B V.keys_In_1 V.keys_Of V.keys_sides_by_keys_In_1.l11010 V.keys_row a0 x0 x1 = some r) : V.keys_sides_by_keys_In_1.l11010 a0 x0 x1 = some r :=
  App.to (App.step 1 (fun v => F.keys_sides_by_keys_In_1.l11010.eq (v 0) (v 1) a0 x0 x1) (by unfold F.keys_sides_by_keys_In_1.l11010.B; repeat' first | exact App.val | exact App.no | exact App.lim | apply App.cond | apply App.guard | apply App.meet | apply App.ite | refine App.bind ?_ fun _ => ?_)) h
theorem V.keys_sides_by_keys_In_1.of a0 {r} (h : F.keys_sides_by_keys_In_1.B V.keys_sides_by_keys_In_1.l11010 a0 = some r) : V.keys_sides_by_keys_In_1 a0 = some r :=
  App.to (App.step 0 (fun v => F.keys_sides_by_keys_In_1.eq (v 0) a0) (by unfold F.keys_sides_by_keys_In_1.B; repeat' first | exact App.val | exact App.no | exact App.lim | exact (App.enter 1 App.lim) | apply App.cond | apply App.guard | apply App.meet | apply App.ite | refine App.bind ?_ fun _ => ?_)) h
noncomputable def F.keys_In (K : Nat) (a0 : List TEdge) : Option ((List TEntry) × Int) := evFn Try.prog sg K 51 [.sc (.list sEdge a0 false)] []
noncomputable def F.keys_In.B (c0 : (List TEdge) → Option ((List TEntry) × Int)) (a0 : List TEdge) : Option ((List TEntry) × Int) :=
    ((c0 a0).bind fun t0 => (some (t0.1, t0.2)))
theorem F.keys_In.eq K a0 : F.keys_In (K + 1) a0 = F.keys_In.B (F.keys_sides_by_keys_In_1 K) a0 := by kernel_rfl
noncomputable def V.keys_In (a0 : List TEdge) := lim fun v => F.keys_In (v 0) a0
theorem V.keys_In.of a0 {r} (h : F.keys_In.B V.keys_sides_by_keys_In_1 a0 = some r) : V.keys_In a0 = some r :=
  App.to (App.step 0 (fun v => F.keys_In.eq (v 0) a0) (by unfold F.keys_In.B; repeat' first | exact App.val | exact App.no | exact App.lim | apply App.cond | apply App.guard | apply App.meet | apply App.ite | refine App.bind ?_ fun _ => ?_)) h
noncomputable def F.keys_Lay (K : Nat) (a0 : TGraph) : Option (((List TEntry) × ((List TEntry) × ((List TEntry) × (List TEntry)))) × Int) := evFn Try.prog sg K 45 [.agg [.list sNode a0.1 false, .list sEdge a0.2 false]] []
noncomputable def F.keys_Lay.B (c0 : (List TNode) → Option ((List TEntry) × Int)) (c1 : (List TEdge) → Option ((List TEntry) × Int)) (c2 : (List TEdge) → Option ((List TEntry) × Int)) (c3 : (List TEdge) → Option ((List TEntry) × Int)) (a0 : TGraph) : Option (((List TEntry) × ((List TEntry) × ((List TEntry) × (List TEntry)))) × Int) :=
    ((c0 a0.1).bind fun t0 => (bif (t0.2 != 0) then (some (([], [], [], []), t0.2)) else ((c1 a0.2).bind fun t1 => (bif (t1.2 != 0) then (some (([], [], [], []), t1.2)) else ((c2 a0.2).bind fun t2 => ((c3 a0.2).bind fun t3 => (some ((t0.1, t1.1, t2.1, t3.1), 0))))))))
theorem F.keys_Lay.eq K a0 : F.keys_Lay (K + 1) a0 = F.keys_Lay.B (F.keys_Nodes K) (F.keys_Edges K) (F.keys_Out K) (F.keys_In K) a0 := by kernel_rfl
noncomputable def V.keys_Lay (a0 : TGraph) := lim fun v => F.keys_Lay (v 0) a0
theorem V.keys_Lay.of a0 {r} (h : F.keys_Lay.B V.keys_Nodes V.keys_Edges V.keys_Out V.keys_In a0 = some r) : V.keys_Lay a0 = some r :=
  App.to (App.step 0 (fun v => F.keys_Lay.eq (v 0) a0) (by unfold F.keys_Lay.B; repeat' first | exact App.val | exact App.no | exact App.lim | apply App.cond | apply App.guard | apply App.meet | apply App.ite | refine App.bind ?_ fun _ => ?_)) h
noncomputable def F.pleachref05_Is (K : Nat) (a0 : ByteArray) : Option (Bool) := evFn Try.prog sg K 71 [.sc (.val (.string a0))] []
noncomputable def F.pleachref05_Is.at (K : Nat) (p ns : List Nat) (s : St) : Option (Bool) := atFn Try.prog sg K 71 0 p ns s
noncomputable def F.pleachref05_Is.in (K : Nat) (H : List Nat → List Nat → St → Option (Bool)) (p ns : List Nat) (s : St) : Option (Bool) := inFn Try.prog sg K 71 0 [] H p ns s
theorem F.pleachref05_Is.in_eq K p ns s : F.pleachref05_Is.at K p ns s = F.pleachref05_Is.in K (F.pleachref05_Is.at K) p ns s := atFn_eq (P := Try.prog) (sg := sg) (K := K) (f := 71) (m := 0) [] p ns s
theorem F.pleachref05_Is.in_main K a0 : F.pleachref05_Is (K + 1) a0 = F.pleachref05_Is.in K (F.pleachref05_Is.at K) [] [] ⟨slots [.sc (.val (.string a0))] 0, []⟩ := evFn_eq (P := Try.prog) (sg := sg) (K := K) (f := 71) (args := [.sc (.val (.string a0))]) (σ := []) [] (by kernel_rfl)
def F.pleachref05_Is.l1010.st (a0 : ByteArray) (x0 : Int) : St := ⟨[(0, vS a0), (3, vI x0)], []⟩
noncomputable def F.pleachref05_Is.l1010 (K n0 : Nat) (a0 : ByteArray) (x0 : Int) := F.pleachref05_Is.at K [1, 0, 1, 0] [n0] (F.pleachref05_Is.l1010.st a0 x0)
noncomputable def F.pleachref05_Is.l1010.B (c0 : (ByteArray) → (Int) → Option (Bool)) (a0 : ByteArray) (x0 : Int) : Option (Bool) :=
    (bif (decide (x0 < (a0.size : Int))) then (guardK (decide (0 ≤ x0) && decide (x0 < (a0.size : Int))) (bif (decide ((byteAt a0 x0) ≥ 97)) then (guardK (decide (0 ≤ x0) && decide (x0 < (a0.size : Int))) (guardK (decide (0 ≤ x0) && decide (x0 < (a0.size : Int))) (bif (decide ((byteAt a0 x0) ≥ 48)) then (guardK (decide (0 ≤ x0) && decide (x0 < (a0.size : Int))) (bif (!(decide ((byteAt a0 x0) ≤ 122))) then (bif (!(decide ((byteAt a0 x0) ≤ 57))) then (guardK (decide (0 ≤ x0) && decide (x0 < (a0.size : Int))) (bif ((byteAt a0 x0) != 45) then (some false) else (c0 a0 (w64 (x0 + 1))))) else (c0 a0 (w64 (x0 + 1)))) else (c0 a0 (w64 (x0 + 1))))) else (bif (!(decide ((byteAt a0 x0) ≤ 122))) then (guardK (decide (0 ≤ x0) && decide (x0 < (a0.size : Int))) (bif ((byteAt a0 x0) != 45) then (some false) else (c0 a0 (w64 (x0 + 1))))) else (c0 a0 (w64 (x0 + 1))))))) else (guardK (decide (0 ≤ x0) && decide (x0 < (a0.size : Int))) (bif (decide ((byteAt a0 x0) ≥ 48)) then (guardK (decide (0 ≤ x0) && decide (x0 < (a0.size : Int))) (bif (!(decide ((byteAt a0 x0) ≤ 57))) then (guardK (decide (0 ≤ x0) && decide (x0 < (a0.size : Int))) (bif ((byteAt a0 x0) != 45) then (some false) else (c0 a0 (w64 (x0 + 1))))) else (c0 a0 (w64 (x0 + 1))))) else (guardK (decide (0 ≤ x0) && decide (x0 < (a0.size : Int))) (bif ((byteAt a0 x0) != 45) then (some false) else (c0 a0 (w64 (x0 + 1))))))))) else (bif (decide ((a0.size : Int) ≥ 1)) then (some (decide ((a0.size : Int) ≤ 12))) else (some false)))
theorem F.pleachref05_Is.l1010.eq K n0 a0 x0 : F.pleachref05_Is.l1010 K (n0 + 1) a0 x0 = F.pleachref05_Is.l1010.B (F.pleachref05_Is.l1010 K n0) a0 x0 := (F.pleachref05_Is.in_eq K [1, 0, 1, 0] [n0 + 1] (F.pleachref05_Is.l1010.st a0 x0)).trans ((show ∀ H, F.pleachref05_Is.in K H [1, 0, 1, 0] [n0 + 1] (F.pleachref05_Is.l1010.st a0 x0) = F.pleachref05_Is.l1010.B (fun a0 x0 => H [1, 0, 1, 0] [n0] (F.pleachref05_Is.l1010.st a0 x0)) a0 x0 from by intro H; kernel_rfl) (F.pleachref05_Is.at K))
noncomputable def F.pleachref05_Is.B (c0 : (ByteArray) → (Int) → Option (Bool)) (a0 : ByteArray) : Option (Bool) :=
    (c0 a0 0)
theorem F.pleachref05_Is.eq K a0 : F.pleachref05_Is (K + 1) a0 = F.pleachref05_Is.B (F.pleachref05_Is.l1010 K K) a0 := (F.pleachref05_Is.in_main K a0).trans ((show ∀ H, F.pleachref05_Is.in K H [] [] ⟨slots [.sc (.val (.string a0))] 0, []⟩ = F.pleachref05_Is.B (fun a0 x0 => H [1, 0, 1, 0] [K] (F.pleachref05_Is.l1010.st a0 x0)) a0 from by intro H; kernel_rfl) (F.pleachref05_Is.at K))
noncomputable def V.pleachref05_Is.l1010 (a0 : ByteArray) (x0 : Int) := lim fun v => F.pleachref05_Is.l1010 (v 0) (v 1) a0 x0
noncomputable def V.pleachref05_Is (a0 : ByteArray) := lim fun v => F.pleachref05_Is (v 0) a0
theorem V.pleachref05_Is.l1010.of a0 x0 {r} (h : F.pleachref05_Is.l1010.B V.pleachref05_Is.l1010 a0 x0 = some r) : V.pleachref05_Is.l1010 a0 x0 = some r :=
  App.to (App.step 1 (fun v => F.pleachref05_Is.l1010.eq (v 0) (v 1) a0 x0) (by unfold F.pleachref05_Is.l1010.B; repeat' first | exact App.val | exact App.no | exact App.lim | apply App.cond | apply App.guard | apply App.meet | apply App.ite | refine App.bind ?_ fun _ => ?_)) h
theorem V.pleachref05_Is.of a0 {r} (h : F.pleachref05_Is.B V.pleachref05_Is.l1010 a0 = some r) : V.pleachref05_Is a0 = some r :=
  App.to (App.step 0 (fun v => F.pleachref05_Is.eq (v 0) a0) (by unfold F.pleachref05_Is.B; repeat' first | exact App.val | exact App.no | exact App.lim | exact (App.enter 1 App.lim) | apply App.cond | apply App.guard | apply App.meet | apply App.ite | refine App.bind ?_ fun _ => ?_)) h
noncomputable def F.pleachref05_Row (K : Nat) (a0 : List ByteArray) : Option (Int) := evFn Try.prog sg K 155 [.sc (.list .str a0 false)] []
noncomputable def F.pleachref05_Row.at (K : Nat) (p ns : List Nat) (s : St) : Option (Int) := atFn Try.prog sg K 155 0 p ns s
noncomputable def F.pleachref05_Row.in (K : Nat) (H : List Nat → List Nat → St → Option (Int)) (p ns : List Nat) (s : St) : Option (Int) := inFn Try.prog sg K 155 0 [] H p ns s
theorem F.pleachref05_Row.in_eq K p ns s : F.pleachref05_Row.at K p ns s = F.pleachref05_Row.in K (F.pleachref05_Row.at K) p ns s := atFn_eq (P := Try.prog) (sg := sg) (K := K) (f := 155) (m := 0) [] p ns s
theorem F.pleachref05_Row.in_main K a0 : F.pleachref05_Row (K + 1) a0 = F.pleachref05_Row.in K (F.pleachref05_Row.at K) [] [] ⟨slots [.sc (.list .str a0 false)] 0, []⟩ := evFn_eq (P := Try.prog) (sg := sg) (K := K) (f := 155) (args := [.sc (.list .str a0 false)]) (σ := []) [] (by kernel_rfl)
def F.pleachref05_Row.l1010.st (a0 : List ByteArray) (x0 : Int) : St := ⟨[(0, vL .str a0), (3, vI x0)], []⟩
noncomputable def F.pleachref05_Row.l1010 (K n0 : Nat) (a0 : List ByteArray) (x0 : Int) := F.pleachref05_Row.at K [1, 0, 1, 0] [n0] (F.pleachref05_Row.l1010.st a0 x0)
noncomputable def F.pleachref05_Row.l1010.B (c0 : (ByteArray) → Option (Bool)) (c1 : (List ByteArray) → (Int) → Option (Int)) (a0 : List ByteArray) (x0 : Int) : Option (Int) :=
    (bif (decide (x0 < (a0.length : Int))) then (guardK (decide (0 ≤ x0) && decide (x0 < (a0.length : Int))) ((c0 (rd .str a0 x0.toNat)).bind fun t0 => (bif (!t0) then (some 2) else (bif (decide (x0 > 0)) then (guardK (decide (0 ≤ x0) && decide (x0 < (a0.length : Int))) (guardK (decide (0 ≤ (w64 (x0 - 1))) && decide ((w64 (x0 - 1)) < (a0.length : Int))) (bif (strLt (rd .str a0 x0.toNat) (rd .str a0 ((w64 (x0 - 1)).toNat)) || strEq (rd .str a0 x0.toNat) (rd .str a0 ((w64 (x0 - 1)).toNat))) then (some 4) else (c1 a0 (w64 (x0 + 1)))))) else (c1 a0 (w64 (x0 + 1))))))) else (some 0))
theorem F.pleachref05_Row.l1010.eq K n0 a0 x0 : F.pleachref05_Row.l1010 K (n0 + 1) a0 x0 = F.pleachref05_Row.l1010.B (F.pleachref05_Is K) (F.pleachref05_Row.l1010 K n0) a0 x0 := (F.pleachref05_Row.in_eq K [1, 0, 1, 0] [n0 + 1] (F.pleachref05_Row.l1010.st a0 x0)).trans ((show ∀ H, F.pleachref05_Row.in K H [1, 0, 1, 0] [n0 + 1] (F.pleachref05_Row.l1010.st a0 x0) = F.pleachref05_Row.l1010.B (F.pleachref05_Is K) (fun a0 x0 => H [1, 0, 1, 0] [n0] (F.pleachref05_Row.l1010.st a0 x0)) a0 x0 from by intro H; kernel_rfl) (F.pleachref05_Row.at K))
noncomputable def F.pleachref05_Row.B (c0 : (List ByteArray) → (Int) → Option (Int)) (a0 : List ByteArray) : Option (Int) :=
    (c0 a0 0)
theorem F.pleachref05_Row.eq K a0 : F.pleachref05_Row (K + 1) a0 = F.pleachref05_Row.B (F.pleachref05_Row.l1010 K K) a0 := (F.pleachref05_Row.in_main K a0).trans ((show ∀ H, F.pleachref05_Row.in K H [] [] ⟨slots [.sc (.list .str a0 false)] 0, []⟩ = F.pleachref05_Row.B (fun a0 x0 => H [1, 0, 1, 0] [K] (F.pleachref05_Row.l1010.st a0 x0)) a0 from by intro H; kernel_rfl) (F.pleachref05_Row.at K))
noncomputable def V.pleachref05_Row.l1010 (a0 : List ByteArray) (x0 : Int) := lim fun v => F.pleachref05_Row.l1010 (v 0) (v 1) a0 x0
noncomputable def V.pleachref05_Row (a0 : List ByteArray) := lim fun v => F.pleachref05_Row (v 0) a0
theorem V.pleachref05_Row.l1010.of a0 x0 {r} (h : F.pleachref05_Row.l1010.B V.pleachref05_Is V.pleachref05_Row.l1010 a0 x0 = some r) : V.pleachref05_Row.l1010 a0 x0 = some r :=
  App.to (App.step 1 (fun v => F.pleachref05_Row.l1010.eq (v 0) (v 1) a0 x0) (by unfold F.pleachref05_Row.l1010.B; repeat' first | exact App.val | exact App.no | exact App.lim | apply App.cond | apply App.guard | apply App.meet | apply App.ite | refine App.bind ?_ fun _ => ?_)) h
theorem V.pleachref05_Row.of a0 {r} (h : F.pleachref05_Row.B V.pleachref05_Row.l1010 a0 = some r) : V.pleachref05_Row a0 = some r :=
  App.to (App.step 0 (fun v => F.pleachref05_Row.eq (v 0) a0) (by unfold F.pleachref05_Row.B; repeat' first | exact App.val | exact App.no | exact App.lim | exact (App.enter 1 App.lim) | apply App.cond | apply App.guard | apply App.meet | apply App.ite | refine App.bind ?_ fun _ => ?_)) h
noncomputable def F.pleachref06_Is (K : Nat) (a0 : TValue) : Option (Bool) := evFn Try.prog sg K 72 [.agg [.val (.int .i64 a0.1), .val (.int .i64 a0.2.1), .val (.string a0.2.2)]] []
noncomputable def F.pleachref06_Is.B (a0 : TValue) : Option (Bool) :=
    (bif (a0.1 == 1) then (bif (decide (a0.2.1 ≥ 0)) then (bif (decide (a0.2.1 ≤ 1)) then (some (strEq a0.2.2 (⟨#[]⟩ : ByteArray))) else (some false)) else (some false)) else (bif (a0.1 == 2) then (some (strEq a0.2.2 (⟨#[]⟩ : ByteArray))) else (bif (a0.1 == 3) then (bif (a0.2.1 == 0) then (some (decide ((a0.2.2.size : Int) ≤ 64))) else (some false)) else (some false))))
theorem F.pleachref06_Is.eq K a0 : F.pleachref06_Is (K + 1) a0 = F.pleachref06_Is.B a0 := by kernel_rfl
noncomputable def V.pleachref06_Is (a0 : TValue) := lim fun v => F.pleachref06_Is (v 0) a0
theorem V.pleachref06_Is.of a0 {r} (h : F.pleachref06_Is.B a0 = some r) : V.pleachref06_Is a0 = some r :=
  App.to (App.step 0 (fun v => F.pleachref06_Is.eq (v 0) a0) (by unfold F.pleachref06_Is.B; repeat' first | exact App.val | exact App.no | exact App.lim | apply App.cond | apply App.guard | apply App.meet | apply App.ite | refine App.bind ?_ fun _ => ?_)) h
noncomputable def F.pleachref25_Props (K : Nat) (a0 : List TProp) : Option (Int) := evFn Try.prog sg K 156 [.sc (.list sProp a0 false)] []
noncomputable def F.pleachref25_Props.at (K : Nat) (p ns : List Nat) (s : St) : Option (Int) := atFn Try.prog sg K 156 0 p ns s
noncomputable def F.pleachref25_Props.in (K : Nat) (H : List Nat → List Nat → St → Option (Int)) (p ns : List Nat) (s : St) : Option (Int) := inFn Try.prog sg K 156 0 [] H p ns s
theorem F.pleachref25_Props.in_eq K p ns s : F.pleachref25_Props.at K p ns s = F.pleachref25_Props.in K (F.pleachref25_Props.at K) p ns s := atFn_eq (P := Try.prog) (sg := sg) (K := K) (f := 156) (m := 0) [] p ns s
theorem F.pleachref25_Props.in_main K a0 : F.pleachref25_Props (K + 1) a0 = F.pleachref25_Props.in K (F.pleachref25_Props.at K) [] [] ⟨slots [.sc (.list sProp a0 false)] 0, []⟩ := evFn_eq (P := Try.prog) (sg := sg) (K := K) (f := 156) (args := [.sc (.list sProp a0 false)]) (σ := []) [] (by kernel_rfl)
def F.pleachref25_Props.l11010.st (a0 : List TProp) (x0 : Int) : St := ⟨[(0, vL sProp a0), (3, vI x0)], []⟩
noncomputable def F.pleachref25_Props.l11010 (K n0 : Nat) (a0 : List TProp) (x0 : Int) := F.pleachref25_Props.at K [1, 1, 0, 1, 0] [n0] (F.pleachref25_Props.l11010.st a0 x0)
noncomputable def F.pleachref25_Props.l11010.B (c0 : (ByteArray) → Option (Bool)) (c1 : (TValue) → Option (Bool)) (c2 : (List TProp) → (Int) → Option (Int)) (a0 : List TProp) (x0 : Int) : Option (Int) :=
    (bif (decide (x0 < (a0.length : Int))) then (guardK (decide (0 ≤ x0) && decide (x0 < (a0.length : Int))) ((c0 ((rd sProp a0 x0.toNat).1)).bind fun t0 => (bif (!t0) then (some 2) else (guardK (decide (0 ≤ x0) && decide (x0 < (a0.length : Int))) ((c1 (((rd sProp a0 x0.toNat).2).1, (((rd sProp a0 x0.toNat).2).2).1, (((rd sProp a0 x0.toNat).2).2).2)).bind fun t1 => (bif (!t1) then (some 2) else (bif (decide (x0 > 0)) then (guardK (decide (0 ≤ x0) && decide (x0 < (a0.length : Int))) (guardK (decide (0 ≤ (w64 (x0 - 1))) && decide ((w64 (x0 - 1)) < (a0.length : Int))) (bif (strLt ((rd sProp a0 x0.toNat).1) ((rd sProp a0 ((w64 (x0 - 1)).toNat)).1) || strEq ((rd sProp a0 x0.toNat).1) ((rd sProp a0 ((w64 (x0 - 1)).toNat)).1)) then (some 4) else (c2 a0 (w64 (x0 + 1)))))) else (c2 a0 (w64 (x0 + 1)))))))))) else (some 0))
theorem F.pleachref25_Props.l11010.eq K n0 a0 x0 : F.pleachref25_Props.l11010 K (n0 + 1) a0 x0 = F.pleachref25_Props.l11010.B (F.pleachref05_Is K) (F.pleachref06_Is K) (F.pleachref25_Props.l11010 K n0) a0 x0 := (F.pleachref25_Props.in_eq K [1, 1, 0, 1, 0] [n0 + 1] (F.pleachref25_Props.l11010.st a0 x0)).trans ((show ∀ H, F.pleachref25_Props.in K H [1, 1, 0, 1, 0] [n0 + 1] (F.pleachref25_Props.l11010.st a0 x0) = F.pleachref25_Props.l11010.B (F.pleachref05_Is K) (F.pleachref06_Is K) (fun a0 x0 => H [1, 1, 0, 1, 0] [n0] (F.pleachref25_Props.l11010.st a0 x0)) a0 x0 from by intro H; kernel_rfl) (F.pleachref25_Props.at K))
noncomputable def F.pleachref25_Props.B (c0 : (List TProp) → (Int) → Option (Int)) (a0 : List TProp) : Option (Int) :=
    (bif (decide ((a0.length : Int) > 8)) then (some 5) else (c0 a0 0))
theorem F.pleachref25_Props.eq K a0 : F.pleachref25_Props (K + 1) a0 = F.pleachref25_Props.B (F.pleachref25_Props.l11010 K K) a0 := (F.pleachref25_Props.in_main K a0).trans ((show ∀ H, F.pleachref25_Props.in K H [] [] ⟨slots [.sc (.list sProp a0 false)] 0, []⟩ = F.pleachref25_Props.B (fun a0 x0 => H [1, 1, 0, 1, 0] [K] (F.pleachref25_Props.l11010.st a0 x0)) a0 from by intro H; kernel_rfl) (F.pleachref25_Props.at K))
noncomputable def V.pleachref25_Props.l11010 (a0 : List TProp) (x0 : Int) := lim fun v => F.pleachref25_Props.l11010 (v 0) (v 1) a0 x0
noncomputable def V.pleachref25_Props (a0 : List TProp) := lim fun v => F.pleachref25_Props (v 0) a0
theorem V.pleachref25_Props.l11010.of a0 x0 {r} (h : F.pleachref25_Props.l11010.B V.pleachref05_Is V.pleachref06_Is V.pleachref25_Props.l11010 a0 x0 = some r) : V.pleachref25_Props.l11010 a0 x0 = some r :=
  App.to (App.step 1 (fun v => F.pleachref25_Props.l11010.eq (v 0) (v 1) a0 x0) (by unfold F.pleachref25_Props.l11010.B; repeat' first | exact App.val | exact App.no | exact App.lim | apply App.cond | apply App.guard | apply App.meet | apply App.ite | refine App.bind ?_ fun _ => ?_)) h
theorem V.pleachref25_Props.of a0 {r} (h : F.pleachref25_Props.B V.pleachref25_Props.l11010 a0 = some r) : V.pleachref25_Props a0 = some r :=
  App.to (App.step 0 (fun v => F.pleachref25_Props.eq (v 0) a0) (by unfold F.pleachref25_Props.B; repeat' first | exact App.val | exact App.no | exact App.lim | exact (App.enter 1 App.lim) | apply App.cond | apply App.guard | apply App.meet | apply App.ite | refine App.bind ?_ fun _ => ?_)) h
noncomputable def F.pleachref25_rest (K : Nat) (a0 : List ByteArray) (a1 : List TProp) : Option (Int) := evFn Try.prog sg K 119 [.sc (.list .str a0 false), .sc (.list sProp a1 false)] []
noncomputable def F.pleachref25_rest.B (c0 : (List ByteArray) → Option (Int)) (c1 : (List TProp) → Option (Int)) (a0 : List ByteArray) (a1 : List TProp) : Option (Int) :=
    (bif (decide ((a0.length : Int) > 8)) then (some 5) else ((c0 a0).bind fun t0 => (bif (t0 != 0) then (some t0) else ((c1 a1).bind fun t1 => (some t1)))))
theorem F.pleachref25_rest.eq K a0 a1 : F.pleachref25_rest (K + 1) a0 a1 = F.pleachref25_rest.B (F.pleachref05_Row K) (F.pleachref25_Props K) a0 a1 := by kernel_rfl
noncomputable def V.pleachref25_rest (a0 : List ByteArray) (a1 : List TProp) := lim fun v => F.pleachref25_rest (v 0) a0 a1
theorem V.pleachref25_rest.of a0 a1 {r} (h : F.pleachref25_rest.B V.pleachref05_Row V.pleachref25_Props a0 a1 = some r) : V.pleachref25_rest a0 a1 = some r :=
  App.to (App.step 0 (fun v => F.pleachref25_rest.eq (v 0) a0 a1) (by unfold F.pleachref25_rest.B; repeat' first | exact App.val | exact App.no | exact App.lim | apply App.cond | apply App.guard | apply App.meet | apply App.ite | refine App.bind ?_ fun _ => ?_)) h
noncomputable def F.pleachref25_Node (K : Nat) (a0 : TNode) : Option (Int) := evFn Try.prog sg K 68 [.agg [.val (.string a0.1), .list .str a0.2.1 false, .list sProp a0.2.2 false]] []
noncomputable def F.pleachref25_Node.B (c0 : (ByteArray) → Option (Bool)) (c1 : (List ByteArray) → (List TProp) → Option (Int)) (a0 : TNode) : Option (Int) :=
    ((c0 a0.1).bind fun t0 => (bif (!t0) then (some 2) else ((c1 a0.2.1 a0.2.2).bind fun t1 => (some t1))))
theorem F.pleachref25_Node.eq K a0 : F.pleachref25_Node (K + 1) a0 = F.pleachref25_Node.B (F.pleachref05_Is K) (F.pleachref25_rest K) a0 := by kernel_rfl
noncomputable def V.pleachref25_Node (a0 : TNode) := lim fun v => F.pleachref25_Node (v 0) a0
theorem V.pleachref25_Node.of a0 {r} (h : F.pleachref25_Node.B V.pleachref05_Is V.pleachref25_rest a0 = some r) : V.pleachref25_Node a0 = some r :=
  App.to (App.step 0 (fun v => F.pleachref25_Node.eq (v 0) a0) (by unfold F.pleachref25_Node.B; repeat' first | exact App.val | exact App.no | exact App.lim | apply App.cond | apply App.guard | apply App.meet | apply App.ite | refine App.bind ?_ fun _ => ?_)) h
noncomputable def F.pleachref25_Edge (K : Nat) (a0 : TEdge) : Option (Int) := evFn Try.prog sg K 69 [.agg [.val (.string a0.1), .val (.string a0.2.1), .val (.string a0.2.2.1), .list .str a0.2.2.2.1 false, .list sProp a0.2.2.2.2 false]] []
noncomputable def F.pleachref25_Edge.B (c0 : (ByteArray) → Option (Bool)) (c1 : (List ByteArray) → (List TProp) → Option (Int)) (a0 : TEdge) : Option (Int) :=
    ((c0 a0.1).bind fun t0 => (bif (!t0) then (some 2) else ((c0 a0.2.1).bind fun t1 => (bif (!t1) then (some 2) else ((c0 a0.2.2.1).bind fun t2 => (bif (!t2) then (some 2) else ((c1 a0.2.2.2.1 a0.2.2.2.2).bind fun t3 => (some t3))))))))
theorem F.pleachref25_Edge.eq K a0 : F.pleachref25_Edge (K + 1) a0 = F.pleachref25_Edge.B (F.pleachref05_Is K) (F.pleachref25_rest K) a0 := by kernel_rfl
noncomputable def V.pleachref25_Edge (a0 : TEdge) := lim fun v => F.pleachref25_Edge (v 0) a0
theorem V.pleachref25_Edge.of a0 {r} (h : F.pleachref25_Edge.B V.pleachref05_Is V.pleachref25_rest a0 = some r) : V.pleachref25_Edge a0 = some r :=
  App.to (App.step 0 (fun v => F.pleachref25_Edge.eq (v 0) a0) (by unfold F.pleachref25_Edge.B; repeat' first | exact App.val | exact App.no | exact App.lim | apply App.cond | apply App.guard | apply App.meet | apply App.ite | refine App.bind ?_ fun _ => ?_)) h
noncomputable def F.pleachref26_NodeAt (K : Nat) (a0 : TGraph) (a1 : ByteArray) : Option (Int) := evFn Try.prog sg K 70 [.agg [.list sNode a0.1 false, .list sEdge a0.2 false], .sc (.val (.string a1))] []
noncomputable def F.pleachref26_NodeAt.at (K : Nat) (p ns : List Nat) (s : St) : Option (Int) := atFn Try.prog sg K 70 0 p ns s
noncomputable def F.pleachref26_NodeAt.in (K : Nat) (H : List Nat → List Nat → St → Option (Int)) (p ns : List Nat) (s : St) : Option (Int) := inFn Try.prog sg K 70 0 [] H p ns s
theorem F.pleachref26_NodeAt.in_eq K p ns s : F.pleachref26_NodeAt.at K p ns s = F.pleachref26_NodeAt.in K (F.pleachref26_NodeAt.at K) p ns s := atFn_eq (P := Try.prog) (sg := sg) (K := K) (f := 70) (m := 0) [] p ns s
theorem F.pleachref26_NodeAt.in_main K a0 a1 : F.pleachref26_NodeAt (K + 1) a0 a1 = F.pleachref26_NodeAt.in K (F.pleachref26_NodeAt.at K) [] [] ⟨slots [.agg [.list sNode a0.1 false, .list sEdge a0.2 false], .sc (.val (.string a1))] 0, []⟩ := evFn_eq (P := Try.prog) (sg := sg) (K := K) (f := 70) (args := [.agg [.list sNode a0.1 false, .list sEdge a0.2 false], .sc (.val (.string a1))]) (σ := []) [] (by kernel_rfl)
def F.pleachref26_NodeAt.l1010.st (a0 : TGraph) (a1 : ByteArray) (x0 : Int) : St := ⟨[(1, vS a1), (2, .one (.sc (.ref 0 0))), (5, vI x0)], [.cells 25 [.list sNode a0.1 false, .list sEdge a0.2 false]]⟩
noncomputable def F.pleachref26_NodeAt.l1010 (K n0 : Nat) (a0 : TGraph) (a1 : ByteArray) (x0 : Int) := F.pleachref26_NodeAt.at K [1, 0, 1, 0] [n0] (F.pleachref26_NodeAt.l1010.st a0 a1 x0)
noncomputable def F.pleachref26_NodeAt.l1010.B (c0 : (TGraph) → (ByteArray) → (Int) → Option (Int)) (a0 : TGraph) (a1 : ByteArray) (x0 : Int) : Option (Int) :=
    (bif (decide (x0 < (a0.1.length : Int))) then (guardK (decide (0 ≤ x0) && decide (x0 < (a0.1.length : Int))) (bif (strEq ((rd sNode a0.1 x0.toNat).1) a1) then (some x0) else (c0 a0 a1 (w64 (x0 + 1))))) else (some (-1)))
theorem F.pleachref26_NodeAt.l1010.eq K n0 a0 a1 x0 : F.pleachref26_NodeAt.l1010 K (n0 + 1) a0 a1 x0 = F.pleachref26_NodeAt.l1010.B (F.pleachref26_NodeAt.l1010 K n0) a0 a1 x0 := (F.pleachref26_NodeAt.in_eq K [1, 0, 1, 0] [n0 + 1] (F.pleachref26_NodeAt.l1010.st a0 a1 x0)).trans ((show ∀ H, F.pleachref26_NodeAt.in K H [1, 0, 1, 0] [n0 + 1] (F.pleachref26_NodeAt.l1010.st a0 a1 x0) = F.pleachref26_NodeAt.l1010.B (fun a0 a1 x0 => H [1, 0, 1, 0] [n0] (F.pleachref26_NodeAt.l1010.st a0 a1 x0)) a0 a1 x0 from by intro H; kernel_rfl) (F.pleachref26_NodeAt.at K))
noncomputable def F.pleachref26_NodeAt.B (c0 : (TGraph) → (ByteArray) → (Int) → Option (Int)) (a0 : TGraph) (a1 : ByteArray) : Option (Int) :=
    (c0 a0 a1 0)
theorem F.pleachref26_NodeAt.eq K a0 a1 : F.pleachref26_NodeAt (K + 1) a0 a1 = F.pleachref26_NodeAt.B (F.pleachref26_NodeAt.l1010 K K) a0 a1 := (F.pleachref26_NodeAt.in_main K a0 a1).trans ((show ∀ H, F.pleachref26_NodeAt.in K H [] [] ⟨slots [.agg [.list sNode a0.1 false, .list sEdge a0.2 false], .sc (.val (.string a1))] 0, []⟩ = F.pleachref26_NodeAt.B (fun a0 a1 x0 => H [1, 0, 1, 0] [K] (F.pleachref26_NodeAt.l1010.st a0 a1 x0)) a0 a1 from by intro H; kernel_rfl) (F.pleachref26_NodeAt.at K))
noncomputable def V.pleachref26_NodeAt.l1010 (a0 : TGraph) (a1 : ByteArray) (x0 : Int) := lim fun v => F.pleachref26_NodeAt.l1010 (v 0) (v 1) a0 a1 x0
noncomputable def V.pleachref26_NodeAt (a0 : TGraph) (a1 : ByteArray) := lim fun v => F.pleachref26_NodeAt (v 0) a0 a1
theorem V.pleachref26_NodeAt.l1010.of a0 a1 x0 {r} (h : F.pleachref26_NodeAt.l1010.B V.pleachref26_NodeAt.l1010 a0 a1 x0 = some r) : V.pleachref26_NodeAt.l1010 a0 a1 x0 = some r :=
  App.to (App.step 1 (fun v => F.pleachref26_NodeAt.l1010.eq (v 0) (v 1) a0 a1 x0) (by unfold F.pleachref26_NodeAt.l1010.B; repeat' first | exact App.val | exact App.no | exact App.lim | apply App.cond | apply App.guard | apply App.meet | apply App.ite | refine App.bind ?_ fun _ => ?_)) h
theorem V.pleachref26_NodeAt.of a0 a1 {r} (h : F.pleachref26_NodeAt.B V.pleachref26_NodeAt.l1010 a0 a1 = some r) : V.pleachref26_NodeAt a0 a1 = some r :=
  App.to (App.step 0 (fun v => F.pleachref26_NodeAt.eq (v 0) a0 a1) (by unfold F.pleachref26_NodeAt.B; repeat' first | exact App.val | exact App.no | exact App.lim | exact (App.enter 1 App.lim) | apply App.cond | apply App.guard | apply App.meet | apply App.ite | refine App.bind ?_ fun _ => ?_)) h
noncomputable def F.pleachref26_Wrong (K : Nat) (a0 : TGraph) : Option (Int) := evFn Try.prog sg K 30 [.agg [.list sNode a0.1 false, .list sEdge a0.2 false]] []
noncomputable def F.pleachref26_Wrong.at (K : Nat) (p ns : List Nat) (s : St) : Option (Int) := atFn Try.prog sg K 30 0 p ns s
noncomputable def F.pleachref26_Wrong.in (K : Nat) (H : List Nat → List Nat → St → Option (Int)) (p ns : List Nat) (s : St) : Option (Int) := inFn Try.prog sg K 30 0 [] H p ns s
theorem F.pleachref26_Wrong.in_eq K p ns s : F.pleachref26_Wrong.at K p ns s = F.pleachref26_Wrong.in K (F.pleachref26_Wrong.at K) p ns s := atFn_eq (P := Try.prog) (sg := sg) (K := K) (f := 30) (m := 0) [] p ns s
theorem F.pleachref26_Wrong.in_main K a0 : F.pleachref26_Wrong (K + 1) a0 = F.pleachref26_Wrong.in K (F.pleachref26_Wrong.at K) [] [] ⟨slots [.agg [.list sNode a0.1 false, .list sEdge a0.2 false]] 0, []⟩ := evFn_eq (P := Try.prog) (sg := sg) (K := K) (f := 30) (args := [.agg [.list sNode a0.1 false, .list sEdge a0.2 false]]) (σ := []) [] (by kernel_rfl)
def F.pleachref26_Wrong.l11010.st (a0 : TGraph) (x0 : Int) : St := ⟨[(1, .one (.sc (.ref 0 0))), (3, vI x0)], [.cells 25 [.list sNode a0.1 false, .list sEdge a0.2 false]]⟩
noncomputable def F.pleachref26_Wrong.l11010 (K n0 : Nat) (a0 : TGraph) (x0 : Int) := F.pleachref26_Wrong.at K [1, 1, 0, 1, 0] [n0] (F.pleachref26_Wrong.l11010.st a0 x0)
def F.pleachref26_Wrong.l111010.st (a0 : TGraph) (x0 : Int) : St := ⟨[(1, .one (.sc (.ref 0 0))), (5, vI x0)], [.cells 25 [.list sNode a0.1 false, .list sEdge a0.2 false]]⟩
noncomputable def F.pleachref26_Wrong.l111010 (K n0 : Nat) (a0 : TGraph) (x0 : Int) := F.pleachref26_Wrong.at K [1, 1, 1, 0, 1, 0] [n0] (F.pleachref26_Wrong.l111010.st a0 x0)
noncomputable def F.pleachref26_Wrong.l11010.B (c0 : (TNode) → Option (Int)) (c1 : (TGraph) → (Int) → Option (Int)) (c2 : (TGraph) → (Int) → Option (Int)) (a0 : TGraph) (x0 : Int) : Option (Int) :=
    (bif (decide (x0 < (a0.1.length : Int))) then (guardK (decide (0 ≤ x0) && decide (x0 < (a0.1.length : Int))) ((c0 ((rd sNode a0.1 x0.toNat).1, ((rd sNode a0.1 x0.toNat).2).1, ((rd sNode a0.1 x0.toNat).2).2)).bind fun t0 => (bif (t0 != 0) then (some t0) else (bif (decide (x0 > 0)) then (guardK (decide (0 ≤ x0) && decide (x0 < (a0.1.length : Int))) (guardK (decide (0 ≤ (w64 (x0 - 1))) && decide ((w64 (x0 - 1)) < (a0.1.length : Int))) (bif (strLt ((rd sNode a0.1 x0.toNat).1) ((rd sNode a0.1 ((w64 (x0 - 1)).toNat)).1) || strEq ((rd sNode a0.1 x0.toNat).1) ((rd sNode a0.1 ((w64 (x0 - 1)).toNat)).1)) then (some 4) else (c1 a0 (w64 (x0 + 1)))))) else (c1 a0 (w64 (x0 + 1))))))) else (c2 a0 0))
theorem F.pleachref26_Wrong.l11010.eq K n0 a0 x0 : F.pleachref26_Wrong.l11010 K (n0 + 1) a0 x0 = F.pleachref26_Wrong.l11010.B (F.pleachref25_Node K) (F.pleachref26_Wrong.l11010 K n0) (F.pleachref26_Wrong.l111010 K K) a0 x0 := (F.pleachref26_Wrong.in_eq K [1, 1, 0, 1, 0] [n0 + 1] (F.pleachref26_Wrong.l11010.st a0 x0)).trans ((show ∀ H, F.pleachref26_Wrong.in K H [1, 1, 0, 1, 0] [n0 + 1] (F.pleachref26_Wrong.l11010.st a0 x0) = F.pleachref26_Wrong.l11010.B (F.pleachref25_Node K) (fun a0 x0 => H [1, 1, 0, 1, 0] [n0] (F.pleachref26_Wrong.l11010.st a0 x0)) (fun a0 x0 => H [1, 1, 1, 0, 1, 0] [K] (F.pleachref26_Wrong.l111010.st a0 x0)) a0 x0 from by intro H; kernel_rfl) (F.pleachref26_Wrong.at K))
noncomputable def F.pleachref26_Wrong.l111010.B (c0 : (TEdge) → Option (Int)) (c1 : (TGraph) → (ByteArray) → Option (Int)) (c2 : (TGraph) → (Int) → Option (Int)) (a0 : TGraph) (x0 : Int) : Option (Int) :=
    (bif (decide (x0 < (a0.2.length : Int))) then (guardK (decide (0 ≤ x0) && decide (x0 < (a0.2.length : Int))) ((c0 ((rd sEdge a0.2 x0.toNat).1, ((rd sEdge a0.2 x0.toNat).2).1, (((rd sEdge a0.2 x0.toNat).2).2).1, ((((rd sEdge a0.2 x0.toNat).2).2).2).1, ((((rd sEdge a0.2 x0.toNat).2).2).2).2)).bind fun t1 => (bif (t1 != 0) then (some t1) else (bif (decide (x0 > 0)) then (guardK (decide (0 ≤ (w64 (x0 - 1))) && decide ((w64 (x0 - 1)) < (a0.2.length : Int))) (bif (strLt ((rd sEdge a0.2 x0.toNat).1) ((rd sEdge a0.2 ((w64 (x0 - 1)).toNat)).1) || strEq ((rd sEdge a0.2 x0.toNat).1) ((rd sEdge a0.2 ((w64 (x0 - 1)).toNat)).1)) then (some 4) else ((c1 (a0.1, a0.2) (((rd sEdge a0.2 x0.toNat).2).1)).bind fun t2 => (bif (decide (t2 < 0)) then (some 9) else ((c1 (a0.1, a0.2) ((((rd sEdge a0.2 x0.toNat).2).2).1)).bind fun t3 => (bif (decide (t3 < 0)) then (some 9) else (c2 a0 (w64 (x0 + 1))))))))) else ((c1 (a0.1, a0.2) (((rd sEdge a0.2 x0.toNat).2).1)).bind fun t4 => (bif (decide (t4 < 0)) then (some 9) else ((c1 (a0.1, a0.2) ((((rd sEdge a0.2 x0.toNat).2).2).1)).bind fun t5 => (bif (decide (t5 < 0)) then (some 9) else (c2 a0 (w64 (x0 + 1))))))))))) else (some 0))
theorem F.pleachref26_Wrong.l111010.eq K n0 a0 x0 : F.pleachref26_Wrong.l111010 K (n0 + 1) a0 x0 = F.pleachref26_Wrong.l111010.B (F.pleachref25_Edge K) (F.pleachref26_NodeAt K) (F.pleachref26_Wrong.l111010 K n0) a0 x0 := (F.pleachref26_Wrong.in_eq K [1, 1, 1, 0, 1, 0] [n0 + 1] (F.pleachref26_Wrong.l111010.st a0 x0)).trans ((show ∀ H, F.pleachref26_Wrong.in K H [1, 1, 1, 0, 1, 0] [n0 + 1] (F.pleachref26_Wrong.l111010.st a0 x0) = F.pleachref26_Wrong.l111010.B (F.pleachref25_Edge K) (F.pleachref26_NodeAt K) (fun a0 x0 => H [1, 1, 1, 0, 1, 0] [n0] (F.pleachref26_Wrong.l111010.st a0 x0)) a0 x0 from by intro H; kernel_rfl) (F.pleachref26_Wrong.at K))
noncomputable def F.pleachref26_Wrong.B (c0 : (TGraph) → (Int) → Option (Int)) (a0 : TGraph) : Option (Int) :=
    (bif (decide ((a0.1.length : Int) > 500)) then (some 5) else (bif (decide ((a0.2.length : Int) > 1000)) then (some 5) else (c0 a0 0)))
theorem F.pleachref26_Wrong.eq K a0 : F.pleachref26_Wrong (K + 1) a0 = F.pleachref26_Wrong.B (F.pleachref26_Wrong.l11010 K K) a0 := (F.pleachref26_Wrong.in_main K a0).trans ((show ∀ H, F.pleachref26_Wrong.in K H [] [] ⟨slots [.agg [.list sNode a0.1 false, .list sEdge a0.2 false]] 0, []⟩ = F.pleachref26_Wrong.B (fun a0 x0 => H [1, 1, 0, 1, 0] [K] (F.pleachref26_Wrong.l11010.st a0 x0)) a0 from by intro H; kernel_rfl) (F.pleachref26_Wrong.at K))
noncomputable def V.pleachref26_Wrong.l11010 (a0 : TGraph) (x0 : Int) := lim fun v => F.pleachref26_Wrong.l11010 (v 0) (v 1) a0 x0
noncomputable def V.pleachref26_Wrong.l111010 (a0 : TGraph) (x0 : Int) := lim fun v => F.pleachref26_Wrong.l111010 (v 0) (v 1) a0 x0
noncomputable def V.pleachref26_Wrong (a0 : TGraph) := lim fun v => F.pleachref26_Wrong (v 0) a0
theorem V.pleachref26_Wrong.l11010.of a0 x0 {r} (h : F.pleachref26_Wrong.l11010.B V.pleachref25_Node V.pleachref26_Wrong.l11010 V.pleachref26_Wrong.l111010 a0 x0 = some r) : V.pleachref26_Wrong.l11010 a0 x0 = some r :=
  App.to (App.step 1 (fun v => F.pleachref26_Wrong.l11010.eq (v 0) (v 1) a0 x0) (by unfold F.pleachref26_Wrong.l11010.B; repeat' first | exact App.val | exact App.no | exact App.lim | exact (App.enter 1 App.lim) | apply App.cond | apply App.guard | apply App.meet | apply App.ite | refine App.bind ?_ fun _ => ?_)) h
theorem V.pleachref26_Wrong.l111010.of a0 x0 {r} (h : F.pleachref26_Wrong.l111010.B V.pleachref25_Edge V.pleachref26_NodeAt V.pleachref26_Wrong.l111010 a0 x0 = some r) : V.pleachref26_Wrong.l111010 a0 x0 = some r :=
  App.to (App.step 1 (fun v => F.pleachref26_Wrong.l111010.eq (v 0) (v 1) a0 x0) (by unfold F.pleachref26_Wrong.l111010.B; repeat' first | exact App.val | exact App.no | exact App.lim | apply App.cond | apply App.guard | apply App.meet | apply App.ite | refine App.bind ?_ fun _ => ?_)) h
theorem V.pleachref26_Wrong.of a0 {r} (h : F.pleachref26_Wrong.B V.pleachref26_Wrong.l11010 a0 = some r) : V.pleachref26_Wrong a0 = some r :=
  App.to (App.step 0 (fun v => F.pleachref26_Wrong.eq (v 0) a0) (by unfold F.pleachref26_Wrong.B; repeat' first | exact App.val | exact App.no | exact App.lim | exact (App.enter 1 App.lim) | apply App.cond | apply App.guard | apply App.meet | apply App.ite | refine App.bind ?_ fun _ => ?_)) h
noncomputable def F.pleachref25_SameTexts (K : Nat) (a0 : List ByteArray) (a1 : List ByteArray) : Option (Bool) := evFn Try.prog sg K 38 [.sc (.list .str a0 false), .sc (.list .str a1 false)] []
noncomputable def F.pleachref25_SameTexts.at (K : Nat) (p ns : List Nat) (s : St) : Option (Bool) := atFn Try.prog sg K 38 0 p ns s
noncomputable def F.pleachref25_SameTexts.in (K : Nat) (H : List Nat → List Nat → St → Option (Bool)) (p ns : List Nat) (s : St) : Option (Bool) := inFn Try.prog sg K 38 0 [] H p ns s
theorem F.pleachref25_SameTexts.in_eq K p ns s : F.pleachref25_SameTexts.at K p ns s = F.pleachref25_SameTexts.in K (F.pleachref25_SameTexts.at K) p ns s := atFn_eq (P := Try.prog) (sg := sg) (K := K) (f := 38) (m := 0) [] p ns s
theorem F.pleachref25_SameTexts.in_main K a0 a1 : F.pleachref25_SameTexts (K + 1) a0 a1 = F.pleachref25_SameTexts.in K (F.pleachref25_SameTexts.at K) [] [] ⟨slots [.sc (.list .str a0 false), .sc (.list .str a1 false)] 0, []⟩ := evFn_eq (P := Try.prog) (sg := sg) (K := K) (f := 38) (args := [.sc (.list .str a0 false), .sc (.list .str a1 false)]) (σ := []) [] (by kernel_rfl)
def F.pleachref25_SameTexts.l11010.st (a0 : List ByteArray) (a1 : List ByteArray) (x0 : Int) : St := ⟨[(0, vL .str a0), (1, vL .str a1), (5, vI x0)], []⟩
noncomputable def F.pleachref25_SameTexts.l11010 (K n0 : Nat) (a0 : List ByteArray) (a1 : List ByteArray) (x0 : Int) := F.pleachref25_SameTexts.at K [1, 1, 0, 1, 0] [n0] (F.pleachref25_SameTexts.l11010.st a0 a1 x0)
noncomputable def F.pleachref25_SameTexts.l11010.B (c0 : (List ByteArray) → (List ByteArray) → (Int) → Option (Bool)) (a0 : List ByteArray) (a1 : List ByteArray) (x0 : Int) : Option (Bool) :=
    (bif (decide (x0 < (a0.length : Int))) then (guardK (decide (0 ≤ x0) && decide (x0 < (a0.length : Int))) (guardK (decide (0 ≤ x0) && decide (x0 < (a1.length : Int))) (bif (!strEq (rd .str a0 x0.toNat) (rd .str a1 x0.toNat)) then (some false) else (c0 a0 a1 (w64 (x0 + 1)))))) else (some true))
theorem F.pleachref25_SameTexts.l11010.eq K n0 a0 a1 x0 : F.pleachref25_SameTexts.l11010 K (n0 + 1) a0 a1 x0 = F.pleachref25_SameTexts.l11010.B (F.pleachref25_SameTexts.l11010 K n0) a0 a1 x0 := (F.pleachref25_SameTexts.in_eq K [1, 1, 0, 1, 0] [n0 + 1] (F.pleachref25_SameTexts.l11010.st a0 a1 x0)).trans ((show ∀ H, F.pleachref25_SameTexts.in K H [1, 1, 0, 1, 0] [n0 + 1] (F.pleachref25_SameTexts.l11010.st a0 a1 x0) = F.pleachref25_SameTexts.l11010.B (fun a0 a1 x0 => H [1, 1, 0, 1, 0] [n0] (F.pleachref25_SameTexts.l11010.st a0 a1 x0)) a0 a1 x0 from by intro H; kernel_rfl) (F.pleachref25_SameTexts.at K))
noncomputable def F.pleachref25_SameTexts.B (c0 : (List ByteArray) → (List ByteArray) → (Int) → Option (Bool)) (a0 : List ByteArray) (a1 : List ByteArray) : Option (Bool) :=
    (bif ((a0.length : Int) != (a1.length : Int)) then (some false) else (c0 a0 a1 0))
theorem F.pleachref25_SameTexts.eq K a0 a1 : F.pleachref25_SameTexts (K + 1) a0 a1 = F.pleachref25_SameTexts.B (F.pleachref25_SameTexts.l11010 K K) a0 a1 := (F.pleachref25_SameTexts.in_main K a0 a1).trans ((show ∀ H, F.pleachref25_SameTexts.in K H [] [] ⟨slots [.sc (.list .str a0 false), .sc (.list .str a1 false)] 0, []⟩ = F.pleachref25_SameTexts.B (fun a0 a1 x0 => H [1, 1, 0, 1, 0] [K] (F.pleachref25_SameTexts.l11010.st a0 a1 x0)) a0 a1 from by intro H; kernel_rfl) (F.pleachref25_SameTexts.at K))
noncomputable def V.pleachref25_SameTexts.l11010 (a0 : List ByteArray) (a1 : List ByteArray) (x0 : Int) := lim fun v => F.pleachref25_SameTexts.l11010 (v 0) (v 1) a0 a1 x0
noncomputable def V.pleachref25_SameTexts (a0 : List ByteArray) (a1 : List ByteArray) := lim fun v => F.pleachref25_SameTexts (v 0) a0 a1
theorem V.pleachref25_SameTexts.l11010.of a0 a1 x0 {r} (h : F.pleachref25_SameTexts.l11010.B V.pleachref25_SameTexts.l11010 a0 a1 x0 = some r) : V.pleachref25_SameTexts.l11010 a0 a1 x0 = some r :=
  App.to (App.step 1 (fun v => F.pleachref25_SameTexts.l11010.eq (v 0) (v 1) a0 a1 x0) (by unfold F.pleachref25_SameTexts.l11010.B; repeat' first | exact App.val | exact App.no | exact App.lim | apply App.cond | apply App.guard | apply App.meet | apply App.ite | refine App.bind ?_ fun _ => ?_)) h
theorem V.pleachref25_SameTexts.of a0 a1 {r} (h : F.pleachref25_SameTexts.B V.pleachref25_SameTexts.l11010 a0 a1 = some r) : V.pleachref25_SameTexts a0 a1 = some r :=
  App.to (App.step 0 (fun v => F.pleachref25_SameTexts.eq (v 0) a0 a1) (by unfold F.pleachref25_SameTexts.B; repeat' first | exact App.val | exact App.no | exact App.lim | exact (App.enter 1 App.lim) | apply App.cond | apply App.guard | apply App.meet | apply App.ite | refine App.bind ?_ fun _ => ?_)) h
noncomputable def F.pleachref25_SameProps (K : Nat) (a0 : List TProp) (a1 : List TProp) : Option (Bool) := evFn Try.prog sg K 39 [.sc (.list sProp a0 false), .sc (.list sProp a1 false)] []
noncomputable def F.pleachref25_SameProps.at (K : Nat) (p ns : List Nat) (s : St) : Option (Bool) := atFn Try.prog sg K 39 0 p ns s
noncomputable def F.pleachref25_SameProps.in (K : Nat) (H : List Nat → List Nat → St → Option (Bool)) (p ns : List Nat) (s : St) : Option (Bool) := inFn Try.prog sg K 39 0 [] H p ns s
theorem F.pleachref25_SameProps.in_eq K p ns s : F.pleachref25_SameProps.at K p ns s = F.pleachref25_SameProps.in K (F.pleachref25_SameProps.at K) p ns s := atFn_eq (P := Try.prog) (sg := sg) (K := K) (f := 39) (m := 0) [] p ns s
theorem F.pleachref25_SameProps.in_main K a0 a1 : F.pleachref25_SameProps (K + 1) a0 a1 = F.pleachref25_SameProps.in K (F.pleachref25_SameProps.at K) [] [] ⟨slots [.sc (.list sProp a0 false), .sc (.list sProp a1 false)] 0, []⟩ := evFn_eq (P := Try.prog) (sg := sg) (K := K) (f := 39) (args := [.sc (.list sProp a0 false), .sc (.list sProp a1 false)]) (σ := []) [] (by kernel_rfl)
def F.pleachref25_SameProps.l11010.st (a0 : List TProp) (a1 : List TProp) (x0 : Int) : St := ⟨[(0, vL sProp a0), (1, vL sProp a1), (5, vI x0)], []⟩
noncomputable def F.pleachref25_SameProps.l11010 (K n0 : Nat) (a0 : List TProp) (a1 : List TProp) (x0 : Int) := F.pleachref25_SameProps.at K [1, 1, 0, 1, 0] [n0] (F.pleachref25_SameProps.l11010.st a0 a1 x0)
noncomputable def F.pleachref25_SameProps.l11010.B (c0 : (List TProp) → (List TProp) → (Int) → Option (Bool)) (a0 : List TProp) (a1 : List TProp) (x0 : Int) : Option (Bool) :=
    (bif (decide (x0 < (a0.length : Int))) then (guardK (decide (0 ≤ x0) && decide (x0 < (a0.length : Int))) (guardK (decide (0 ≤ x0) && decide (x0 < (a1.length : Int))) (bif (!((strEq ((rd sProp a0 x0.toNat).1) ((rd sProp a1 x0.toNat).1)) && (((((rd sProp a0 x0.toNat).2).1 == ((rd sProp a1 x0.toNat).2).1) && (((((rd sProp a0 x0.toNat).2).2).1 == (((rd sProp a1 x0.toNat).2).2).1) && ((strEq ((((rd sProp a0 x0.toNat).2).2).2) ((((rd sProp a1 x0.toNat).2).2).2)) && true))) && true))) then (some false) else (c0 a0 a1 (w64 (x0 + 1)))))) else (some true))
theorem F.pleachref25_SameProps.l11010.eq K n0 a0 a1 x0 : F.pleachref25_SameProps.l11010 K (n0 + 1) a0 a1 x0 = F.pleachref25_SameProps.l11010.B (F.pleachref25_SameProps.l11010 K n0) a0 a1 x0 := (F.pleachref25_SameProps.in_eq K [1, 1, 0, 1, 0] [n0 + 1] (F.pleachref25_SameProps.l11010.st a0 a1 x0)).trans ((show ∀ H, F.pleachref25_SameProps.in K H [1, 1, 0, 1, 0] [n0 + 1] (F.pleachref25_SameProps.l11010.st a0 a1 x0) = F.pleachref25_SameProps.l11010.B (fun a0 a1 x0 => H [1, 1, 0, 1, 0] [n0] (F.pleachref25_SameProps.l11010.st a0 a1 x0)) a0 a1 x0 from by intro H; kernel_rfl) (F.pleachref25_SameProps.at K))
noncomputable def F.pleachref25_SameProps.B (c0 : (List TProp) → (List TProp) → (Int) → Option (Bool)) (a0 : List TProp) (a1 : List TProp) : Option (Bool) :=
    (bif ((a0.length : Int) != (a1.length : Int)) then (some false) else (c0 a0 a1 0))
theorem F.pleachref25_SameProps.eq K a0 a1 : F.pleachref25_SameProps (K + 1) a0 a1 = F.pleachref25_SameProps.B (F.pleachref25_SameProps.l11010 K K) a0 a1 := (F.pleachref25_SameProps.in_main K a0 a1).trans ((show ∀ H, F.pleachref25_SameProps.in K H [] [] ⟨slots [.sc (.list sProp a0 false), .sc (.list sProp a1 false)] 0, []⟩ = F.pleachref25_SameProps.B (fun a0 a1 x0 => H [1, 1, 0, 1, 0] [K] (F.pleachref25_SameProps.l11010.st a0 a1 x0)) a0 a1 from by intro H; kernel_rfl) (F.pleachref25_SameProps.at K))
noncomputable def V.pleachref25_SameProps.l11010 (a0 : List TProp) (a1 : List TProp) (x0 : Int) := lim fun v => F.pleachref25_SameProps.l11010 (v 0) (v 1) a0 a1 x0
noncomputable def V.pleachref25_SameProps (a0 : List TProp) (a1 : List TProp) := lim fun v => F.pleachref25_SameProps (v 0) a0 a1
theorem V.pleachref25_SameProps.l11010.of a0 a1 x0 {r} (h : F.pleachref25_SameProps.l11010.B V.pleachref25_SameProps.l11010 a0 a1 x0 = some r) : V.pleachref25_SameProps.l11010 a0 a1 x0 = some r :=
  App.to (App.step 1 (fun v => F.pleachref25_SameProps.l11010.eq (v 0) (v 1) a0 a1 x0) (by unfold F.pleachref25_SameProps.l11010.B; repeat' first | exact App.val | exact App.no | exact App.lim | apply App.cond | apply App.guard | apply App.meet | apply App.ite | refine App.bind ?_ fun _ => ?_)) h
theorem V.pleachref25_SameProps.of a0 a1 {r} (h : F.pleachref25_SameProps.B V.pleachref25_SameProps.l11010 a0 a1 = some r) : V.pleachref25_SameProps a0 a1 = some r :=
  App.to (App.step 0 (fun v => F.pleachref25_SameProps.eq (v 0) a0 a1) (by unfold F.pleachref25_SameProps.B; repeat' first | exact App.val | exact App.no | exact App.lim | exact (App.enter 1 App.lim) | apply App.cond | apply App.guard | apply App.meet | apply App.ite | refine App.bind ?_ fun _ => ?_)) h
noncomputable def F.pleachref25_SameNode (K : Nat) (a0 : TNode) (a1 : TNode) : Option (Bool) := evFn Try.prog sg K 88 [.agg [.val (.string a0.1), .list .str a0.2.1 false, .list sProp a0.2.2 false], .agg [.val (.string a1.1), .list .str a1.2.1 false, .list sProp a1.2.2 false]] []
noncomputable def F.pleachref25_SameNode.B (c0 : (List ByteArray) → (List ByteArray) → Option (Bool)) (c1 : (List TProp) → (List TProp) → Option (Bool)) (a0 : TNode) (a1 : TNode) : Option (Bool) :=
    (bif (strEq a0.1 a1.1) then ((c0 a0.2.1 a1.2.1).bind fun t0 => (bif t0 then ((c1 a0.2.2 a1.2.2).bind fun t1 => (some t1)) else (some false))) else (some false))
theorem F.pleachref25_SameNode.eq K a0 a1 : F.pleachref25_SameNode (K + 1) a0 a1 = F.pleachref25_SameNode.B (F.pleachref25_SameTexts K) (F.pleachref25_SameProps K) a0 a1 := by kernel_rfl
noncomputable def V.pleachref25_SameNode (a0 : TNode) (a1 : TNode) := lim fun v => F.pleachref25_SameNode (v 0) a0 a1
theorem V.pleachref25_SameNode.of a0 a1 {r} (h : F.pleachref25_SameNode.B V.pleachref25_SameTexts V.pleachref25_SameProps a0 a1 = some r) : V.pleachref25_SameNode a0 a1 = some r :=
  App.to (App.step 0 (fun v => F.pleachref25_SameNode.eq (v 0) a0 a1) (by unfold F.pleachref25_SameNode.B; repeat' first | exact App.val | exact App.no | exact App.lim | apply App.cond | apply App.guard | apply App.meet | apply App.ite | refine App.bind ?_ fun _ => ?_)) h
noncomputable def F.pleachref25_SameEdge (K : Nat) (a0 : TEdge) (a1 : TEdge) : Option (Bool) := evFn Try.prog sg K 89 [.agg [.val (.string a0.1), .val (.string a0.2.1), .val (.string a0.2.2.1), .list .str a0.2.2.2.1 false, .list sProp a0.2.2.2.2 false], .agg [.val (.string a1.1), .val (.string a1.2.1), .val (.string a1.2.2.1), .list .str a1.2.2.2.1 false, .list sProp a1.2.2.2.2 false]] []
noncomputable def F.pleachref25_SameEdge.B (c0 : (List ByteArray) → (List ByteArray) → Option (Bool)) (c1 : (List TProp) → (List TProp) → Option (Bool)) (a0 : TEdge) (a1 : TEdge) : Option (Bool) :=
    (bif (strEq a0.1 a1.1) then (bif (strEq a0.2.1 a1.2.1) then (bif (strEq a0.2.2.1 a1.2.2.1) then ((c0 a0.2.2.2.1 a1.2.2.2.1).bind fun t0 => (bif t0 then ((c1 a0.2.2.2.2 a1.2.2.2.2).bind fun t1 => (some t1)) else (some false))) else (some false)) else (some false)) else (some false))
theorem F.pleachref25_SameEdge.eq K a0 a1 : F.pleachref25_SameEdge (K + 1) a0 a1 = F.pleachref25_SameEdge.B (F.pleachref25_SameTexts K) (F.pleachref25_SameProps K) a0 a1 := by kernel_rfl
noncomputable def V.pleachref25_SameEdge (a0 : TEdge) (a1 : TEdge) := lim fun v => F.pleachref25_SameEdge (v 0) a0 a1
theorem V.pleachref25_SameEdge.of a0 a1 {r} (h : F.pleachref25_SameEdge.B V.pleachref25_SameTexts V.pleachref25_SameProps a0 a1 = some r) : V.pleachref25_SameEdge a0 a1 = some r :=
  App.to (App.step 0 (fun v => F.pleachref25_SameEdge.eq (v 0) a0 a1) (by unfold F.pleachref25_SameEdge.B; repeat' first | exact App.val | exact App.no | exact App.lim | apply App.cond | apply App.guard | apply App.meet | apply App.ite | refine App.bind ?_ fun _ => ?_)) h
noncomputable def F.pleachref26_Same (K : Nat) (a0 : TGraph) (a1 : TGraph) : Option (Bool) := evFn Try.prog sg K 42 [.agg [.list sNode a0.1 false, .list sEdge a0.2 false], .agg [.list sNode a1.1 false, .list sEdge a1.2 false]] []
noncomputable def F.pleachref26_Same.at (K : Nat) (p ns : List Nat) (s : St) : Option (Bool) := atFn Try.prog sg K 42 0 p ns s
noncomputable def F.pleachref26_Same.in (K : Nat) (H : List Nat → List Nat → St → Option (Bool)) (p ns : List Nat) (s : St) : Option (Bool) := inFn Try.prog sg K 42 0 [] H p ns s
theorem F.pleachref26_Same.in_eq K p ns s : F.pleachref26_Same.at K p ns s = F.pleachref26_Same.in K (F.pleachref26_Same.at K) p ns s := atFn_eq (P := Try.prog) (sg := sg) (K := K) (f := 42) (m := 0) [] p ns s
theorem F.pleachref26_Same.in_main K a0 a1 : F.pleachref26_Same (K + 1) a0 a1 = F.pleachref26_Same.in K (F.pleachref26_Same.at K) [] [] ⟨slots [.agg [.list sNode a0.1 false, .list sEdge a0.2 false], .agg [.list sNode a1.1 false, .list sEdge a1.2 false]] 0, []⟩ := evFn_eq (P := Try.prog) (sg := sg) (K := K) (f := 42) (args := [.agg [.list sNode a0.1 false, .list sEdge a0.2 false], .agg [.list sNode a1.1 false, .list sEdge a1.2 false]]) (σ := []) [] (by kernel_rfl)
def F.pleachref26_Same.l11010.st (a0 : TGraph) (a1 : TGraph) (x0 : Int) : St := ⟨[(2, .one (.sc (.ref 0 0))), (3, .one (.sc (.ref 1 0))), (5, vI x0)], [.cells 25 [.list sNode a0.1 false, .list sEdge a0.2 false], .cells 25 [.list sNode a1.1 false, .list sEdge a1.2 false]]⟩
noncomputable def F.pleachref26_Same.l11010 (K n0 : Nat) (a0 : TGraph) (a1 : TGraph) (x0 : Int) := F.pleachref26_Same.at K [1, 1, 0, 1, 0] [n0] (F.pleachref26_Same.l11010.st a0 a1 x0)
def F.pleachref26_Same.l111010.st (a0 : TGraph) (a1 : TGraph) (x0 : Int) : St := ⟨[(2, .one (.sc (.ref 0 0))), (3, .one (.sc (.ref 1 0))), (6, vI x0)], [.cells 25 [.list sNode a0.1 false, .list sEdge a0.2 false], .cells 25 [.list sNode a1.1 false, .list sEdge a1.2 false]]⟩
noncomputable def F.pleachref26_Same.l111010 (K n0 : Nat) (a0 : TGraph) (a1 : TGraph) (x0 : Int) := F.pleachref26_Same.at K [1, 1, 1, 0, 1, 0] [n0] (F.pleachref26_Same.l111010.st a0 a1 x0)
noncomputable def F.pleachref26_Same.l11010.B (c0 : (TNode) → (TNode) → Option (Bool)) (c1 : (TGraph) → (TGraph) → (Int) → Option (Bool)) (c2 : (TGraph) → (TGraph) → (Int) → Option (Bool)) (a0 : TGraph) (a1 : TGraph) (x0 : Int) : Option (Bool) :=
    (bif (decide (x0 < (a0.1.length : Int))) then (guardK (decide (0 ≤ x0) && decide (x0 < (a0.1.length : Int))) (guardK (decide (0 ≤ x0) && decide (x0 < (a1.1.length : Int))) ((c0 ((rd sNode a0.1 x0.toNat).1, ((rd sNode a0.1 x0.toNat).2).1, ((rd sNode a0.1 x0.toNat).2).2) ((rd sNode a1.1 x0.toNat).1, ((rd sNode a1.1 x0.toNat).2).1, ((rd sNode a1.1 x0.toNat).2).2)).bind fun t0 => (bif (!t0) then (some false) else (c1 a0 a1 (w64 (x0 + 1))))))) else (c2 a0 a1 0))
theorem F.pleachref26_Same.l11010.eq K n0 a0 a1 x0 : F.pleachref26_Same.l11010 K (n0 + 1) a0 a1 x0 = F.pleachref26_Same.l11010.B (F.pleachref25_SameNode K) (F.pleachref26_Same.l11010 K n0) (F.pleachref26_Same.l111010 K K) a0 a1 x0 := (F.pleachref26_Same.in_eq K [1, 1, 0, 1, 0] [n0 + 1] (F.pleachref26_Same.l11010.st a0 a1 x0)).trans ((show ∀ H, F.pleachref26_Same.in K H [1, 1, 0, 1, 0] [n0 + 1] (F.pleachref26_Same.l11010.st a0 a1 x0) = F.pleachref26_Same.l11010.B (F.pleachref25_SameNode K) (fun a0 a1 x0 => H [1, 1, 0, 1, 0] [n0] (F.pleachref26_Same.l11010.st a0 a1 x0)) (fun a0 a1 x0 => H [1, 1, 1, 0, 1, 0] [K] (F.pleachref26_Same.l111010.st a0 a1 x0)) a0 a1 x0 from by intro H; kernel_rfl) (F.pleachref26_Same.at K))
noncomputable def F.pleachref26_Same.l111010.B (c0 : (TEdge) → (TEdge) → Option (Bool)) (c1 : (TGraph) → (TGraph) → (Int) → Option (Bool)) (a0 : TGraph) (a1 : TGraph) (x0 : Int) : Option (Bool) :=
    (bif (decide (x0 < (a0.2.length : Int))) then (guardK (decide (0 ≤ x0) && decide (x0 < (a0.2.length : Int))) (guardK (decide (0 ≤ x0) && decide (x0 < (a1.2.length : Int))) ((c0 ((rd sEdge a0.2 x0.toNat).1, ((rd sEdge a0.2 x0.toNat).2).1, (((rd sEdge a0.2 x0.toNat).2).2).1, ((((rd sEdge a0.2 x0.toNat).2).2).2).1, ((((rd sEdge a0.2 x0.toNat).2).2).2).2) ((rd sEdge a1.2 x0.toNat).1, ((rd sEdge a1.2 x0.toNat).2).1, (((rd sEdge a1.2 x0.toNat).2).2).1, ((((rd sEdge a1.2 x0.toNat).2).2).2).1, ((((rd sEdge a1.2 x0.toNat).2).2).2).2)).bind fun t1 => (bif (!t1) then (some false) else (c1 a0 a1 (w64 (x0 + 1))))))) else (some true))
theorem F.pleachref26_Same.l111010.eq K n0 a0 a1 x0 : F.pleachref26_Same.l111010 K (n0 + 1) a0 a1 x0 = F.pleachref26_Same.l111010.B (F.pleachref25_SameEdge K) (F.pleachref26_Same.l111010 K n0) a0 a1 x0 := (F.pleachref26_Same.in_eq K [1, 1, 1, 0, 1, 0] [n0 + 1] (F.pleachref26_Same.l111010.st a0 a1 x0)).trans ((show ∀ H, F.pleachref26_Same.in K H [1, 1, 1, 0, 1, 0] [n0 + 1] (F.pleachref26_Same.l111010.st a0 a1 x0) = F.pleachref26_Same.l111010.B (F.pleachref25_SameEdge K) (fun a0 a1 x0 => H [1, 1, 1, 0, 1, 0] [n0] (F.pleachref26_Same.l111010.st a0 a1 x0)) a0 a1 x0 from by intro H; kernel_rfl) (F.pleachref26_Same.at K))
noncomputable def F.pleachref26_Same.B (c0 : (TGraph) → (TGraph) → (Int) → Option (Bool)) (a0 : TGraph) (a1 : TGraph) : Option (Bool) :=
    (bif ((a0.1.length : Int) != (a1.1.length : Int)) then (some false) else (bif ((a0.2.length : Int) != (a1.2.length : Int)) then (some false) else (c0 a0 a1 0)))
theorem F.pleachref26_Same.eq K a0 a1 : F.pleachref26_Same (K + 1) a0 a1 = F.pleachref26_Same.B (F.pleachref26_Same.l11010 K K) a0 a1 := (F.pleachref26_Same.in_main K a0 a1).trans ((show ∀ H, F.pleachref26_Same.in K H [] [] ⟨slots [.agg [.list sNode a0.1 false, .list sEdge a0.2 false], .agg [.list sNode a1.1 false, .list sEdge a1.2 false]] 0, []⟩ = F.pleachref26_Same.B (fun a0 a1 x0 => H [1, 1, 0, 1, 0] [K] (F.pleachref26_Same.l11010.st a0 a1 x0)) a0 a1 from by intro H; kernel_rfl) (F.pleachref26_Same.at K))
noncomputable def V.pleachref26_Same.l11010 (a0 : TGraph) (a1 : TGraph) (x0 : Int) := lim fun v => F.pleachref26_Same.l11010 (v 0) (v 1) a0 a1 x0
noncomputable def V.pleachref26_Same.l111010 (a0 : TGraph) (a1 : TGraph) (x0 : Int) := lim fun v => F.pleachref26_Same.l111010 (v 0) (v 1) a0 a1 x0
noncomputable def V.pleachref26_Same (a0 : TGraph) (a1 : TGraph) := lim fun v => F.pleachref26_Same (v 0) a0 a1
theorem V.pleachref26_Same.l11010.of a0 a1 x0 {r} (h : F.pleachref26_Same.l11010.B V.pleachref25_SameNode V.pleachref26_Same.l11010 V.pleachref26_Same.l111010 a0 a1 x0 = some r) : V.pleachref26_Same.l11010 a0 a1 x0 = some r :=
  App.to (App.step 1 (fun v => F.pleachref26_Same.l11010.eq (v 0) (v 1) a0 a1 x0) (by unfold F.pleachref26_Same.l11010.B; repeat' first | exact App.val | exact App.no | exact App.lim | exact (App.enter 1 App.lim) | apply App.cond | apply App.guard | apply App.meet | apply App.ite | refine App.bind ?_ fun _ => ?_)) h
theorem V.pleachref26_Same.l111010.of a0 a1 x0 {r} (h : F.pleachref26_Same.l111010.B V.pleachref25_SameEdge V.pleachref26_Same.l111010 a0 a1 x0 = some r) : V.pleachref26_Same.l111010 a0 a1 x0 = some r :=
  App.to (App.step 1 (fun v => F.pleachref26_Same.l111010.eq (v 0) (v 1) a0 a1 x0) (by unfold F.pleachref26_Same.l111010.B; repeat' first | exact App.val | exact App.no | exact App.lim | apply App.cond | apply App.guard | apply App.meet | apply App.ite | refine App.bind ?_ fun _ => ?_)) h
theorem V.pleachref26_Same.of a0 a1 {r} (h : F.pleachref26_Same.B V.pleachref26_Same.l11010 a0 a1 = some r) : V.pleachref26_Same a0 a1 = some r :=
  App.to (App.step 0 (fun v => F.pleachref26_Same.eq (v 0) a0 a1) (by unfold F.pleachref26_Same.B; repeat' first | exact App.val | exact App.no | exact App.lim | exact (App.enter 1 App.lim) | apply App.cond | apply App.guard | apply App.meet | apply App.ite | refine App.bind ?_ fun _ => ?_)) h
noncomputable def F.scan_New (K : Nat) (a0 : ByteArray) : Option (TScan) := evFn Try.prog sg K 145 [.sc (.val (.string a0))] []
noncomputable def F.scan_New.B (a0 : ByteArray) : Option (TScan) :=
    (some (a0, 0, 0, true))
theorem F.scan_New.eq K a0 : F.scan_New (K + 1) a0 = F.scan_New.B a0 := by kernel_rfl
noncomputable def V.scan_New (a0 : ByteArray) := lim fun v => F.scan_New (v 0) a0
theorem V.scan_New.of a0 {r} (h : F.scan_New.B a0 = some r) : V.scan_New a0 = some r :=
  App.to (App.step 0 (fun v => F.scan_New.eq (v 0) a0) (by unfold F.scan_New.B; repeat' first | exact App.val | exact App.no | exact App.lim | apply App.cond | apply App.guard | apply App.meet | apply App.ite | refine App.bind ?_ fun _ => ?_)) h
noncomputable def F.scan_Scan_Err (K : Nat) (a0 : TScan) : Option (Int × TScan) := evFn Try.prog sg K 184 [.sc (.ref 0 0)] [.cells 230 [.val (.string a0.1), .val (.int .i64 a0.2.1), .val (.int .i64 a0.2.2.1), .val (.bool a0.2.2.2)]]
noncomputable def F.scan_Scan_Err.B (a0 : TScan) : Option (Int × TScan) :=
    (bif (!a0.2.2.2) then (some (1, a0.1, a0.2.1, a0.2.2.1, a0.2.2.2)) else (some (a0.2.2.1, a0.1, a0.2.1, a0.2.2.1, a0.2.2.2)))
theorem F.scan_Scan_Err.eq K a0 : F.scan_Scan_Err (K + 1) a0 = F.scan_Scan_Err.B a0 := by kernel_rfl
noncomputable def V.scan_Scan_Err (a0 : TScan) := lim fun v => F.scan_Scan_Err (v 0) a0
theorem V.scan_Scan_Err.of a0 {r} (h : F.scan_Scan_Err.B a0 = some r) : V.scan_Scan_Err a0 = some r :=
  App.to (App.step 0 (fun v => F.scan_Scan_Err.eq (v 0) a0) (by unfold F.scan_Scan_Err.B; repeat' first | exact App.val | exact App.no | exact App.lim | apply App.cond | apply App.guard | apply App.meet | apply App.ite | refine App.bind ?_ fun _ => ?_)) h
noncomputable def F.varint_Get (K : Nat) (a0 : ByteArray) : Option (Int × Int × Bool) := evFn Try.prog sg K 213 [.sc (.val (.string a0))] []
noncomputable def F.varint_Get.at (K : Nat) (p ns : List Nat) (s : St) : Option (Int × Int × Bool) := atFn Try.prog sg K 213 0 p ns s
noncomputable def F.varint_Get.in (K : Nat) (H : List Nat → List Nat → St → Option (Int × Int × Bool)) (p ns : List Nat) (s : St) : Option (Int × Int × Bool) := inFn Try.prog sg K 213 0 [] H p ns s
theorem F.varint_Get.in_eq K p ns s : F.varint_Get.at K p ns s = F.varint_Get.in K (F.varint_Get.at K) p ns s := atFn_eq (P := Try.prog) (sg := sg) (K := K) (f := 213) (m := 0) [] p ns s
theorem F.varint_Get.in_main K a0 : F.varint_Get (K + 1) a0 = F.varint_Get.in K (F.varint_Get.at K) [] [] ⟨slots [.sc (.val (.string a0))] 0, []⟩ := evFn_eq (P := Try.prog) (sg := sg) (K := K) (f := 213) (args := [.sc (.val (.string a0))]) (σ := []) [] (by kernel_rfl)
def F.varint_Get.l1010.st (a0 : ByteArray) (x0 : Int) (x1 : Int) : St := ⟨[(0, vS a0), (2, .one (.sc (.val (.int .u64 x0)))), (9, vI (if 10 < (a0.size : Int) then 10 else (a0.size : Int))), (10, vI x1)], []⟩
noncomputable def F.varint_Get.l1010 (K n0 : Nat) (a0 : ByteArray) (x0 : Int) (x1 : Int) := F.varint_Get.at K [1, 0, 1, 0] [n0] (F.varint_Get.l1010.st a0 x0 x1)
noncomputable def F.varint_Get.l1010.B (c0 : (ByteArray) → (Int) → (Int) → Option (Int × Int × Bool)) (a0 : ByteArray) (x0 : Int) (x1 : Int) : Option (Int × Int × Bool) :=
    (bif (decide (x1 < (if 10 < (a0.size : Int) then 10 else (a0.size : Int)))) then (guardK (decide (0 ≤ x1) && decide (x1 < (a0.size : Int))) (bif (x1 == 9) then (bif (decide ((IntKind.wrap .u64 (byteAt a0 x1)) > 1)) then (some (0, 0, false)) else (if (w64 (7 * x1)) < 0 then none else (bif (decide ((IntKind.wrap .u64 (byteAt a0 x1)) ≥ 128)) then (c0 a0 (IntKind.wrap .u64 ((BitVec.ofInt 64 x0 ||| BitVec.ofInt 64 (IntKind.wrap .u64 ((IntKind.wrap .u64 ((BitVec.ofInt 64 (IntKind.wrap .u64 (byteAt a0 x1)) &&& BitVec.ofInt 64 127).toNat : Int)) * 2 ^ (min (w64 (7 * x1)).toNat 64)))).toNat : Int)) (w64 (x1 + 1))) else (bif ((IntKind.wrap .u64 (byteAt a0 x1)) == 0) then (bif (decide (x1 > 0)) then (some (0, 0, false)) else (some ((IntKind.wrap .u64 ((BitVec.ofInt 64 x0 ||| BitVec.ofInt 64 (IntKind.wrap .u64 ((IntKind.wrap .u64 ((BitVec.ofInt 64 (IntKind.wrap .u64 (byteAt a0 x1)) &&& BitVec.ofInt 64 127).toNat : Int)) * 2 ^ (min (w64 (7 * x1)).toNat 64)))).toNat : Int)), (w64 (x1 + 1)), true))) else (some ((IntKind.wrap .u64 ((BitVec.ofInt 64 x0 ||| BitVec.ofInt 64 (IntKind.wrap .u64 ((IntKind.wrap .u64 ((BitVec.ofInt 64 (IntKind.wrap .u64 (byteAt a0 x1)) &&& BitVec.ofInt 64 127).toNat : Int)) * 2 ^ (min (w64 (7 * x1)).toNat 64)))).toNat : Int)), (w64 (x1 + 1)), true)))))) else (if (w64 (7 * x1)) < 0 then none else (bif (decide ((IntKind.wrap .u64 (byteAt a0 x1)) ≥ 128)) then (c0 a0 (IntKind.wrap .u64 ((BitVec.ofInt 64 x0 ||| BitVec.ofInt 64 (IntKind.wrap .u64 ((IntKind.wrap .u64 ((BitVec.ofInt 64 (IntKind.wrap .u64 (byteAt a0 x1)) &&& BitVec.ofInt 64 127).toNat : Int)) * 2 ^ (min (w64 (7 * x1)).toNat 64)))).toNat : Int)) (w64 (x1 + 1))) else (bif ((IntKind.wrap .u64 (byteAt a0 x1)) == 0) then (bif (decide (x1 > 0)) then (some (0, 0, false)) else (some ((IntKind.wrap .u64 ((BitVec.ofInt 64 x0 ||| BitVec.ofInt 64 (IntKind.wrap .u64 ((IntKind.wrap .u64 ((BitVec.ofInt 64 (IntKind.wrap .u64 (byteAt a0 x1)) &&& BitVec.ofInt 64 127).toNat : Int)) * 2 ^ (min (w64 (7 * x1)).toNat 64)))).toNat : Int)), (w64 (x1 + 1)), true))) else (some ((IntKind.wrap .u64 ((BitVec.ofInt 64 x0 ||| BitVec.ofInt 64 (IntKind.wrap .u64 ((IntKind.wrap .u64 ((BitVec.ofInt 64 (IntKind.wrap .u64 (byteAt a0 x1)) &&& BitVec.ofInt 64 127).toNat : Int)) * 2 ^ (min (w64 (7 * x1)).toNat 64)))).toNat : Int)), (w64 (x1 + 1)), true))))))) else (some (0, 0, false)))
theorem F.varint_Get.l1010.eq K n0 a0 x0 x1 : F.varint_Get.l1010 K (n0 + 1) a0 x0 x1 = F.varint_Get.l1010.B (F.varint_Get.l1010 K n0) a0 x0 x1 := (F.varint_Get.in_eq K [1, 0, 1, 0] [n0 + 1] (F.varint_Get.l1010.st a0 x0 x1)).trans ((show ∀ H, F.varint_Get.in K H [1, 0, 1, 0] [n0 + 1] (F.varint_Get.l1010.st a0 x0 x1) = F.varint_Get.l1010.B (fun a0 x0 x1 => H [1, 0, 1, 0] [n0] (F.varint_Get.l1010.st a0 x0 x1)) a0 x0 x1 from by intro H; kernel_rfl) (F.varint_Get.at K))
noncomputable def F.varint_Get.B (c0 : (ByteArray) → (Int) → (Int) → Option (Int × Int × Bool)) (a0 : ByteArray) : Option (Int × Int × Bool) :=
    (c0 a0 0 0)
theorem F.varint_Get.eq K a0 : F.varint_Get (K + 1) a0 = F.varint_Get.B (F.varint_Get.l1010 K K) a0 := (F.varint_Get.in_main K a0).trans ((show ∀ H, F.varint_Get.in K H [] [] ⟨slots [.sc (.val (.string a0))] 0, []⟩ = F.varint_Get.B (fun a0 x0 x1 => H [1, 0, 1, 0] [K] (F.varint_Get.l1010.st a0 x0 x1)) a0 from by intro H; kernel_rfl) (F.varint_Get.at K))
noncomputable def V.varint_Get.l1010 (a0 : ByteArray) (x0 : Int) (x1 : Int) := lim fun v => F.varint_Get.l1010 (v 0) (v 1) a0 x0 x1
noncomputable def V.varint_Get (a0 : ByteArray) := lim fun v => F.varint_Get (v 0) a0
theorem V.varint_Get.l1010.of a0 x0 x1 {r} (h : F.varint_Get.l1010.B V.varint_Get.l1010 a0 x0 x1 = some r) : V.varint_Get.l1010 a0 x0 x1 = some r :=
  App.to (App.step 1 (fun v => F.varint_Get.l1010.eq (v 0) (v 1) a0 x0 x1) (by unfold F.varint_Get.l1010.B; repeat' first | exact App.val | exact App.no | exact App.lim | apply App.cond | apply App.guard | apply App.meet | apply App.ite | refine App.bind ?_ fun _ => ?_)) h
theorem V.varint_Get.of a0 {r} (h : F.varint_Get.B V.varint_Get.l1010 a0 = some r) : V.varint_Get a0 = some r :=
  App.to (App.step 0 (fun v => F.varint_Get.eq (v 0) a0) (by unfold F.varint_Get.B; repeat' first | exact App.val | exact App.no | exact App.lim | exact (App.enter 1 App.lim) | apply App.cond | apply App.guard | apply App.meet | apply App.ite | refine App.bind ?_ fun _ => ?_)) h
noncomputable def F.scan_Scan_fail (K : Nat) (a0 : TScan) (a1 : Int) : Option (TScan) := evFn Try.prog sg K 214 [.sc (.ref 0 0), .sc (.val (.int .i64 a1))] [.cells 230 [.val (.string a0.1), .val (.int .i64 a0.2.1), .val (.int .i64 a0.2.2.1), .val (.bool a0.2.2.2)]]
noncomputable def F.scan_Scan_fail.B (c0 : (TScan) → Option (Int × TScan)) (a0 : TScan) (a1 : Int) : Option (TScan) :=
    ((c0 (a0.1, a0.2.1, a0.2.2.1, a0.2.2.2)).bind fun t0 => (bif (t0.1 == 0) then (some (t0.2.1, t0.2.2.1, a1, t0.2.2.2.2)) else (some (t0.2.1, t0.2.2.1, t0.2.2.2.1, t0.2.2.2.2))))
theorem F.scan_Scan_fail.eq K a0 a1 : F.scan_Scan_fail (K + 1) a0 a1 = F.scan_Scan_fail.B (F.scan_Scan_Err K) a0 a1 := by kernel_rfl
noncomputable def V.scan_Scan_fail (a0 : TScan) (a1 : Int) := lim fun v => F.scan_Scan_fail (v 0) a0 a1
theorem V.scan_Scan_fail.of a0 a1 {r} (h : F.scan_Scan_fail.B V.scan_Scan_Err a0 a1 = some r) : V.scan_Scan_fail a0 a1 = some r :=
  App.to (App.step 0 (fun v => F.scan_Scan_fail.eq (v 0) a0 a1) (by unfold F.scan_Scan_fail.B; repeat' first | exact App.val | exact App.no | exact App.lim | apply App.cond | apply App.guard | apply App.meet | apply App.ite | refine App.bind ?_ fun _ => ?_)) h
noncomputable def F.scan_Scan_Num (K : Nat) (a0 : TScan) (a1 : Int) : Option (Int × TScan) := evFn Try.prog sg K 182 [.sc (.ref 0 0), .sc (.val (.int .i64 a1))] [.cells 230 [.val (.string a0.1), .val (.int .i64 a0.2.1), .val (.int .i64 a0.2.2.1), .val (.bool a0.2.2.2)]]
noncomputable def F.scan_Scan_Num.B (c0 : (TScan) → Option (Int × TScan)) (c1 : (ByteArray) → Option (Int × Int × Bool)) (c2 : (TScan) → (Int) → Option (TScan)) (a0 : TScan) (a1 : Int) : Option (Int × TScan) :=
    ((c0 (a0.1, a0.2.1, a0.2.2.1, a0.2.2.2)).bind fun t0 => (bif (t0.1 != 0) then (some (0, t0.2.1, t0.2.2.1, t0.2.2.2.1, t0.2.2.2.2)) else (guardK (decide (0 ≤ t0.2.2.1) && decide (t0.2.2.1 ≤ (t0.2.1.size : Int)) && decide ((t0.2.1.size : Int) ≤ (t0.2.1.size : Int))) ((c1 (t0.2.1.extract t0.2.2.1.toNat (t0.2.1.size : Int).toNat)).bind fun t1 => (bif (!t1.2.2) then ((c2 (t0.2.1, t0.2.2.1, t0.2.2.2.1, t0.2.2.2.2) 3).bind fun t2 => (some (0, t2.1, t2.2.1, t2.2.2.1, t2.2.2.2))) else (bif (decide (a1 < 0)) then ((c2 (t0.2.1, t0.2.2.1, t0.2.2.2.1, t0.2.2.2.2) 5).bind fun t3 => (some (0, t3.1, t3.2.1, t3.2.2.1, t3.2.2.2))) else (bif (decide (t1.1 > (IntKind.wrap .u64 a1))) then ((c2 (t0.2.1, t0.2.2.1, t0.2.2.2.1, t0.2.2.2.2) 5).bind fun t4 => (some (0, t4.1, t4.2.1, t4.2.2.1, t4.2.2.2))) else (some ((w64 t1.1), t0.2.1, (w64 (t0.2.2.1 + t1.2.1)), t0.2.2.2.1, t0.2.2.2.2)))))))))
theorem F.scan_Scan_Num.eq K a0 a1 : F.scan_Scan_Num (K + 1) a0 a1 = F.scan_Scan_Num.B (F.scan_Scan_Err K) (F.varint_Get K) (F.scan_Scan_fail K) a0 a1 := by kernel_rfl
noncomputable def V.scan_Scan_Num (a0 : TScan) (a1 : Int) := lim fun v => F.scan_Scan_Num (v 0) a0 a1
theorem V.scan_Scan_Num.of a0 a1 {r} (h : F.scan_Scan_Num.B V.scan_Scan_Err V.varint_Get V.scan_Scan_fail a0 a1 = some r) : V.scan_Scan_Num a0 a1 = some r :=
  App.to (App.step 0 (fun v => F.scan_Scan_Num.eq (v 0) a0 a1) (by unfold F.scan_Scan_Num.B; repeat' first | exact App.val | exact App.no | exact App.lim | apply App.cond | apply App.guard | apply App.meet | apply App.ite | refine App.bind ?_ fun _ => ?_)) h
noncomputable def F.scan_Scan_take (K : Nat) (a0 : TScan) (a1 : Int) : Option (ByteArray × TScan) := evFn Try.prog sg K 185 [.sc (.ref 0 0), .sc (.val (.int .i64 a1))] [.cells 230 [.val (.string a0.1), .val (.int .i64 a0.2.1), .val (.int .i64 a0.2.2.1), .val (.bool a0.2.2.2)]]
noncomputable def F.scan_Scan_take.B (c0 : (TScan) → Option (Int × TScan)) (a0 : TScan) (a1 : Int) : Option (ByteArray × TScan) :=
    ((c0 (a0.1, a0.2.1, a0.2.2.1, a0.2.2.2)).bind fun t0 => (bif (t0.1 != 0) then (some ((⟨#[]⟩ : ByteArray), t0.2.1, t0.2.2.1, t0.2.2.2.1, t0.2.2.2.2)) else (bif (decide (a1 < 0)) then (some ((⟨#[]⟩ : ByteArray), t0.2.1, t0.2.2.1, 3, t0.2.2.2.2)) else (bif (decide (a1 > (w64 ((t0.2.1.size : Int) - t0.2.2.1)))) then (some ((⟨#[]⟩ : ByteArray), t0.2.1, t0.2.2.1, 3, t0.2.2.2.2)) else (guardK (decide (0 ≤ t0.2.2.1) && decide (t0.2.2.1 ≤ (w64 (t0.2.2.1 + a1))) && decide ((w64 (t0.2.2.1 + a1)) ≤ (t0.2.1.size : Int))) (some ((t0.2.1.extract t0.2.2.1.toNat (w64 (t0.2.2.1 + a1)).toNat), t0.2.1, (w64 (t0.2.2.1 + a1)), t0.2.2.2.1, t0.2.2.2.2)))))))
theorem F.scan_Scan_take.eq K a0 a1 : F.scan_Scan_take (K + 1) a0 a1 = F.scan_Scan_take.B (F.scan_Scan_Err K) a0 a1 := by kernel_rfl
noncomputable def V.scan_Scan_take (a0 : TScan) (a1 : Int) := lim fun v => F.scan_Scan_take (v 0) a0 a1
theorem V.scan_Scan_take.of a0 a1 {r} (h : F.scan_Scan_take.B V.scan_Scan_Err a0 a1 = some r) : V.scan_Scan_take a0 a1 = some r :=
  App.to (App.step 0 (fun v => F.scan_Scan_take.eq (v 0) a0 a1) (by unfold F.scan_Scan_take.B; repeat' first | exact App.val | exact App.no | exact App.lim | apply App.cond | apply App.guard | apply App.meet | apply App.ite | refine App.bind ?_ fun _ => ?_)) h
noncomputable def F.scan_Scan_Text (K : Nat) (a0 : TScan) (a1 : Int) : Option (ByteArray × TScan) := evFn Try.prog sg K 148 [.sc (.ref 0 0), .sc (.val (.int .i64 a1))] [.cells 230 [.val (.string a0.1), .val (.int .i64 a0.2.1), .val (.int .i64 a0.2.2.1), .val (.bool a0.2.2.2)]]
noncomputable def F.scan_Scan_Text.B (c0 : (TScan) → (Int) → Option (Int × TScan)) (c1 : (TScan) → (Int) → Option (ByteArray × TScan)) (a0 : TScan) (a1 : Int) : Option (ByteArray × TScan) :=
    ((c0 (a0.1, a0.2.1, a0.2.2.1, a0.2.2.2) a1).bind fun t0 => ((c1 (t0.2.1, t0.2.2.1, t0.2.2.2.1, t0.2.2.2.2) t0.1).bind fun t1 => (some (t1.1, t1.2.1, t1.2.2.1, t1.2.2.2.1, t1.2.2.2.2))))
theorem F.scan_Scan_Text.eq K a0 a1 : F.scan_Scan_Text (K + 1) a0 a1 = F.scan_Scan_Text.B (F.scan_Scan_Num K) (F.scan_Scan_take K) a0 a1 := by kernel_rfl
noncomputable def V.scan_Scan_Text (a0 : TScan) (a1 : Int) := lim fun v => F.scan_Scan_Text (v 0) a0 a1
theorem V.scan_Scan_Text.of a0 a1 {r} (h : F.scan_Scan_Text.B V.scan_Scan_Num V.scan_Scan_take a0 a1 = some r) : V.scan_Scan_Text a0 a1 = some r :=
  App.to (App.step 0 (fun v => F.scan_Scan_Text.eq (v 0) a0 a1) (by unfold F.scan_Scan_Text.B; repeat' first | exact App.val | exact App.no | exact App.lim | apply App.cond | apply App.guard | apply App.meet | apply App.ite | refine App.bind ?_ fun _ => ?_)) h
noncomputable def F.scan_Scan_Byte (K : Nat) (a0 : TScan) : Option (Int × TScan) := evFn Try.prog sg K 215 [.sc (.ref 0 0)] [.cells 230 [.val (.string a0.1), .val (.int .i64 a0.2.1), .val (.int .i64 a0.2.2.1), .val (.bool a0.2.2.2)]]
noncomputable def F.scan_Scan_Byte.B (c0 : (TScan) → (Int) → Option (ByteArray × TScan)) (a0 : TScan) : Option (Int × TScan) :=
    ((c0 (a0.1, a0.2.1, a0.2.2.1, a0.2.2.2) 1).bind fun t0 => (bif (strEq t0.1 (⟨#[]⟩ : ByteArray)) then (some (0, t0.2.1, t0.2.2.1, t0.2.2.2.1, t0.2.2.2.2)) else (guardK (decide (0 < (t0.1.size : Int))) (some ((w64 (byteAt t0.1 0)), t0.2.1, t0.2.2.1, t0.2.2.2.1, t0.2.2.2.2)))))
theorem F.scan_Scan_Byte.eq K a0 : F.scan_Scan_Byte (K + 1) a0 = F.scan_Scan_Byte.B (F.scan_Scan_take K) a0 := by kernel_rfl
noncomputable def V.scan_Scan_Byte (a0 : TScan) := lim fun v => F.scan_Scan_Byte (v 0) a0
theorem V.scan_Scan_Byte.of a0 {r} (h : F.scan_Scan_Byte.B V.scan_Scan_take a0 = some r) : V.scan_Scan_Byte a0 = some r :=
  App.to (App.step 0 (fun v => F.scan_Scan_Byte.eq (v 0) a0) (by unfold F.scan_Scan_Byte.B; repeat' first | exact App.val | exact App.no | exact App.lim | apply App.cond | apply App.guard | apply App.meet | apply App.ite | refine App.bind ?_ fun _ => ?_)) h
noncomputable def F.scan_Scan_Fail (K : Nat) (a0 : TScan) (a1 : Int) : Option (TScan) := evFn Try.prog sg K 217 [.sc (.ref 0 0), .sc (.val (.int .i64 a1))] [.cells 230 [.val (.string a0.1), .val (.int .i64 a0.2.1), .val (.int .i64 a0.2.2.1), .val (.bool a0.2.2.2)]]
noncomputable def F.scan_Scan_Fail.B (c0 : (TScan) → (Int) → Option (TScan)) (a0 : TScan) (a1 : Int) : Option (TScan) :=
    (bif (a1 != 0) then ((c0 (a0.1, a0.2.1, a0.2.2.1, a0.2.2.2) a1).bind fun t0 => (some (t0.1, t0.2.1, t0.2.2.1, t0.2.2.2))) else (some (a0.1, a0.2.1, a0.2.2.1, a0.2.2.2)))
theorem F.scan_Scan_Fail.eq K a0 a1 : F.scan_Scan_Fail (K + 1) a0 a1 = F.scan_Scan_Fail.B (F.scan_Scan_fail K) a0 a1 := by kernel_rfl
noncomputable def V.scan_Scan_Fail (a0 : TScan) (a1 : Int) := lim fun v => F.scan_Scan_Fail (v 0) a0 a1
theorem V.scan_Scan_Fail.of a0 a1 {r} (h : F.scan_Scan_Fail.B V.scan_Scan_fail a0 a1 = some r) : V.scan_Scan_Fail a0 a1 = some r :=
  App.to (App.step 0 (fun v => F.scan_Scan_Fail.eq (v 0) a0 a1) (by unfold F.scan_Scan_Fail.B; repeat' first | exact App.val | exact App.no | exact App.lim | apply App.cond | apply App.guard | apply App.meet | apply App.ite | refine App.bind ?_ fun _ => ?_)) h
noncomputable def F.varint_Zag (K : Nat) (a0 : Int) : Option (Int) := evFn Try.prog sg K 238 [.sc (.val (.int .u64 a0))] []
noncomputable def F.varint_Zag.B (a0 : Int) : Option (Int) :=
    (some (w64 ((BitVec.ofInt 64 (w64 (Int.fdiv a0 (2 ^ 1))) ^^^ BitVec.ofInt 64 (w64 (0 - (w64 (IntKind.wrap .u64 ((BitVec.ofInt 64 a0 &&& BitVec.ofInt 64 1).toNat : Int)))))).toNat : Int)))
theorem F.varint_Zag.eq K a0 : F.varint_Zag (K + 1) a0 = F.varint_Zag.B a0 := by kernel_rfl
noncomputable def V.varint_Zag (a0 : Int) := lim fun v => F.varint_Zag (v 0) a0
theorem V.varint_Zag.of a0 {r} (h : F.varint_Zag.B a0 = some r) : V.varint_Zag a0 = some r :=
  App.to (App.step 0 (fun v => F.varint_Zag.eq (v 0) a0) (by unfold F.varint_Zag.B; repeat' first | exact App.val | exact App.no | exact App.lim | apply App.cond | apply App.guard | apply App.meet | apply App.ite | refine App.bind ?_ fun _ => ?_)) h
noncomputable def F.varint_GetInt (K : Nat) (a0 : ByteArray) : Option (Int × Int × Bool) := evFn Try.prog sg K 233 [.sc (.val (.string a0))] []
noncomputable def F.varint_GetInt.B (c0 : (ByteArray) → Option (Int × Int × Bool)) (c1 : (Int) → Option (Int)) (a0 : ByteArray) : Option (Int × Int × Bool) :=
    ((c0 a0).bind fun t0 => ((c1 t0.1).bind fun t1 => (some (t1, t0.2.1, t0.2.2))))
theorem F.varint_GetInt.eq K a0 : F.varint_GetInt (K + 1) a0 = F.varint_GetInt.B (F.varint_Get K) (F.varint_Zag K) a0 := by kernel_rfl
noncomputable def V.varint_GetInt (a0 : ByteArray) := lim fun v => F.varint_GetInt (v 0) a0
theorem V.varint_GetInt.of a0 {r} (h : F.varint_GetInt.B V.varint_Get V.varint_Zag a0 = some r) : V.varint_GetInt a0 = some r :=
  App.to (App.step 0 (fun v => F.varint_GetInt.eq (v 0) a0) (by unfold F.varint_GetInt.B; repeat' first | exact App.val | exact App.no | exact App.lim | apply App.cond | apply App.guard | apply App.meet | apply App.ite | refine App.bind ?_ fun _ => ?_)) h
noncomputable def F.scan_Scan_Int (K : Nat) (a0 : TScan) : Option (Int × TScan) := evFn Try.prog sg K 216 [.sc (.ref 0 0)] [.cells 230 [.val (.string a0.1), .val (.int .i64 a0.2.1), .val (.int .i64 a0.2.2.1), .val (.bool a0.2.2.2)]]
noncomputable def F.scan_Scan_Int.B (c0 : (TScan) → Option (Int × TScan)) (c1 : (ByteArray) → Option (Int × Int × Bool)) (c2 : (TScan) → (Int) → Option (TScan)) (a0 : TScan) : Option (Int × TScan) :=
    ((c0 (a0.1, a0.2.1, a0.2.2.1, a0.2.2.2)).bind fun t0 => (bif (t0.1 != 0) then (some (0, t0.2.1, t0.2.2.1, t0.2.2.2.1, t0.2.2.2.2)) else (guardK (decide (0 ≤ t0.2.2.1) && decide (t0.2.2.1 ≤ (t0.2.1.size : Int)) && decide ((t0.2.1.size : Int) ≤ (t0.2.1.size : Int))) ((c1 (t0.2.1.extract t0.2.2.1.toNat (t0.2.1.size : Int).toNat)).bind fun t1 => (bif (!t1.2.2) then ((c2 (t0.2.1, t0.2.2.1, t0.2.2.2.1, t0.2.2.2.2) 3).bind fun t2 => (some (0, t2.1, t2.2.1, t2.2.2.1, t2.2.2.2))) else (some (t1.1, t0.2.1, (w64 (t0.2.2.1 + t1.2.1)), t0.2.2.2.1, t0.2.2.2.2)))))))
theorem F.scan_Scan_Int.eq K a0 : F.scan_Scan_Int (K + 1) a0 = F.scan_Scan_Int.B (F.scan_Scan_Err K) (F.varint_GetInt K) (F.scan_Scan_fail K) a0 := by kernel_rfl
noncomputable def V.scan_Scan_Int (a0 : TScan) := lim fun v => F.scan_Scan_Int (v 0) a0
theorem V.scan_Scan_Int.of a0 {r} (h : F.scan_Scan_Int.B V.scan_Scan_Err V.varint_GetInt V.scan_Scan_fail a0 = some r) : V.scan_Scan_Int a0 = some r :=
  App.to (App.step 0 (fun v => F.scan_Scan_Int.eq (v 0) a0) (by unfold F.scan_Scan_Int.B; repeat' first | exact App.val | exact App.no | exact App.lim | apply App.cond | apply App.guard | apply App.meet | apply App.ite | refine App.bind ?_ fun _ => ?_)) h
noncomputable def F.value_Read (K : Nat) (a0 : TScan) : Option (TValue × TScan) := evFn Try.prog sg K 183 [.sc (.ref 0 0)] [.cells 230 [.val (.string a0.1), .val (.int .i64 a0.2.1), .val (.int .i64 a0.2.2.1), .val (.bool a0.2.2.2)]]
noncomputable def F.value_Read.B (c0 : (TScan) → Option (Int × TScan)) (c1 : (TScan) → Option (Int × TScan)) (c2 : (TValue) → Option (Int)) (c3 : (TScan) → (Int) → Option (TScan)) (c4 : (TScan) → Option (Int × TScan)) (c5 : (TScan) → (Int) → Option (ByteArray × TScan)) (a0 : TScan) : Option (TValue × TScan) :=
    ((c0 (a0.1, a0.2.1, a0.2.2.1, a0.2.2.2)).bind fun t0 => (bif (t0.1 == 1) then ((c0 (t0.2.1, t0.2.2.1, t0.2.2.2.1, t0.2.2.2.2)).bind fun t1 => ((c1 (t1.2.1, t1.2.2.1, t1.2.2.2.1, t1.2.2.2.2)).bind fun t2 => (bif (t2.1 != 0) then (some ((0, 0, (⟨#[]⟩ : ByteArray)), t2.2.1, t2.2.2.1, t2.2.2.2.1, t2.2.2.2.2)) else ((c2 (t0.1, t1.1, (⟨#[]⟩ : ByteArray))).bind fun t3 => (bif (t3 != 0) then ((c3 (t2.2.1, t2.2.2.1, t2.2.2.2.1, t2.2.2.2.2) 3).bind fun t4 => (some ((0, 0, (⟨#[]⟩ : ByteArray)), t4.1, t4.2.1, t4.2.2.1, t4.2.2.2))) else (some ((t0.1, t1.1, (⟨#[]⟩ : ByteArray)), t2.2.1, t2.2.2.1, t2.2.2.2.1, t2.2.2.2.2))))))) else (bif (t0.1 == 2) then ((c4 (t0.2.1, t0.2.2.1, t0.2.2.2.1, t0.2.2.2.2)).bind fun t5 => ((c1 (t5.2.1, t5.2.2.1, t5.2.2.2.1, t5.2.2.2.2)).bind fun t6 => (bif (t6.1 != 0) then (some ((0, 0, (⟨#[]⟩ : ByteArray)), t6.2.1, t6.2.2.1, t6.2.2.2.1, t6.2.2.2.2)) else ((c2 (t0.1, t5.1, (⟨#[]⟩ : ByteArray))).bind fun t7 => (bif (t7 != 0) then ((c3 (t6.2.1, t6.2.2.1, t6.2.2.2.1, t6.2.2.2.2) 3).bind fun t8 => (some ((0, 0, (⟨#[]⟩ : ByteArray)), t8.1, t8.2.1, t8.2.2.1, t8.2.2.2))) else (some ((t0.1, t5.1, (⟨#[]⟩ : ByteArray)), t6.2.1, t6.2.2.1, t6.2.2.2.1, t6.2.2.2.2))))))) else (bif (t0.1 == 3) then ((c5 (t0.2.1, t0.2.2.1, t0.2.2.2.1, t0.2.2.2.2) 64).bind fun t9 => ((c1 (t9.2.1, t9.2.2.1, t9.2.2.2.1, t9.2.2.2.2)).bind fun t10 => (bif (t10.1 != 0) then (some ((0, 0, (⟨#[]⟩ : ByteArray)), t10.2.1, t10.2.2.1, t10.2.2.2.1, t10.2.2.2.2)) else ((c2 (t0.1, 0, t9.1)).bind fun t11 => (bif (t11 != 0) then ((c3 (t10.2.1, t10.2.2.1, t10.2.2.2.1, t10.2.2.2.2) 3).bind fun t12 => (some ((0, 0, (⟨#[]⟩ : ByteArray)), t12.1, t12.2.1, t12.2.2.1, t12.2.2.2))) else (some ((t0.1, 0, t9.1), t10.2.1, t10.2.2.1, t10.2.2.2.1, t10.2.2.2.2))))))) else ((c1 (t0.2.1, t0.2.2.1, t0.2.2.2.1, t0.2.2.2.2)).bind fun t13 => (bif (t13.1 != 0) then (some ((0, 0, (⟨#[]⟩ : ByteArray)), t13.2.1, t13.2.2.1, t13.2.2.2.1, t13.2.2.2.2)) else ((c2 (t0.1, 0, (⟨#[]⟩ : ByteArray))).bind fun t14 => (bif (t14 != 0) then ((c3 (t13.2.1, t13.2.2.1, t13.2.2.2.1, t13.2.2.2.2) 3).bind fun t15 => (some ((0, 0, (⟨#[]⟩ : ByteArray)), t15.1, t15.2.1, t15.2.2.1, t15.2.2.2))) else (some ((t0.1, 0, (⟨#[]⟩ : ByteArray)), t13.2.1, t13.2.2.1, t13.2.2.2.1, t13.2.2.2.2))))))))))
theorem F.value_Read.eq K a0 : F.value_Read (K + 1) a0 = F.value_Read.B (F.scan_Scan_Byte K) (F.scan_Scan_Err K) (F.value_Check K) (F.scan_Scan_Fail K) (F.scan_Scan_Int K) (F.scan_Scan_Text K) a0 := by kernel_rfl
noncomputable def V.value_Read (a0 : TScan) := lim fun v => F.value_Read (v 0) a0
theorem V.value_Read.of a0 {r} (h : F.value_Read.B V.scan_Scan_Byte V.scan_Scan_Err V.value_Check V.scan_Scan_Fail V.scan_Scan_Int V.scan_Scan_Text a0 = some r) : V.value_Read a0 = some r :=
  App.to (App.step 0 (fun v => F.value_Read.eq (v 0) a0) (by unfold F.value_Read.B; repeat' first | exact App.val | exact App.no | exact App.lim | apply App.cond | apply App.guard | apply App.meet | apply App.ite | refine App.bind ?_ fun _ => ?_)) h
noncomputable def F.elem_read (K : Nat) (a0 : TScan) : Option ((List ByteArray) × (List TProp) × TScan) := evFn Try.prog sg K 146 [.sc (.ref 0 0)] [.cells 230 [.val (.string a0.1), .val (.int .i64 a0.2.1), .val (.int .i64 a0.2.2.1), .val (.bool a0.2.2.2)]]
noncomputable def F.elem_read.at (K : Nat) (p ns : List Nat) (s : St) : Option ((List ByteArray) × (List TProp) × TScan) := atFn Try.prog sg K 146 1 p ns s
noncomputable def F.elem_read.in (K : Nat) (H : List Nat → List Nat → St → Option ((List ByteArray) × (List TProp) × TScan)) (p ns : List Nat) (s : St) : Option ((List ByteArray) × (List TProp) × TScan) := inFn Try.prog sg K 146 1 [] H p ns s
theorem F.elem_read.in_eq K p ns s : F.elem_read.at K p ns s = F.elem_read.in K (F.elem_read.at K) p ns s := atFn_eq (P := Try.prog) (sg := sg) (K := K) (f := 146) (m := 1) [] p ns s
theorem F.elem_read.in_main K a0 : F.elem_read (K + 1) a0 = F.elem_read.in K (F.elem_read.at K) [] [] ⟨slots [.sc (.ref 0 0)] 0, [.cells 230 [.val (.string a0.1), .val (.int .i64 a0.2.1), .val (.int .i64 a0.2.2.1), .val (.bool a0.2.2.2)]]⟩ := evFn_eq (P := Try.prog) (sg := sg) (K := K) (f := 146) (args := [.sc (.ref 0 0)]) (σ := [.cells 230 [.val (.string a0.1), .val (.int .i64 a0.2.1), .val (.int .i64 a0.2.2.1), .val (.bool a0.2.2.2)]]) [] (by kernel_rfl)
def F.elem_read.l1010.st (a0 : TScan) (x0 : Int) (x1 : Int) (x2 : ByteArray) (x3 : Int) (x4 : Int) (x5 : Bool) (x6 : List ByteArray) : St := ⟨[(0, .one (.sc (.ref 0 0))), (2, .one (.sc (.own 1 none))), (3, .one (.sc (.own 2 none))), (6, vI x0), (7, vI x1)], [.cells 230 [.val (.string x2), .val (.int .i64 x3), .val (.int .i64 x4), .val (.bool x5)], .elems .str x6, .elems sProp ([])]⟩
noncomputable def F.elem_read.l1010 (K n0 : Nat) (a0 : TScan) (x0 : Int) (x1 : Int) (x2 : ByteArray) (x3 : Int) (x4 : Int) (x5 : Bool) (x6 : List ByteArray) := F.elem_read.at K [1, 0, 1, 0] [n0] (F.elem_read.l1010.st a0 x0 x1 x2 x3 x4 x5 x6)
def F.elem_read.l11010.st (a0 : TScan) (x0 : Int) (x1 : Int) (x2 : ByteArray) (x3 : Int) (x4 : Int) (x5 : Bool) (x6 : List ByteArray) (x7 : List TProp) : St := ⟨[(0, .one (.sc (.ref 0 0))), (2, .one (.sc (.own 1 none))), (3, .one (.sc (.own 2 none))), (16, vI x0), (17, vI x1)], [.cells 230 [.val (.string x2), .val (.int .i64 x3), .val (.int .i64 x4), .val (.bool x5)], .elems .str x6, .elems sProp x7]⟩
noncomputable def F.elem_read.l11010 (K n0 : Nat) (a0 : TScan) (x0 : Int) (x1 : Int) (x2 : ByteArray) (x3 : Int) (x4 : Int) (x5 : Bool) (x6 : List ByteArray) (x7 : List TProp) := F.elem_read.at K [1, 1, 0, 1, 0] [n0] (F.elem_read.l11010.st a0 x0 x1 x2 x3 x4 x5 x6 x7)
noncomputable def F.elem_read.l1010.B (c0 : (TScan) → (Int) → Option (ByteArray × TScan)) (c1 : (TScan) → (Int) → (Int) → (ByteArray) → (Int) → (Int) → (Bool) → (List ByteArray) → Option ((List ByteArray) × (List TProp) × TScan)) (c2 : (TScan) → (Int) → Option (Int × TScan)) (c3 : (TScan) → (Int) → (Int) → (ByteArray) → (Int) → (Int) → (Bool) → (List ByteArray) → (List TProp) → Option ((List ByteArray) × (List TProp) × TScan)) (a0 : TScan) (x0 : Int) (x1 : Int) (x2 : ByteArray) (x3 : Int) (x4 : Int) (x5 : Bool) (x6 : List ByteArray) : Option ((List ByteArray) × (List TProp) × TScan) :=
    (bif (decide (x1 < x0)) then ((c0 (x2, x3, x4, x5) 12).bind fun t1 => (guardK (decide (x6.length + ([t1.1]).length ≤ nmax)) (c1 a0 x0 (w64 (x1 + 1)) t1.2.1 t1.2.2.1 t1.2.2.2.1 t1.2.2.2.2 (x6 ++ [t1.1])))) else ((c2 (x2, x3, x4, x5) 8).bind fun t2 => (c3 a0 t2.1 0 t2.2.1 t2.2.2.1 t2.2.2.2.1 t2.2.2.2.2 x6 ([]))))
theorem F.elem_read.l1010.eq K n0 a0 x0 x1 x2 x3 x4 x5 x6 : F.elem_read.l1010 K (n0 + 1) a0 x0 x1 x2 x3 x4 x5 x6 = F.elem_read.l1010.B (F.scan_Scan_Text K) (F.elem_read.l1010 K n0) (F.scan_Scan_Num K) (F.elem_read.l11010 K K) a0 x0 x1 x2 x3 x4 x5 x6 := (F.elem_read.in_eq K [1, 0, 1, 0] [n0 + 1] (F.elem_read.l1010.st a0 x0 x1 x2 x3 x4 x5 x6)).trans ((show ∀ H, F.elem_read.in K H [1, 0, 1, 0] [n0 + 1] (F.elem_read.l1010.st a0 x0 x1 x2 x3 x4 x5 x6) = F.elem_read.l1010.B (F.scan_Scan_Text K) (fun a0 x0 x1 x2 x3 x4 x5 x6 => H [1, 0, 1, 0] [n0] (F.elem_read.l1010.st a0 x0 x1 x2 x3 x4 x5 x6)) (F.scan_Scan_Num K) (fun a0 x0 x1 x2 x3 x4 x5 x6 x7 => H [1, 1, 0, 1, 0] [K] (F.elem_read.l11010.st a0 x0 x1 x2 x3 x4 x5 x6 x7)) a0 x0 x1 x2 x3 x4 x5 x6 from by intro H; kernel_rfl) (F.elem_read.at K))
noncomputable def F.elem_read.l11010.B (c0 : (TScan) → (Int) → Option (ByteArray × TScan)) (c1 : (TScan) → Option (TValue × TScan)) (c2 : (TScan) → (Int) → (Int) → (ByteArray) → (Int) → (Int) → (Bool) → (List ByteArray) → (List TProp) → Option ((List ByteArray) × (List TProp) × TScan)) (a0 : TScan) (x0 : Int) (x1 : Int) (x2 : ByteArray) (x3 : Int) (x4 : Int) (x5 : Bool) (x6 : List ByteArray) (x7 : List TProp) : Option ((List ByteArray) × (List TProp) × TScan) :=
    (bif (decide (x1 < x0)) then ((c0 (x2, x3, x4, x5) 12).bind fun t3 => ((c1 (t3.2.1, t3.2.2.1, t3.2.2.2.1, t3.2.2.2.2)).bind fun t4 => (guardK (decide (x7.length + ([(t3.1, t4.1.1, t4.1.2.1, t4.1.2.2)]).length ≤ nmax)) (c2 a0 x0 (w64 (x1 + 1)) t4.2.1 t4.2.2.1 t4.2.2.2.1 t4.2.2.2.2 x6 (x7 ++ [(t3.1, t4.1.1, t4.1.2.1, t4.1.2.2)]))))) else (some (x6, x7, x2, x3, x4, x5)))
theorem F.elem_read.l11010.eq K n0 a0 x0 x1 x2 x3 x4 x5 x6 x7 : F.elem_read.l11010 K (n0 + 1) a0 x0 x1 x2 x3 x4 x5 x6 x7 = F.elem_read.l11010.B (F.scan_Scan_Text K) (F.value_Read K) (F.elem_read.l11010 K n0) a0 x0 x1 x2 x3 x4 x5 x6 x7 := (F.elem_read.in_eq K [1, 1, 0, 1, 0] [n0 + 1] (F.elem_read.l11010.st a0 x0 x1 x2 x3 x4 x5 x6 x7)).trans ((show ∀ H, F.elem_read.in K H [1, 1, 0, 1, 0] [n0 + 1] (F.elem_read.l11010.st a0 x0 x1 x2 x3 x4 x5 x6 x7) = F.elem_read.l11010.B (F.scan_Scan_Text K) (F.value_Read K) (fun a0 x0 x1 x2 x3 x4 x5 x6 x7 => H [1, 1, 0, 1, 0] [n0] (F.elem_read.l11010.st a0 x0 x1 x2 x3 x4 x5 x6 x7)) a0 x0 x1 x2 x3 x4 x5 x6 x7 from by intro H; kernel_rfl) (F.elem_read.at K))
noncomputable def F.elem_read.B (c0 : (TScan) → (Int) → Option (Int × TScan)) (c1 : (TScan) → (Int) → (Int) → (ByteArray) → (Int) → (Int) → (Bool) → (List ByteArray) → Option ((List ByteArray) × (List TProp) × TScan)) (a0 : TScan) : Option ((List ByteArray) × (List TProp) × TScan) :=
    ((c0 (a0.1, a0.2.1, a0.2.2.1, a0.2.2.2) 8).bind fun t0 => (c1 a0 t0.1 0 t0.2.1 t0.2.2.1 t0.2.2.2.1 t0.2.2.2.2 ([])))
theorem F.elem_read.eq K a0 : F.elem_read (K + 1) a0 = F.elem_read.B (F.scan_Scan_Num K) (F.elem_read.l1010 K K) a0 := (F.elem_read.in_main K a0).trans ((show ∀ H, F.elem_read.in K H [] [] ⟨slots [.sc (.ref 0 0)] 0, [.cells 230 [.val (.string a0.1), .val (.int .i64 a0.2.1), .val (.int .i64 a0.2.2.1), .val (.bool a0.2.2.2)]]⟩ = F.elem_read.B (F.scan_Scan_Num K) (fun a0 x0 x1 x2 x3 x4 x5 x6 => H [1, 0, 1, 0] [K] (F.elem_read.l1010.st a0 x0 x1 x2 x3 x4 x5 x6)) a0 from by intro H; kernel_rfl) (F.elem_read.at K))
noncomputable def V.elem_read.l1010 (a0 : TScan) (x0 : Int) (x1 : Int) (x2 : ByteArray) (x3 : Int) (x4 : Int) (x5 : Bool) (x6 : List ByteArray) := lim fun v => F.elem_read.l1010 (v 0) (v 1) a0 x0 x1 x2 x3 x4 x5 x6
noncomputable def V.elem_read.l11010 (a0 : TScan) (x0 : Int) (x1 : Int) (x2 : ByteArray) (x3 : Int) (x4 : Int) (x5 : Bool) (x6 : List ByteArray) (x7 : List TProp) := lim fun v => F.elem_read.l11010 (v 0) (v 1) a0 x0 x1 x2 x3 x4 x5 x6 x7
noncomputable def V.elem_read (a0 : TScan) := lim fun v => F.elem_read (v 0) a0
theorem V.elem_read.l1010.of a0 x0 x1 x2 x3 x4 x5 x6 {r} (h : F.elem_read.l1010.B V.scan_Scan_Text V.elem_read.l1010 V.scan_Scan_Num V.elem_read.l11010 a0 x0 x1 x2 x3 x4 x5 x6 = some r) : V.elem_read.l1010 a0 x0 x1 x2 x3 x4 x5 x6 = some r :=
  App.to (App.step 1 (fun v => F.elem_read.l1010.eq (v 0) (v 1) a0 x0 x1 x2 x3 x4 x5 x6) (by unfold F.elem_read.l1010.B; repeat' first | exact App.val | exact App.no | exact App.lim | exact (App.enter 1 App.lim) | apply App.cond | apply App.guard | apply App.meet | apply App.ite | refine App.bind ?_ fun _ => ?_)) h
theorem V.elem_read.l11010.of a0 x0 x1 x2 x3 x4 x5 x6 x7 {r} (h : F.elem_read.l11010.B V.scan_Scan_Text V.value_Read V.elem_read.l11010 a0 x0 x1 x2 x3 x4 x5 x6 x7 = some r) : V.elem_read.l11010 a0 x0 x1 x2 x3 x4 x5 x6 x7 = some r :=
  App.to (App.step 1 (fun v => F.elem_read.l11010.eq (v 0) (v 1) a0 x0 x1 x2 x3 x4 x5 x6 x7) (by unfold F.elem_read.l11010.B; repeat' first | exact App.val | exact App.no | exact App.lim | apply App.cond | apply App.guard | apply App.meet | apply App.ite | refine App.bind ?_ fun _ => ?_)) h
theorem V.elem_read.of a0 {r} (h : F.elem_read.B V.scan_Scan_Num V.elem_read.l1010 a0 = some r) : V.elem_read a0 = some r :=
  App.to (App.step 0 (fun v => F.elem_read.eq (v 0) a0) (by unfold F.elem_read.B; repeat' first | exact App.val | exact App.no | exact App.lim | exact (App.enter 1 App.lim) | apply App.cond | apply App.guard | apply App.meet | apply App.ite | refine App.bind ?_ fun _ => ?_)) h
noncomputable def F.scan_Scan_End (K : Nat) (a0 : TScan) : Option (Int × TScan) := evFn Try.prog sg K 147 [.sc (.ref 0 0)] [.cells 230 [.val (.string a0.1), .val (.int .i64 a0.2.1), .val (.int .i64 a0.2.2.1), .val (.bool a0.2.2.2)]]
noncomputable def F.scan_Scan_End.B (c0 : (TScan) → Option (Int × TScan)) (a0 : TScan) : Option (Int × TScan) :=
    ((c0 (a0.1, a0.2.1, a0.2.2.1, a0.2.2.2)).bind fun t0 => (bif (t0.1 == 0) then (meet (bif (decide (t0.2.2.1 < (t0.2.1.size : Int))) then ((c0 (t0.2.1, t0.2.2.1, 3, t0.2.2.2.2)).bind fun t1 => (some (t1.1, t1.2.1, t1.2.2.1, t1.2.2.2.1, t1.2.2.2.2))) else ((c0 (t0.2.1, t0.2.2.1, t0.2.2.2.1, t0.2.2.2.2)).bind fun t2 => (some (t2.1, t2.2.1, t2.2.2.1, t2.2.2.2.1, t2.2.2.2.2)))) (bif (decide (t0.2.2.1 < (t0.2.1.size : Int))) then ((c0 (t0.2.1, t0.2.2.1, 3, t0.2.2.2.2)).bind fun t3 => (some (t3.1, t3.2.1, t3.2.2.1, t3.2.2.2.1, t3.2.2.2.2))) else ((c0 (t0.2.1, t0.2.2.1, t0.2.2.2.1, t0.2.2.2.2)).bind fun t4 => (some (t4.1, t4.2.1, t4.2.2.1, t4.2.2.2.1, t4.2.2.2.2))))) else ((c0 (t0.2.1, t0.2.2.1, t0.2.2.2.1, t0.2.2.2.2)).bind fun t5 => (some (t5.1, t5.2.1, t5.2.2.1, t5.2.2.2.1, t5.2.2.2.2)))))
theorem F.scan_Scan_End.eq K a0 : F.scan_Scan_End (K + 1) a0 = F.scan_Scan_End.B (F.scan_Scan_Err K) a0 := by kernel_rfl
noncomputable def V.scan_Scan_End (a0 : TScan) := lim fun v => F.scan_Scan_End (v 0) a0
theorem V.scan_Scan_End.of a0 {r} (h : F.scan_Scan_End.B V.scan_Scan_Err a0 = some r) : V.scan_Scan_End a0 = some r :=
  App.to (App.step 0 (fun v => F.scan_Scan_End.eq (v 0) a0) (by unfold F.scan_Scan_End.B; repeat' first | exact App.val | exact App.no | exact App.lim | apply App.cond | apply App.guard | apply App.meet | apply App.ite | refine App.bind ?_ fun _ => ?_)) h
noncomputable def F.elem_TakeNode (K : Nat) (a0 : ByteArray) (a1 : ByteArray) : Option (TNode × Int) := evFn Try.prog sg K 109 [.sc (.val (.string a0)), .sc (.val (.string a1))] []
noncomputable def F.elem_TakeNode.B (c0 : (ByteArray) → Option (TScan)) (c1 : (TScan) → Option ((List ByteArray) × (List TProp) × TScan)) (c2 : (TScan) → Option (Int × TScan)) (c3 : (TNode) → Option (Int)) (a0 : ByteArray) (a1 : ByteArray) : Option (TNode × Int) :=
    ((c0 a1).bind fun t0 => ((c1 (t0.1, t0.2.1, t0.2.2.1, t0.2.2.2)).bind fun t1 => ((c2 (t1.2.2.1, t1.2.2.2.1, t1.2.2.2.2.1, t1.2.2.2.2.2)).bind fun t2 => (bif (t2.1 != 0) then (some (((⟨#[]⟩ : ByteArray), [], []), 3)) else ((c3 (a0, t1.1, t1.2.1)).bind fun t3 => (bif (t3 != 0) then (some (((⟨#[]⟩ : ByteArray), [], []), 3)) else (some ((a0, t1.1, t1.2.1), 0))))))))
theorem F.elem_TakeNode.eq K a0 a1 : F.elem_TakeNode (K + 1) a0 a1 = F.elem_TakeNode.B (F.scan_New K) (F.elem_read K) (F.scan_Scan_End K) (F.elem_CheckNode K) a0 a1 := by kernel_rfl
noncomputable def V.elem_TakeNode (a0 : ByteArray) (a1 : ByteArray) := lim fun v => F.elem_TakeNode (v 0) a0 a1
theorem V.elem_TakeNode.of a0 a1 {r} (h : F.elem_TakeNode.B V.scan_New V.elem_read V.scan_Scan_End V.elem_CheckNode a0 a1 = some r) : V.elem_TakeNode a0 a1 = some r :=
  App.to (App.step 0 (fun v => F.elem_TakeNode.eq (v 0) a0 a1) (by unfold F.elem_TakeNode.B; repeat' first | exact App.val | exact App.no | exact App.lim | apply App.cond | apply App.guard | apply App.meet | apply App.ite | refine App.bind ?_ fun _ => ?_)) h
noncomputable def F.keys_TakeNodes (K : Nat) (a0 : List TEntry) : Option ((List TNode) × Int) := evFn Try.prog sg K 55 [.sc (.list sEntry a0 false)] []
noncomputable def F.keys_TakeNodes.at (K : Nat) (p ns : List Nat) (s : St) : Option ((List TNode) × Int) := atFn Try.prog sg K 55 0 p ns s
noncomputable def F.keys_TakeNodes.in (K : Nat) (H : List Nat → List Nat → St → Option ((List TNode) × Int)) (p ns : List Nat) (s : St) : Option ((List TNode) × Int) := inFn Try.prog sg K 55 0 [] H p ns s
theorem F.keys_TakeNodes.in_eq K p ns s : F.keys_TakeNodes.at K p ns s = F.keys_TakeNodes.in K (F.keys_TakeNodes.at K) p ns s := atFn_eq (P := Try.prog) (sg := sg) (K := K) (f := 55) (m := 0) [] p ns s
theorem F.keys_TakeNodes.in_main K a0 : F.keys_TakeNodes (K + 1) a0 = F.keys_TakeNodes.in K (F.keys_TakeNodes.at K) [] [] ⟨slots [.sc (.list sEntry a0 false)] 0, []⟩ := evFn_eq (P := Try.prog) (sg := sg) (K := K) (f := 55) (args := [.sc (.list sEntry a0 false)]) (σ := []) [] (by kernel_rfl)
def F.keys_TakeNodes.l11010.st (a0 : List TEntry) (x0 : Int) (x1 : List TNode) : St := ⟨[(4, .one (.sc (.own 0 none))), (9, vL sEntry a0), (10, vI (a0.length : Int)), (11, vI x0)], [.elems sNode x1]⟩
noncomputable def F.keys_TakeNodes.l11010 (K n0 : Nat) (a0 : List TEntry) (x0 : Int) (x1 : List TNode) := F.keys_TakeNodes.at K [1, 1, 0, 1, 0] [n0] (F.keys_TakeNodes.l11010.st a0 x0 x1)
noncomputable def F.keys_TakeNodes.l11010.B (c0 : (ByteArray) → (ByteArray) → Option (TNode × Int)) (c1 : (List TEntry) → (Int) → (List TNode) → Option ((List TNode) × Int)) (a0 : List TEntry) (x0 : Int) (x1 : List TNode) : Option ((List TNode) × Int) :=
    (bif (decide (x0 < (a0.length : Int))) then (guardK (decide (0 ≤ x0) && decide (x0 < (a0.length : Int))) ((c0 ((rd sEntry a0 x0.toNat).1) ((rd sEntry a0 x0.toNat).2)).bind fun t0 => (bif (t0.2 != 0) then (some ([], t0.2)) else (guardK (decide (x1.length + ([(t0.1.1, t0.1.2.1, t0.1.2.2)]).length ≤ nmax)) (c1 a0 (w64 (x0 + 1)) (x1 ++ [(t0.1.1, t0.1.2.1, t0.1.2.2)])))))) else (some (x1, 0)))
theorem F.keys_TakeNodes.l11010.eq K n0 a0 x0 x1 : F.keys_TakeNodes.l11010 K (n0 + 1) a0 x0 x1 = F.keys_TakeNodes.l11010.B (F.elem_TakeNode K) (F.keys_TakeNodes.l11010 K n0) a0 x0 x1 := (F.keys_TakeNodes.in_eq K [1, 1, 0, 1, 0] [n0 + 1] (F.keys_TakeNodes.l11010.st a0 x0 x1)).trans ((show ∀ H, F.keys_TakeNodes.in K H [1, 1, 0, 1, 0] [n0 + 1] (F.keys_TakeNodes.l11010.st a0 x0 x1) = F.keys_TakeNodes.l11010.B (F.elem_TakeNode K) (fun a0 x0 x1 => H [1, 1, 0, 1, 0] [n0] (F.keys_TakeNodes.l11010.st a0 x0 x1)) a0 x0 x1 from by intro H; kernel_rfl) (F.keys_TakeNodes.at K))
noncomputable def F.keys_TakeNodes.B (c0 : (List TEntry) → (Int) → (List TNode) → Option ((List TNode) × Int)) (a0 : List TEntry) : Option ((List TNode) × Int) :=
    (c0 a0 0 ([]))
theorem F.keys_TakeNodes.eq K a0 : F.keys_TakeNodes (K + 1) a0 = F.keys_TakeNodes.B (F.keys_TakeNodes.l11010 K K) a0 := (F.keys_TakeNodes.in_main K a0).trans ((show ∀ H, F.keys_TakeNodes.in K H [] [] ⟨slots [.sc (.list sEntry a0 false)] 0, []⟩ = F.keys_TakeNodes.B (fun a0 x0 x1 => H [1, 1, 0, 1, 0] [K] (F.keys_TakeNodes.l11010.st a0 x0 x1)) a0 from by intro H; kernel_rfl) (F.keys_TakeNodes.at K))
noncomputable def V.keys_TakeNodes.l11010 (a0 : List TEntry) (x0 : Int) (x1 : List TNode) := lim fun v => F.keys_TakeNodes.l11010 (v 0) (v 1) a0 x0 x1
noncomputable def V.keys_TakeNodes (a0 : List TEntry) := lim fun v => F.keys_TakeNodes (v 0) a0
theorem V.keys_TakeNodes.l11010.of a0 x0 x1 {r} (h : F.keys_TakeNodes.l11010.B V.elem_TakeNode V.keys_TakeNodes.l11010 a0 x0 x1 = some r) : V.keys_TakeNodes.l11010 a0 x0 x1 = some r :=
  App.to (App.step 1 (fun v => F.keys_TakeNodes.l11010.eq (v 0) (v 1) a0 x0 x1) (by unfold F.keys_TakeNodes.l11010.B; repeat' first | exact App.val | exact App.no | exact App.lim | apply App.cond | apply App.guard | apply App.meet | apply App.ite | refine App.bind ?_ fun _ => ?_)) h
theorem V.keys_TakeNodes.of a0 {r} (h : F.keys_TakeNodes.B V.keys_TakeNodes.l11010 a0 = some r) : V.keys_TakeNodes a0 = some r :=
  App.to (App.step 0 (fun v => F.keys_TakeNodes.eq (v 0) a0) (by unfold F.keys_TakeNodes.B; repeat' first | exact App.val | exact App.no | exact App.lim | exact (App.enter 1 App.lim) | apply App.cond | apply App.guard | apply App.meet | apply App.ite | refine App.bind ?_ fun _ => ?_)) h
noncomputable def F.elem_TakeEdge (K : Nat) (a0 : ByteArray) (a1 : ByteArray) : Option (TEdge × Int) := evFn Try.prog sg K 110 [.sc (.val (.string a0)), .sc (.val (.string a1))] []
noncomputable def F.elem_TakeEdge.B (c0 : (ByteArray) → Option (TScan)) (c1 : (TScan) → (Int) → Option (ByteArray × TScan)) (c2 : (TScan) → Option ((List ByteArray) × (List TProp) × TScan)) (c3 : (TScan) → Option (Int × TScan)) (c4 : (TEdge) → Option (Int)) (a0 : ByteArray) (a1 : ByteArray) : Option (TEdge × Int) :=
    ((c0 a1).bind fun t0 => ((c1 (t0.1, t0.2.1, t0.2.2.1, t0.2.2.2) 12).bind fun t1 => ((c1 (t1.2.1, t1.2.2.1, t1.2.2.2.1, t1.2.2.2.2) 12).bind fun t2 => ((c2 (t2.2.1, t2.2.2.1, t2.2.2.2.1, t2.2.2.2.2)).bind fun t3 => ((c3 (t3.2.2.1, t3.2.2.2.1, t3.2.2.2.2.1, t3.2.2.2.2.2)).bind fun t4 => (bif (t4.1 != 0) then (some (((⟨#[]⟩ : ByteArray), (⟨#[]⟩ : ByteArray), (⟨#[]⟩ : ByteArray), [], []), 3)) else ((c4 (a0, t1.1, t2.1, t3.1, t3.2.1)).bind fun t5 => (bif (t5 != 0) then (some (((⟨#[]⟩ : ByteArray), (⟨#[]⟩ : ByteArray), (⟨#[]⟩ : ByteArray), [], []), 3)) else (some ((a0, t1.1, t2.1, t3.1, t3.2.1), 0))))))))))
theorem F.elem_TakeEdge.eq K a0 a1 : F.elem_TakeEdge (K + 1) a0 a1 = F.elem_TakeEdge.B (F.scan_New K) (F.scan_Scan_Text K) (F.elem_read K) (F.scan_Scan_End K) (F.elem_CheckEdge K) a0 a1 := by kernel_rfl
noncomputable def V.elem_TakeEdge (a0 : ByteArray) (a1 : ByteArray) := lim fun v => F.elem_TakeEdge (v 0) a0 a1
theorem V.elem_TakeEdge.of a0 a1 {r} (h : F.elem_TakeEdge.B V.scan_New V.scan_Scan_Text V.elem_read V.scan_Scan_End V.elem_CheckEdge a0 a1 = some r) : V.elem_TakeEdge a0 a1 = some r :=
  App.to (App.step 0 (fun v => F.elem_TakeEdge.eq (v 0) a0 a1) (by unfold F.elem_TakeEdge.B; repeat' first | exact App.val | exact App.no | exact App.lim | apply App.cond | apply App.guard | apply App.meet | apply App.ite | refine App.bind ?_ fun _ => ?_)) h
noncomputable def F.keys_TakeEdges (K : Nat) (a0 : List TEntry) : Option ((List TEdge) × Int) := evFn Try.prog sg K 56 [.sc (.list sEntry a0 false)] []
noncomputable def F.keys_TakeEdges.at (K : Nat) (p ns : List Nat) (s : St) : Option ((List TEdge) × Int) := atFn Try.prog sg K 56 0 p ns s
noncomputable def F.keys_TakeEdges.in (K : Nat) (H : List Nat → List Nat → St → Option ((List TEdge) × Int)) (p ns : List Nat) (s : St) : Option ((List TEdge) × Int) := inFn Try.prog sg K 56 0 [] H p ns s
theorem F.keys_TakeEdges.in_eq K p ns s : F.keys_TakeEdges.at K p ns s = F.keys_TakeEdges.in K (F.keys_TakeEdges.at K) p ns s := atFn_eq (P := Try.prog) (sg := sg) (K := K) (f := 56) (m := 0) [] p ns s
theorem F.keys_TakeEdges.in_main K a0 : F.keys_TakeEdges (K + 1) a0 = F.keys_TakeEdges.in K (F.keys_TakeEdges.at K) [] [] ⟨slots [.sc (.list sEntry a0 false)] 0, []⟩ := evFn_eq (P := Try.prog) (sg := sg) (K := K) (f := 56) (args := [.sc (.list sEntry a0 false)]) (σ := []) [] (by kernel_rfl)
def F.keys_TakeEdges.l11010.st (a0 : List TEntry) (x0 : Int) (x1 : List TEdge) : St := ⟨[(4, .one (.sc (.own 0 none))), (9, vL sEntry a0), (10, vI (a0.length : Int)), (11, vI x0)], [.elems sEdge x1]⟩
noncomputable def F.keys_TakeEdges.l11010 (K n0 : Nat) (a0 : List TEntry) (x0 : Int) (x1 : List TEdge) := F.keys_TakeEdges.at K [1, 1, 0, 1, 0] [n0] (F.keys_TakeEdges.l11010.st a0 x0 x1)
noncomputable def F.keys_TakeEdges.l11010.B (c0 : (ByteArray) → (ByteArray) → Option (TEdge × Int)) (c1 : (List TEntry) → (Int) → (List TEdge) → Option ((List TEdge) × Int)) (a0 : List TEntry) (x0 : Int) (x1 : List TEdge) : Option ((List TEdge) × Int) :=
    (bif (decide (x0 < (a0.length : Int))) then (guardK (decide (0 ≤ x0) && decide (x0 < (a0.length : Int))) ((c0 ((rd sEntry a0 x0.toNat).1) ((rd sEntry a0 x0.toNat).2)).bind fun t0 => (bif (t0.2 != 0) then (some ([], t0.2)) else (guardK (decide (x1.length + ([(t0.1.1, t0.1.2.1, t0.1.2.2.1, t0.1.2.2.2.1, t0.1.2.2.2.2)]).length ≤ nmax)) (c1 a0 (w64 (x0 + 1)) (x1 ++ [(t0.1.1, t0.1.2.1, t0.1.2.2.1, t0.1.2.2.2.1, t0.1.2.2.2.2)])))))) else (some (x1, 0)))
theorem F.keys_TakeEdges.l11010.eq K n0 a0 x0 x1 : F.keys_TakeEdges.l11010 K (n0 + 1) a0 x0 x1 = F.keys_TakeEdges.l11010.B (F.elem_TakeEdge K) (F.keys_TakeEdges.l11010 K n0) a0 x0 x1 := (F.keys_TakeEdges.in_eq K [1, 1, 0, 1, 0] [n0 + 1] (F.keys_TakeEdges.l11010.st a0 x0 x1)).trans ((show ∀ H, F.keys_TakeEdges.in K H [1, 1, 0, 1, 0] [n0 + 1] (F.keys_TakeEdges.l11010.st a0 x0 x1) = F.keys_TakeEdges.l11010.B (F.elem_TakeEdge K) (fun a0 x0 x1 => H [1, 1, 0, 1, 0] [n0] (F.keys_TakeEdges.l11010.st a0 x0 x1)) a0 x0 x1 from by intro H; kernel_rfl) (F.keys_TakeEdges.at K))
noncomputable def F.keys_TakeEdges.B (c0 : (List TEntry) → (Int) → (List TEdge) → Option ((List TEdge) × Int)) (a0 : List TEntry) : Option ((List TEdge) × Int) :=
    (c0 a0 0 ([]))
theorem F.keys_TakeEdges.eq K a0 : F.keys_TakeEdges (K + 1) a0 = F.keys_TakeEdges.B (F.keys_TakeEdges.l11010 K K) a0 := (F.keys_TakeEdges.in_main K a0).trans ((show ∀ H, F.keys_TakeEdges.in K H [] [] ⟨slots [.sc (.list sEntry a0 false)] 0, []⟩ = F.keys_TakeEdges.B (fun a0 x0 x1 => H [1, 1, 0, 1, 0] [K] (F.keys_TakeEdges.l11010.st a0 x0 x1)) a0 from by intro H; kernel_rfl) (F.keys_TakeEdges.at K))
noncomputable def V.keys_TakeEdges.l11010 (a0 : List TEntry) (x0 : Int) (x1 : List TEdge) := lim fun v => F.keys_TakeEdges.l11010 (v 0) (v 1) a0 x0 x1
noncomputable def V.keys_TakeEdges (a0 : List TEntry) := lim fun v => F.keys_TakeEdges (v 0) a0
theorem V.keys_TakeEdges.l11010.of a0 x0 x1 {r} (h : F.keys_TakeEdges.l11010.B V.elem_TakeEdge V.keys_TakeEdges.l11010 a0 x0 x1 = some r) : V.keys_TakeEdges.l11010 a0 x0 x1 = some r :=
  App.to (App.step 1 (fun v => F.keys_TakeEdges.l11010.eq (v 0) (v 1) a0 x0 x1) (by unfold F.keys_TakeEdges.l11010.B; repeat' first | exact App.val | exact App.no | exact App.lim | apply App.cond | apply App.guard | apply App.meet | apply App.ite | refine App.bind ?_ fun _ => ?_)) h
theorem V.keys_TakeEdges.of a0 {r} (h : F.keys_TakeEdges.B V.keys_TakeEdges.l11010 a0 = some r) : V.keys_TakeEdges a0 = some r :=
  App.to (App.step 0 (fun v => F.keys_TakeEdges.eq (v 0) a0) (by unfold F.keys_TakeEdges.B; repeat' first | exact App.val | exact App.no | exact App.lim | exact (App.enter 1 App.lim) | apply App.cond | apply App.guard | apply App.meet | apply App.ite | refine App.bind ?_ fun _ => ?_)) h
noncomputable def F.pleachlaw31_KeysBack (K : Nat) (a0 : TGraph) : Option (Bool) := evFn Try.prog sg K 11 [.agg [.list sNode a0.1 false, .list sEdge a0.2 false]] []
noncomputable def F.pleachlaw31_KeysBack.B (c0 : (TGraph) → Option (Bool)) (c1 : Option (Bool)) (c2 : (TGraph) → Option (Int)) (c3 : (TGraph) → Option (((List TEntry) × ((List TEntry) × ((List TEntry) × (List TEntry)))) × Int)) (c4 : (List TEntry) → Option ((List TNode) × Int)) (c5 : (List TEntry) → Option ((List TEdge) × Int)) (c6 : (TGraph) → (TGraph) → Option (Bool)) (a0 : TGraph) : Option (Bool) :=
    ((c0 (a0.1, a0.2)).bind fun t0 => (bif (!t0) then ((c1).bind fun t1 => (some t1)) else ((c2 (a0.1, a0.2)).bind fun t2 => (bif (t2 != 0) then ((c1).bind fun t3 => (some t3)) else ((c3 (a0.1, a0.2)).bind fun t4 => ((c4 t4.1.1).bind fun t5 => ((c5 t4.1.2.1).bind fun t6 => (bif (t4.2 == 0) then (bif (t5.2 == 0) then (bif (t6.2 == 0) then ((c6 (t5.1, t6.1) (a0.1, a0.2)).bind fun t7 => (bif t7 then (bif ((t4.1.2.2.1.length : Int) == (a0.2.length : Int)) then (bif ((t4.1.2.2.2.length : Int) == (a0.2.length : Int)) then ((c1).bind fun t8 => (some t8)) else (some false)) else (some false)) else (some false))) else (some false)) else (some false)) else (some false)))))))))
theorem F.pleachlaw31_KeysBack.eq K a0 : F.pleachlaw31_KeysBack (K + 1) a0 = F.pleachlaw31_KeysBack.B (F.pleachref26_Few K) (F.pleachlaw31_awake K) (F.pleachref26_Wrong K) (F.keys_Lay K) (F.keys_TakeNodes K) (F.keys_TakeEdges K) (F.pleachref26_Same K) a0 := by kernel_rfl
noncomputable def V.pleachlaw31_KeysBack (a0 : TGraph) := lim fun v => F.pleachlaw31_KeysBack (v 0) a0
theorem V.pleachlaw31_KeysBack.of a0 {r} (h : F.pleachlaw31_KeysBack.B V.pleachref26_Few V.pleachlaw31_awake V.pleachref26_Wrong V.keys_Lay V.keys_TakeNodes V.keys_TakeEdges V.pleachref26_Same a0 = some r) : V.pleachlaw31_KeysBack a0 = some r :=
  App.to (App.step 0 (fun v => F.pleachlaw31_KeysBack.eq (v 0) a0) (by unfold F.pleachlaw31_KeysBack.B; repeat' first | exact App.val | exact App.no | exact App.lim | apply App.cond | apply App.guard | apply App.meet | apply App.ite | refine App.bind ?_ fun _ => ?_)) h

end Go.Proofs.Ytdblhdpnllckhaa.AE
end
section
set_option linter.unusedVariables false
set_option linter.unusedSimpArgs false
namespace Go.Proofs.Ytdblhdpnllckhaa.AE
open Go

theorem w64_id {x : Int} (h0 : -9223372036854775808 ≤ x) (h1 : x ≤ 9223372036854775807) : w64 x = x := by
  show IntKind.i64.wrap x = x
  simp [IntKind.wrap, IntKind.bits, IntKind.signed]
  omega
theorem u64_id {x : Int} (h0 : 0 ≤ x) (h1 : x ≤ 18446744073709551615) : IntKind.wrap .u64 x = x := by
  have : IntKind.u64.wrap x = x % 18446744073709551616 := by simp [IntKind.wrap, IntKind.bits, IntKind.signed]
  rw [this]; omega
theorem u64_mod (x : Int) : IntKind.wrap .u64 x = x % 18446744073709551616 := by simp [IntKind.wrap, IntKind.bits, IntKind.signed]
theorem u8_mod (x : Int) : IntKind.wrap .u8 x = x % 256 := by simp [IntKind.wrap, IntKind.bits, IntKind.signed]
theorem w64_up {i n : Nat} (h : i < n) (hn : n ≤ 140737488351232) : w64 ((i : Int) + 1) = ((i + 1 : Nat) : Int) := by rw [w64_id (by omega) (by omega)]; omega
theorem w64_dn {i n : Nat} (h : i < n) (hn : n ≤ 140737488351232) (h0 : 0 < i) : w64 ((i : Int) - 1) = ((i - 1 : Nat) : Int) := by rw [w64_id (by omega) (by omega)]; omega

theorem guard_of {α : Type} {g : Bool} {a : Option α} (h : g = true) : guardK g a = a := by rw [h]; rfl
theorem guard_dec {α : Type} {p : Prop} [Decidable p] {a : Option α} (h : p) : guardK (decide p) a = a := guard_of (decide_eq_true h)
/-- Inside a row. -/
theorem guard_in {α : Type} {i n : Nat} {a : Option α} (h : i < n) : guardK (decide (0 ≤ (i : Int)) && decide ((i : Int) < (n : Int))) a = a := guard_of (by simp [h])
theorem if_in {α : Type} {i n : Nat} {a b : α} (h : i < n) : (bif decide ((i : Int) < (n : Int)) then a else b) = a := by simp [h]
theorem if_out {α : Type} {i n : Nat} {a b : α} (h : n ≤ i) : (bif decide ((i : Int) < (n : Int)) then a else b) = b := by simp [Nat.not_lt.2 h]
theorem if_yes {α : Type} {p : Prop} [Decidable p] {a b : α} (h : p) : (bif decide p then a else b) = a := by simp [h]
theorem if_no {α : Type} {p : Prop} [Decidable p] {a b : α} (h : ¬ p) : (bif decide p then a else b) = b := by simp [h]
theorem nat_cast (i : Nat) : ((i : Nat) : Int).toNat = i := rfl
theorem meet_self {α : Type} (a : Option α) : meet a a = a := by unfold meet; simp
theorem data_len (s : ByteArray) : s.data.toList.length = s.size := by rw [Array.length_toList]; rfl
theorem toList_size (s : ByteArray) : s.toList.length = s.size := by rw [ByteArray.toList_eq]; exact data_len s
theorem toList_nil {s : ByteArray} : s.toList = [] ↔ s.size = 0 := by
  rw [← toList_size, List.length_eq_zero_iff]
theorem bytes_ext {s t : ByteArray} (h : s.toList = t.toList) : s = t := by
  rw [ByteArray.toList_eq, ByteArray.toList_eq] at h
  have : s.data = t.data := by rwa [← Array.toList_inj]
  cases s; cases t; simp_all
theorem strEq_iff {s t : ByteArray} : strEq s t = true ↔ s = t := by
  unfold strEq
  rw [beq_iff_eq]
  exact ⟨bytes_ext, fun h => by rw [h]⟩
theorem strEq_self (s : ByteArray) : strEq s s = true := strEq_iff.2 rfl
theorem strEq_no {s t : ByteArray} (h : s ≠ t) : strEq s t = false := by
  cases hb : strEq s t with
  | false => rfl
  | true => exact absurd (strEq_iff.1 hb) h
theorem strEq_dec (s t : ByteArray) : strEq s t = decide (s = t) := by
  by_cases h : s = t
  · rw [h, strEq_self]; simp
  · rw [strEq_no h]; simp [h]
/-! ### The order of texts -/

theorem less_leq : ∀ x y : List UInt8, (Op.bytesLess x y || x == y) = !(Op.bytesLess y x)
  | [], [] => by simp [Op.bytesLess]
  | [], b :: y => by simp [Op.bytesLess]
  | a :: x, [] => by simp [Op.bytesLess]
  | a :: x, b :: y => by
    have ih := less_leq x y
    by_cases h1 : a < b
    · have h2 : ¬ b < a := by simp only [UInt8.lt_iff_toNat_lt] at *; omega
      have h3 : ¬ b = a := by rintro rfl; simp at h1
      simp [Op.bytesLess, h1, h2, h3]
    · by_cases h2 : b < a
      · have h3 : ¬ b = a := by rintro rfl; simp at h2
        have h4 : ¬ a = b := fun h => h3 h.symm
        simp [Op.bytesLess, h1, h2, h4]
      · have h3 : a = b := by
          apply UInt8.toNat_inj.1
          simp only [UInt8.lt_iff_toNat_lt] at *
          omega
        subst h3
        simp [Op.bytesLess, h1] at ih ⊢
        exact ih
theorem less_irr : ∀ x : List UInt8, Op.bytesLess x x = false
  | [] => rfl
  | a :: x => by
    have : ¬ a < a := by simp
    simp [Op.bytesLess, less_irr x, this]
theorem less_trans : ∀ x y z : List UInt8, Op.bytesLess x y = true → Op.bytesLess y z = true → Op.bytesLess x z = true
  | _, [], _, h, _ => by simp [Op.bytesLess] at h
  | _, _ :: _, [], _, h => by simp [Op.bytesLess] at h
  | [], b :: y, c :: z, _, _ => rfl
  | a :: x, b :: y, c :: z, h1, h2 => by
    simp only [Op.bytesLess, Bool.or_eq_true, Bool.and_eq_true, decide_eq_true_eq, beq_iff_eq] at h1 h2 ⊢
    rcases h1 with h1 | ⟨rfl, h1⟩
    · rcases h2 with h2 | ⟨rfl, h2⟩
      · left; simp only [UInt8.lt_iff_toNat_lt] at *; omega
      · exact .inl h1
    · rcases h2 with h2 | ⟨rfl, h2⟩
      · exact .inl h2
      · exact .inr ⟨rfl, less_trans x y z h1 h2⟩
/-- Of two texts one is less, or they are the same. -/
theorem lt_or (a b : ByteArray) : (strLt a b || strEq a b) = !strLt b a := less_leq a.toList b.toList
theorem lt_irr (a : ByteArray) : strLt a a = false := less_irr a.toList
theorem lt_trans {a b c : ByteArray} (h : strLt a b = true) (g : strLt b c = true) : strLt a c = true := less_trans _ _ _ h g
theorem lt_total {a b : ByteArray} (h : strLt a b = false) (hn : a ≠ b) : strLt b a = true := by
  have := lt_or a b
  rw [h, strEq_no hn] at this
  cases hb : strLt b a with
  | true => rfl
  | false => rw [hb] at this; simp at this
theorem size_zero {s : ByteArray} (h : s.size = 0) : s = (⟨#[]⟩ : ByteArray) := by
  apply bytes_ext
  rw [toList_nil.2 h]
  exact (toList_nil.2 rfl).symm
theorem strEq_nil (s : ByteArray) : strEq s (⟨#[]⟩ : ByteArray) = (s.size == 0) := by
  rw [Bool.eq_iff_iff, strEq_iff]
  simp only [beq_iff_eq]
  exact ⟨fun h => by rw [h]; rfl, size_zero⟩
theorem strOfNums_size (xs : List Int) : (bytesOf xs).size = xs.length := by unfold bytesOf; simp [ByteArray.size]
theorem strOfNums_append (xs ys : List Int) : bytesOf (xs ++ ys) = bytesOf xs ++ bytesOf ys := by
  apply ByteArray.ext
  simp [bytesOf]
theorem bt_data (s : ByteArray) (i : Nat) (h : i < s.size) : byteAt s (i : Int) = ((s.data.toList[i]'(by rw [Array.length_toList]; exact h)).toNat : Int) := by
  show (((s.data.toList.getD (i : Int).toNat 0).toNat : Nat) : Int) = _
  rw [nat_cast, List.getD_eq_getElem?_getD, List.getElem?_eq_getElem (by rw [data_len]; exact h)]
  rfl
theorem extract_size (s : ByteArray) (a b : Nat) : (s.extract a b).size ≤ s.size := by
  rw [ByteArray.size_extract]; omega

theorem rd_get {e : Sh} {l : List (den e)} {i : Nat} (h : i < l.length) : rd e l i = l[i] := by
  simp [rd, List.getD_eq_getElem?_getD, List.getElem?_eq_getElem h]
theorem rd_mem {e : Sh} {l : List (den e)} {i : Nat} (h : i < l.length) : rd e l i ∈ l := by rw [rd_get h]; exact List.getElem_mem h
theorem drop_rd {e : Sh} {l : List (den e)} {i : Nat} (h : i < l.length) : l.drop i = rd e l i :: l.drop (i + 1) := by rw [rd_get h]; exact List.drop_eq_getElem_cons h
theorem take_rd {e : Sh} {l : List (den e)} {i : Nat} (h : i < l.length) : l.take (i + 1) = l.take i ++ [rd e l i] := by
  rw [rd_get h, List.take_add_one, List.getElem?_eq_getElem h]; rfl

/-- A loop that ends at the first place at which the step tells something; else what is told at the end. -/
def scanG {α : Type} (step : Nat → Option α) (fin : α) : Nat → Nat → α
  | 0, _ => fin
  | d + 1, i => match step i with
    | some r => r
    | none => scanG step fin d (i + 1)
abbrev scanI (step : Nat → Option Int) : Nat → Nat → Int := scanG step 0
theorem scanG_succ {α : Type} (step : Nat → Option α) (fin : α) (d i : Nat) : scanG step fin (d + 1) i = (step i).getD (scanG step fin d (i + 1)) := by
  show (match step i with | some r => r | none => scanG step fin d (i + 1)) = _
  cases step i <;> rfl
theorem scanI_succ (step : Nat → Option Int) (d i : Nat) : scanI step (d + 1) i = (step i).getD (scanI step d (i + 1)) := scanG_succ step 0 d i
end Go.Proofs.Ytdblhdpnllckhaa.AE
end
section
set_option linter.unusedVariables false
set_option linter.unusedSimpArgs false
namespace Go.Proofs.Ytdblhdpnllckhaa.AE
open Go

def okc (c : Int) : Bool := (decide (97 ≤ c) && decide (c ≤ 122)) || (decide (48 ≤ c) && decide (c ≤ 57)) || c == 45
theorem name_fits_ok (c : Int) : V.name_fits c = some (okc c) := by
  refine V.name_fits.of _ ?_
  unfold F.name_fits.B okc
  by_cases a1 : c ≥ 97 <;> by_cases a2 : c ≤ 122 <;> by_cases a3 : c ≥ 48 <;> by_cases a4 : c ≤ 57 <;> simp [Bool.cond_eq_ite, a1, a2, a3, a4] <;> omega
/-- From place i on, d bytes, all fit. -/
def okFrom (s : ByteArray) : Nat → Nat → Bool
  | 0, _ => true
  | d + 1, i => okc (byteAt s i) && okFrom s d (i + 1)
def nameB (s : ByteArray) : Bool := decide (1 ≤ s.size) && decide (s.size ≤ 12) && okFrom s s.size 0

theorem name_Check_l (s : ByteArray) (hs : s.size ≤ 140737488351232) : ∀ d i : Nat, i + d = s.size → V.name_Check.l11010 s (i : Int) = some (if okFrom s d i then 0 else 2)
  | 0, i, h => by
    refine V.name_Check.l11010.of _ _ ?_
    unfold F.name_Check.l11010.B
    rw [if_out (by omega)]
    simp [okFrom]
  | d + 1, i, h => by
    refine V.name_Check.l11010.of _ _ ?_
    unfold F.name_Check.l11010.B
    rw [if_in (by omega), guard_in (by omega), name_fits_ok, Option.bind_some, w64_up (show i < s.size by omega) hs, name_Check_l s hs d (i + 1) (by omega)]
    cases hc : okc (byteAt s (i : Int)) <;> simp [okFrom, hc]
theorem name_Check_ok (s : ByteArray) (hs : s.size ≤ 140737488351232) : V.name_Check s = some (if nameB s then 0 else 2) := by
  refine V.name_Check.of _ ?_
  unfold F.name_Check.B
  rw [strEq_nil]
  have := name_Check_l s hs s.size 0 (by omega)
  rw [show (0 : Int) = ((0 : Nat) : Int) from rfl, this]
  by_cases h0 : s.size = 0
  · simp [Bool.cond_eq_ite, h0, nameB]
  · by_cases h2 : s.size ≤ 12
    · have h1 : 1 ≤ s.size := by omega
      have h3 : ¬ (s.size : Int) > 12 := by omega
      simp [Bool.cond_eq_ite, h0, h1, h2, h3, nameB]
    · have h3 : (s.size : Int) > 12 := by omega
      simp [Bool.cond_eq_ite, h0, h2, h3, nameB]

theorem refIs_l (s : ByteArray) (hs : s.size ≤ 140737488351232) : ∀ d i : Nat, i + d = s.size → V.pleachref05_Is.l1010 s (i : Int) = some (okFrom s d i && (decide (1 ≤ s.size) && decide (s.size ≤ 12)))
  | 0, i, h => by
    refine V.pleachref05_Is.l1010.of _ _ ?_
    unfold F.pleachref05_Is.l1010.B
    rw [if_out (by omega)]
    by_cases h1 : 1 ≤ s.size
    · have h2 : (s.size : Int) ≥ 1 := by omega
      simp [okFrom, h1, h2]
      omega
    · have h2 : ¬ (s.size : Int) ≥ 1 := by omega
      simp [okFrom, h1, h2]
  | d + 1, i, h => by
    refine V.pleachref05_Is.l1010.of _ _ ?_
    unfold F.pleachref05_Is.l1010.B
    rw [if_in (by omega)]
    simp only [guard_in (show i < s.size by omega), w64_up (show i < s.size by omega) hs, refIs_l s hs d (i + 1) (by omega), okFrom, okc]
    generalize byteAt s (i : Int) = c
    generalize okFrom s d (i + 1) = b
    by_cases a1 : c ≥ 97 <;> by_cases a2 : c ≤ 122 <;> by_cases a3 : c ≥ 48 <;> by_cases a4 : c ≤ 57 <;> by_cases a5 : c = 45 <;> simp [Bool.cond_eq_ite, a1, a2, a3, a4, a5] <;> omega
theorem refIs_ok (s : ByteArray) (hs : s.size ≤ 140737488351232) : V.pleachref05_Is s = some (nameB s) := by
  refine V.pleachref05_Is.of _ ?_
  unfold F.pleachref05_Is.B
  rw [show (0 : Int) = ((0 : Nat) : Int) from rfl, refIs_l s hs s.size 0 (by omega), nameB, Bool.and_comm]

def valueB (v : TValue) : Bool := (v.1 == 1 && (v.2.1 == 0 || v.2.1 == 1) && v.2.2.size == 0) || (v.1 == 2 && v.2.2.size == 0) || (v.1 == 3 && v.2.1 == 0 && decide (v.2.2.size ≤ 64))
theorem value_Check_ok (v : TValue) : V.value_Check v = some (if valueB v then 0 else 2) := by
  refine V.value_Check.of _ ?_
  obtain ⟨a, b, s⟩ := v
  unfold F.value_Check.B valueB
  simp only [strEq_nil]
  by_cases a1 : a = 1
  · subst a1
    by_cases b0 : b = 0 <;> by_cases b1 : b = 1 <;> by_cases s0 : s.size = 0 <;> simp [Bool.cond_eq_ite, b0, b1, s0]
  · by_cases a2 : a = 2
    · subst a2
      by_cases s0 : s.size = 0 <;> simp [Bool.cond_eq_ite, s0]
    · by_cases a3 : a = 3
      · subst a3
        by_cases b0 : b = 0 <;> by_cases s0 : s.size ≤ 64 <;> simp [Bool.cond_eq_ite, b0, s0] <;> omega
      · simp [Bool.cond_eq_ite, a1, a2, a3]
theorem refVIs_ok (v : TValue) : V.pleachref06_Is v = some (valueB v) := by
  refine V.pleachref06_Is.of _ ?_
  obtain ⟨a, b, s⟩ := v
  unfold F.pleachref06_Is.B valueB
  simp only [strEq_nil]
  by_cases a1 : a = 1
  · subst a1
    by_cases s0 : s.size = 0 <;> by_cases b0 : b ≥ 0 <;> by_cases b1 : b ≤ 1 <;> simp [Bool.cond_eq_ite, b0, b1, s0] <;> omega
  · by_cases a2 : a = 2
    · subst a2
      by_cases s0 : s.size = 0 <;> simp [Bool.cond_eq_ite, s0]
    · by_cases a3 : a = 3
      · subst a3
        by_cases b0 : b = 0 <;> by_cases s0 : s.size ≤ 64 <;> simp [Bool.cond_eq_ite, b0, s0] <;> omega
      · simp [Bool.cond_eq_ite, a1, a2, a3]

/-! ### Rows that rise -/

def okProps (l : List TProp) : Prop := l.length ≤ 140737488351232 ∧ ∀ p ∈ l, p.1.size ≤ 140737488351232 ∧ p.2.2.2.size ≤ 140737488351232 ∧ -9223372036854775808 ≤ p.2.2.1 ∧ p.2.2.1 ≤ 9223372036854775807
def okTexts (l : List ByteArray) : Prop := l.length ≤ 140737488351232 ∧ ∀ s ∈ l, s.size ≤ 140737488351232
def propStep (l : List TProp) (i : Nat) : Option Int :=
  if (nameB (rd sProp l i).1 && valueB (rd sProp l i).2) = false then some 2
  else if 0 < i ∧ strLt (rd sProp l (i - 1)).1 (rd sProp l i).1 = false then some 4 else none
def textStep (l : List ByteArray) (i : Nat) : Option Int :=
  if nameB (rd .str l i) = false then some 2
  else if 0 < i ∧ strLt (rd .str l (i - 1)) (rd .str l i) = false then some 4 else none
def propsN (l : List TProp) : Int := if l.length > 8 then 5 else scanI (propStep l) l.length 0
def rowN (l : List ByteArray) : Int := scanI (textStep l) l.length 0
def restN (labels : List ByteArray) (props : List TProp) : Int := if labels.length > 8 then 5 else if rowN labels = 0 then propsN props else rowN labels

theorem CheckProps_l (l : List TProp) (hl : okProps l) : ∀ d i : Nat, i + d = l.length → V.elem_CheckProps.l11010 l (i : Int) = some (scanI (propStep l) d i)
  | 0, i, h => by
    refine V.elem_CheckProps.l11010.of _ _ ?_
    unfold F.elem_CheckProps.l11010.B
    rw [if_out (by omega)]
    rfl
  | d + 1, i, h => by
    refine V.elem_CheckProps.l11010.of _ _ ?_
    unfold F.elem_CheckProps.l11010.B
    have hi : i < l.length := by omega
    rw [if_in hi, guard_in hi]
    simp only [nat_cast, name_Check_ok _ (hl.2 _ (rd_mem (e := sProp) hi)).1, Option.bind_some, value_Check_ok, w64_up hi hl.1, CheckProps_l l hl d (i + 1) (by omega)]
    rw [scanI_succ]
    unfold propStep
    cases hn : nameB (rd sProp l i).1 with
    | false => simp
    | true =>
      cases hv : valueB (rd sProp l i).2 with
      | false => simp [hv]
      | true =>
        by_cases h0 : 0 < i
        · rw [w64_dn hi hl.1 h0, guard_in (show i - 1 < l.length by omega), nat_cast]
          cases hless : strLt (rd sProp l (i - 1)).1 (rd sProp l i).1 <;> simp [hless, hv, h0]
        · have h0 : i = 0 := by omega
          subst h0
          simp [hv]
theorem CheckProps_ok (l : List TProp) (hl : okProps l) : V.elem_CheckProps l = some (propsN l) := by
  refine V.elem_CheckProps.of _ ?_
  unfold F.elem_CheckProps.B propsN
  have := CheckProps_l l hl l.length 0 (by omega)
  rw [show (0 : Int) = ((0 : Nat) : Int) from rfl, this]
  by_cases h : l.length > 8
  · rw [if_yes (by omega), if_pos h]
  · rw [if_no (by omega), if_neg h]
theorem refProps_l (l : List TProp) (hl : okProps l) : ∀ d i : Nat, i + d = l.length → V.pleachref25_Props.l11010 l (i : Int) = some (scanI (propStep l) d i)
  | 0, i, h => by
    refine V.pleachref25_Props.l11010.of _ _ ?_
    unfold F.pleachref25_Props.l11010.B
    rw [if_out (by omega)]
    rfl
  | d + 1, i, h => by
    refine V.pleachref25_Props.l11010.of _ _ ?_
    unfold F.pleachref25_Props.l11010.B
    have hi : i < l.length := by omega
    rw [if_in hi, guard_in hi]
    simp only [nat_cast, refIs_ok _ (hl.2 _ (rd_mem (e := sProp) hi)).1, Option.bind_some, refVIs_ok, w64_up hi hl.1, refProps_l l hl d (i + 1) (by omega), guard_in hi, lt_or]
    rw [scanI_succ]
    unfold propStep
    cases hn : nameB (rd sProp l i).1 with
    | false => simp
    | true =>
      cases hv : valueB (rd sProp l i).2 with
      | false => simp [hv]
      | true =>
        by_cases h0 : 0 < i
        · rw [w64_dn hi hl.1 h0, guard_in (show i - 1 < l.length by omega), nat_cast]
          cases hless : strLt (rd sProp l (i - 1)).1 (rd sProp l i).1 <;> simp [hless, hv, h0]
        · have h0 : i = 0 := by omega
          subst h0
          simp [hv]
theorem refProps_ok (l : List TProp) (hl : okProps l) : V.pleachref25_Props l = some (propsN l) := by
  refine V.pleachref25_Props.of _ ?_
  unfold F.pleachref25_Props.B propsN
  have := refProps_l l hl l.length 0 (by omega)
  rw [show (0 : Int) = ((0 : Nat) : Int) from rfl, this]
  by_cases h : l.length > 8
  · rw [if_yes (by omega), if_pos h]
  · rw [if_no (by omega), if_neg h]

theorem Row_l (l : List ByteArray) (hl : okTexts l) : ∀ d i : Nat, i + d = l.length → V.name_Row.l1010 l (i : Int) = some (scanI (textStep l) d i)
  | 0, i, h => by
    refine V.name_Row.l1010.of _ _ ?_
    unfold F.name_Row.l1010.B
    rw [if_out (by omega)]
    rfl
  | d + 1, i, h => by
    refine V.name_Row.l1010.of _ _ ?_
    unfold F.name_Row.l1010.B
    have hi : i < l.length := by omega
    rw [if_in hi, guard_in hi]
    simp only [nat_cast, name_Check_ok _ (hl.2 _ (rd_mem (e := .str) hi)), Option.bind_some, w64_up hi hl.1, Row_l l hl d (i + 1) (by omega)]
    rw [scanI_succ]
    unfold textStep
    cases hn : nameB (rd .str l i) with
    | false => simp
    | true =>
      by_cases h0 : 0 < i
      · rw [w64_dn hi hl.1 h0, guard_in (show i - 1 < l.length by omega), nat_cast]
        cases hless : strLt (rd .str l (i - 1)) (rd .str l i) <;> simp [hless, h0]
      · have h0 : i = 0 := by omega
        subst h0
        simp
theorem Row_ok (l : List ByteArray) (hl : okTexts l) : V.name_Row l = some (rowN l) := by
  refine V.name_Row.of _ ?_
  unfold F.name_Row.B rowN
  exact Row_l l hl l.length 0 (by omega)
theorem refRow_l (l : List ByteArray) (hl : okTexts l) : ∀ d i : Nat, i + d = l.length → V.pleachref05_Row.l1010 l (i : Int) = some (scanI (textStep l) d i)
  | 0, i, h => by
    refine V.pleachref05_Row.l1010.of _ _ ?_
    unfold F.pleachref05_Row.l1010.B
    rw [if_out (by omega)]
    rfl
  | d + 1, i, h => by
    refine V.pleachref05_Row.l1010.of _ _ ?_
    unfold F.pleachref05_Row.l1010.B
    have hi : i < l.length := by omega
    rw [if_in hi, guard_in hi]
    simp only [nat_cast, refIs_ok _ (hl.2 _ (rd_mem (e := .str) hi)), Option.bind_some, w64_up hi hl.1, refRow_l l hl d (i + 1) (by omega), guard_in hi, lt_or]
    rw [scanI_succ]
    unfold textStep
    cases hn : nameB (rd .str l i) with
    | false => simp
    | true =>
      by_cases h0 : 0 < i
      · rw [w64_dn hi hl.1 h0, guard_in (show i - 1 < l.length by omega), nat_cast]
        cases hless : strLt (rd .str l (i - 1)) (rd .str l i) <;> simp [hless, h0]
      · have h0 : i = 0 := by omega
        subst h0
        simp
theorem refRow_ok (l : List ByteArray) (hl : okTexts l) : V.pleachref05_Row l = some (rowN l) := by
  refine V.pleachref05_Row.of _ ?_
  unfold F.pleachref05_Row.B rowN
  exact refRow_l l hl l.length 0 (by omega)
theorem rest_ok (a : List ByteArray) (l : List TProp) (ha : okTexts a) (hl : okProps l) : V.elem_rest a l = some (restN a l) := by
  refine V.elem_rest.of _ _ ?_
  unfold F.elem_rest.B restN
  rw [Row_ok a ha, CheckProps_ok l hl]
  by_cases h : a.length > 8
  · rw [if_yes (by omega), if_pos h]
  · rw [if_no (by omega), if_neg h]
    by_cases h0 : rowN a = 0 <;> simp [Bool.cond_eq_ite, h0]
theorem refRest_ok (a : List ByteArray) (l : List TProp) (ha : okTexts a) (hl : okProps l) : V.pleachref25_rest a l = some (restN a l) := by
  refine V.pleachref25_rest.of _ _ ?_
  unfold F.pleachref25_rest.B restN
  rw [refRow_ok a ha, refProps_ok l hl]
  by_cases h : a.length > 8
  · rw [if_yes (by omega), if_pos h]
  · rw [if_no (by omega), if_neg h]
    by_cases h0 : rowN a = 0 <;> simp [Bool.cond_eq_ite, h0]
end Go.Proofs.Ytdblhdpnllckhaa.AE
end
section
set_option linter.unusedVariables false
set_option linter.unusedSimpArgs false
namespace Go.Proofs.Ytdblhdpnllckhaa.AE
open Go

/-- A number's bytes, seven bits a byte, 128 more in all but the last. -/
def vput : Nat → Nat → List Int
  | 0, _ => []
  | f + 1, n => if n < 128 then [(n : Int)] else ((n % 128 + 128 : Nat) : Int) :: vput f (n / 128)
theorem vput_len : ∀ f n : Nat, (vput f n).length ≤ f
  | 0, _ => by simp [vput]
  | f + 1, n => by
    unfold vput
    split
    · simp
    · have := vput_len f (n / 128)
      simp
      omega
theorem vput_pos (f n : Nat) : 0 < (vput (f + 1) n).length := by
  unfold vput
  split <;> simp
def numB (n : Nat) : ByteArray := bytesOf (vput 10 n)
theorem numB_size (n : Nat) : (numB n).size ≤ 10 := by unfold numB; rw [strOfNums_size]; exact vput_len 10 n
theorem or128 (c : Int) (h0 : 0 ≤ c) (h1 : c < 256) : (((BitVec.ofInt 8 c ||| BitVec.ofInt 8 128).toNat : Nat) : Int) = c % 128 + 128 := by
  obtain ⟨n, rfl⟩ := Int.eq_ofNat_of_zero_le h0
  have key : ∀ m : Fin 256, (BitVec.ofInt 8 (m.1 : Int) ||| BitVec.ofInt 8 128).toNat = m.1 % 128 + 128 := by decide +kernel
  have := key ⟨n, by omega⟩
  simp only at this
  rw [this]
  omega
theorem repl_len {α : Type} (a : α) : ∀ n, (repl n a).length = n
  | 0 => rfl
  | n + 1 => by simp [repl, repl_len a n]
theorem take_set_succ {α : Type} (l : List α) (i : Nat) (x : α) (h : i < l.length) : (l.set i x).take (i + 1) = l.take i ++ [x] := by
  rw [List.take_add_one, List.take_set, List.set_eq_of_length_le (by rw [List.length_take]; omega)]
  simp [h]
theorem varint_Put_l (a : Int) : ∀ (f n i : Nat) (arr : List Int), n < 128 ^ (f + 1) → i + f + 1 ≤ 10 → arr.length = 10 → V.varint_Put.l11100 a (n : Int) (i : Int) arr = some (bytesOf (arr.take i ++ vput (f + 1) n))
  | f, n, i, arr, hn, hi, ha => by
    refine V.varint_Put.l11100.of _ _ _ _ ?_
    unfold F.varint_Put.l11100.B
    have e7 : Int.fdiv (n : Int) (2 ^ 7) = ((n / 128 : Nat) : Int) := by rw [Int.fdiv_eq_ediv_of_nonneg _ (by decide)]; rfl
    rw [e7, w64_id (x := (i : Int) + 1) (by omega) (by omega)]
    simp only [u8_mod]
    by_cases h : n < 128
    · rw [if_no (by omega), guard_of (by simp [ha]; omega), guard_of (by simp [ha]; omega)]
      have e1 : (n : Int) % 256 = n := by omega
      have e2 : ((i : Int) + 1).toNat = i + 1 := rfl
      rw [e1, e2, nat_cast, List.drop_zero, take_set_succ _ _ _ (by omega)]
      have e3 : vput (f + 1) n = [(n : Int)] := by unfold vput; rw [if_pos h]
      rw [e3]
    · cases f with
      | zero => simp at hn; omega
      | succ f =>
        rw [if_yes (by omega), guard_of (by simp [ha]; omega), or128 _ (by omega) (by omega), nat_cast]
        have ih := varint_Put_l a f (n / 128) (i + 1) (arr.set i (((n : Int) % 256 % 128 + 128) % 256)) (by rw [Nat.pow_succ] at hn; exact Nat.div_lt_of_lt_mul (by omega)) (by omega) (by simp [ha])
        rw [show ((i : Int) + 1) = ((i + 1 : Nat) : Int) by omega, ih, take_set_succ _ _ _ (by omega)]
        have e3 : vput (f + 1 + 1) n = ((n % 128 + 128 : Nat) : Int) :: vput (f + 1) (n / 128) := by rw [vput, if_neg h]
        rw [e3, List.append_assoc]
        have e4 : ((n : Int) % 256 % 128 + 128) % 256 = ((n % 128 + 128 : Nat) : Int) := by omega
        rw [e4]
        rfl
theorem varint_Put_ok {n : Nat} (h1 : n < 18446744073709551616) : V.varint_Put (n : Int) = some (numB n) := by
  refine V.varint_Put.of _ ?_
  unfold F.varint_Put.B
  have := varint_Put_l (n : Int) 9 n 0 (repl 10 0) (by omega) (by omega) (repl_len _ _)
  rw [show (0 : Int) = ((0 : Nat) : Int) from rfl] at this ⊢
  rw [this]
  rfl
theorem Put_eq {n : Int} (h0 : 0 ≤ n) (h1 : n < 18446744073709551616) : V.varint_Put n = some (numB n.toNat) := by
  obtain ⟨m, rfl⟩ := Int.eq_ofNat_of_zero_le h0
  exact varint_Put_ok (by omega)

theorem one_size (c : Int) : (bytesOf [c]).size = 1 := strOfNums_size [c]
theorem xor_zero (x : Int) (h0 : 0 ≤ x) (h1 : x < 18446744073709551616) : (((BitVec.ofInt 64 x ^^^ BitVec.ofInt 64 0).toNat : Nat) : Int) = x := by
  obtain ⟨n, rfl⟩ := Int.eq_ofNat_of_zero_le h0
  have e2 : (BitVec.ofInt 64 (n : Int) ^^^ BitVec.ofInt 64 0).toNat = n := by
    have : BitVec.ofInt 64 0 = 0#64 := rfl
    rw [this, BitVec.xor_zero, BitVec.toNat_ofInt]
    omega
  rw [e2]
theorem xor_ones (x : Int) (h0 : 0 ≤ x) (h1 : x < 18446744073709551616) : (((BitVec.ofInt 64 x ^^^ BitVec.ofInt 64 18446744073709551615).toNat : Nat) : Int) = 18446744073709551615 - x := by
  obtain ⟨n, rfl⟩ := Int.eq_ofNat_of_zero_le h0
  have : BitVec.ofInt 64 18446744073709551615 = BitVec.allOnes 64 := by decide
  rw [this, BitVec.xor_allOnes, BitVec.toNat_not, BitVec.toNat_ofInt]
  omega
/-- A number's place among 0, -1, 1, -2, 2. -/
def zig (a : Int) : Int := if 0 ≤ a then 2 * a else -2 * a - 1
theorem zig_bound {a : Int} (h0 : -9223372036854775808 ≤ a) (h1 : a ≤ 9223372036854775807) : 0 ≤ zig a ∧ zig a < 18446744073709551616 := by unfold zig; split <;> omega
theorem zig_ok {a : Int} (h0 : -9223372036854775808 ≤ a) (h1 : a ≤ 9223372036854775807) : V.varint_Zig a = some (zig a) := by
  refine V.varint_Zig.of _ ?_
  unfold F.varint_Zig.B zig
  have e1 : (2 : Int) ^ 1 = 2 := rfl
  have e2 : Int.fdiv a (2 ^ 63) = a / 9223372036854775808 := by rw [Int.fdiv_eq_ediv_of_nonneg _ (by decide)]; rfl
  congr 1
  rw [e1, e2]
  by_cases h : 0 ≤ a
  · rw [if_pos h, u64_id (x := a) (by omega) (by omega), u64_id (x := a * 2) (by omega) (by omega), show a / 9223372036854775808 = 0 by omega, u64_id (x := 0) (by omega) (by omega), xor_zero _ (by omega) (by omega), u64_id (by omega) (by omega)]
    omega
  · rw [if_neg h, show a / 9223372036854775808 = -1 by omega]
    have e1 : IntKind.wrap .u64 a = a + 18446744073709551616 := by rw [u64_mod]; omega
    have e2 : IntKind.wrap .u64 (-1) = 18446744073709551615 := by rw [u64_mod]; rfl
    have e3 : IntKind.wrap .u64 ((a + 18446744073709551616) * 2) = 2 * a + 18446744073709551616 := by rw [u64_mod]; omega
    rw [e1, e2, e3, xor_ones _ (by omega) (by omega), u64_id (by omega) (by omega)]
    omega
/-- A text's bytes: how many it has, and these. -/
def textB (s : ByteArray) : ByteArray := numB s.size ++ s
theorem textB_size (s : ByteArray) : (textB s).size ≤ 10 + s.size := by
  unfold textB
  rw [ByteArray.size_append]
  have := numB_size s.size
  omega
theorem PutText_ok (s : ByteArray) (hs : s.size ≤ 140737488351232) : V.scan_PutText s = some (textB s) := by
  refine V.scan_PutText.of _ ?_
  unfold F.scan_PutText.B
  have := numB_size s.size
  rw [u64_id (by omega) (by omega), varint_Put_ok (by omega), Option.bind_some, guard_dec (by simp [i64max]; omega)]
  rfl
theorem PutNum_ok (n : Nat) (h : n ≤ 140737488351232) : V.scan_PutNum (n : Int) = some (numB n) := by
  refine V.scan_PutNum.of _ ?_
  unfold F.scan_PutNum.B
  rw [if_neg (by omega), u64_id (by omega) (by omega), varint_Put_ok (by omega), Option.bind_some]
/-- A value's bytes. -/
def valB (v : TValue) : ByteArray :=
  if valueB v = true then
    (if v.1 = 1 then bytesOf [1, v.2.1] else if v.1 = 2 then bytesOf [2] ++ numB (zig v.2.1).toNat else bytesOf [3] ++ textB v.2.2)
  else ⟨#[]⟩
theorem valB_size (v : TValue) : (valB v).size ≤ 80 := by
  unfold valB
  split
  · rename_i hv
    split
    · simp [strOfNums_size]
    · split
      · rw [ByteArray.size_append, strOfNums_size]
        have := numB_size (zig v.2.1).toNat
        simp; omega
      · rename_i a1 a2
        rw [ByteArray.size_append, strOfNums_size]
        have := textB_size v.2.2
        have h64 : v.2.2.size ≤ 64 := by
          unfold valueB at hv
          simp [a1, a2] at hv
          exact hv.2
        simp; omega
  · simp [ByteArray.size]
theorem value_Put_ok (v : TValue) (hb : -9223372036854775808 ≤ v.2.1 ∧ v.2.1 ≤ 9223372036854775807) : V.value_Put v = some (valB v, if valueB v then 0 else 2) := by
  refine V.value_Put.of _ ?_
  obtain ⟨a, b, s⟩ := v
  unfold F.value_Put.B
  simp only at hb ⊢
  rw [value_Check_ok, Option.bind_some]
  unfold valB
  cases hv : valueB (a, b, s) with
  | false => simp
  | true =>
    simp only [if_true]
    unfold valueB at hv
    by_cases a1 : a = 1
    · subst a1
      simp at hv
      have hb2 : b % 256 = b := by omega
      simp only [u8_mod, hb2]
      rw [guard_dec (by rw [one_size, one_size]; simp [i64max]), ← strOfNums_append]
      rfl
    · by_cases a2 : a = 2
      · subst a2
        have hz := zig_bound hb.1 hb.2
        have e : V.scan_PutInt b = some (numB (zig b).toNat) := by
          refine V.scan_PutInt.of _ ?_
          unfold F.scan_PutInt.B
          have : V.varint_Int b = some (numB (zig b).toNat) := by
            refine V.varint_Int.of _ ?_
            unfold F.varint_Int.B
            rw [zig_ok hb.1 hb.2, Option.bind_some, Put_eq hz.1 hz.2, Option.bind_some]
          rw [this, Option.bind_some]
        have := numB_size (zig b).toNat
        rw [e, Option.bind_some, guard_dec (p := _ ≤ _) (a := some (bytesOf [_] ++ numB (zig b).toNat, (0 : Int))) (by rw [one_size]; simp [i64max]; omega)]
        simp [u8_mod]
      · have a3 : a = 3 := by simp [a1, a2] at hv; exact hv.1.1
        have h64 : s.size ≤ 64 := by simp [a1, a2] at hv; exact hv.2
        subst a3
        have := textB_size s
        rw [PutText_ok s (by omega), Option.bind_some, guard_dec (p := _ ≤ _) (a := some (bytesOf [_] ++ textB s, (0 : Int))) (by rw [one_size]; simp [i64max]; omega)]
        simp [u8_mod]
end Go.Proofs.Ytdblhdpnllckhaa.AE
end
section
set_option linter.unusedVariables false
set_option linter.unusedSimpArgs false
namespace Go.Proofs.Ytdblhdpnllckhaa.AE
open Go

theorem scanI_zero {step : Nat → Option Int} (hs : ∀ i r, step i = some r → r ≠ 0) : ∀ d i, scanI step d i = 0 → ∀ j, i ≤ j → j < i + d → step j = none
  | 0, i, _, j, h1, h2 => by omega
  | d + 1, i, h, j, h1, h2 => by
    rw [scanI_succ] at h
    cases hq : step i with
    | some r => rw [hq] at h; exact absurd h (hs i r hq)
    | none =>
      rw [hq] at h
      by_cases hij : j = i
      · rw [hij]; exact hq
      · exact scanI_zero hs d (i + 1) h j (by omega) (by omega)
theorem propStep_ne (l : List TProp) (i : Nat) (r : Int) (h : propStep l i = some r) : r ≠ 0 := by
  unfold propStep at h
  split at h
  · injection h with h; omega
  · split at h
    · injection h with h; omega
    · cases h
theorem textStep_ne (l : List ByteArray) (i : Nat) (r : Int) (h : textStep l i = some r) : r ≠ 0 := by
  unfold textStep at h
  split at h
  · injection h with h; omega
  · split at h
    · injection h with h; omega
    · cases h
theorem nameB_size {s : ByteArray} (h : nameB s = true) : 1 ≤ s.size ∧ s.size ≤ 12 := by
  unfold nameB at h
  simp at h
  exact ⟨h.1.1, h.1.2⟩
theorem textStep_none {l : List ByteArray} {i : Nat} (h : textStep l i = none) : nameB (rd .str l i) = true ∧ (0 < i → strLt (rd .str l (i - 1)) (rd .str l i) = true) := by
  unfold textStep at h
  split at h
  · cases h
  · rename_i h1
    split at h
    · cases h
    · rename_i h2
      refine ⟨by simpa using h1, fun h0 => ?_⟩
      cases hq : strLt (rd .str l (i - 1)) (rd .str l i) with
      | true => rfl
      | false => exact absurd ⟨h0, hq⟩ h2
theorem propStep_none {l : List TProp} {i : Nat} (h : propStep l i = none) : nameB (rd sProp l i).1 = true ∧ valueB (rd sProp l i).2 = true ∧ (0 < i → strLt (rd sProp l (i - 1)).1 (rd sProp l i).1 = true) := by
  unfold propStep at h
  split at h
  · cases h
  · rename_i h1
    split at h
    · cases h
    · rename_i h2
      have h3 : nameB (rd sProp l i).1 = true ∧ valueB (rd sProp l i).2 = true := by simpa using h1
      refine ⟨h3.1, h3.2, fun h0 => ?_⟩
      cases hq : strLt (rd sProp l (i - 1)).1 (rd sProp l i).1 with
      | true => rfl
      | false => exact absurd ⟨h0, hq⟩ h2
/-- What a row of names, of properties that may be is. -/
theorem rowN_zero {l : List ByteArray} (h : rowN l = 0) {i : Nat} (hi : i < l.length) : nameB (rd .str l i) = true ∧ (0 < i → strLt (rd .str l (i - 1)) (rd .str l i) = true) :=
  textStep_none (scanI_zero (textStep_ne l) l.length 0 h i (by omega) (by omega))
theorem propsN_len {l : List TProp} (h : propsN l = 0) : l.length ≤ 8 := by
  unfold propsN at h
  split at h
  · omega
  · omega
theorem propsN_zero {l : List TProp} (h : propsN l = 0) {i : Nat} (hi : i < l.length) : nameB (rd sProp l i).1 = true ∧ valueB (rd sProp l i).2 = true ∧ (0 < i → strLt (rd sProp l (i - 1)).1 (rd sProp l i).1 = true) := by
  have h8 := propsN_len h
  unfold propsN at h
  rw [if_neg (by omega)] at h
  exact propStep_none (scanI_zero (propStep_ne l) l.length 0 h i (by omega) (by omega))
theorem restN_zero {a : List ByteArray} {l : List TProp} (h : restN a l = 0) : a.length ≤ 8 ∧ rowN a = 0 ∧ propsN l = 0 := by
  unfold restN at h
  split at h
  · omega
  · split at h
    · rename_i h1 h2
      exact ⟨by omega, h2, h⟩
    · rename_i h1 h2
      exact absurd h h2

/-- Labels and properties are as few and short as they may be. -/
structure Short (a : List ByteArray) (l : List TProp) : Prop where
  na : a.length ≤ 8
  nl : l.length ≤ 8
  ta : ∀ i, i < a.length → (rd .str a i).size ≤ 12
  tl : ∀ i, i < l.length → (rd sProp l i).1.size ≤ 12
theorem Short.of {a : List ByteArray} {l : List TProp} (h : restN a l = 0) : Short a l := by
  obtain ⟨h1, h2, h3⟩ := restN_zero h
  exact ⟨h1, propsN_len h3, fun i hi => (nameB_size (rowN_zero h2 hi).1).2, fun i hi => (nameB_size (propsN_zero h3 hi).1).2⟩
structure okNode (n : TNode) : Prop where
  id : n.1.size ≤ 140737488351232
  la : okTexts n.2.1
  pr : okProps n.2.2
structure okEdge (x : TEdge) : Prop where
  id : x.1.size ≤ 140737488351232
  fr : x.2.1.size ≤ 140737488351232
  to : x.2.2.1.size ≤ 140737488351232
  la : okTexts x.2.2.2.1
  pr : okProps x.2.2.2.2
def nodeN (n : TNode) : Int := if nameB n.1 then restN n.2.1 n.2.2 else 2
def edgeN (x : TEdge) : Int := if nameB x.1 && nameB x.2.1 && nameB x.2.2.1 then restN x.2.2.2.1 x.2.2.2.2 else 2
theorem nodeN_short {n : TNode} (h : nodeN n = 0) : Short n.2.1 n.2.2 := by
  unfold nodeN at h
  split at h
  · exact .of h
  · cases h
theorem edgeN_short {x : TEdge} (h : edgeN x = 0) : (nameB x.2.1 = true ∧ nameB x.2.2.1 = true) ∧ Short x.2.2.2.1 x.2.2.2.2 := by
  unfold edgeN at h
  split at h
  · rename_i g
    simp only [Bool.and_eq_true] at g
    exact ⟨⟨g.1.2, g.2⟩, .of h⟩
  · cases h
theorem CheckNode_ok (n : TNode) (h : okNode n) : V.elem_CheckNode n = some (nodeN n) := by
  refine V.elem_CheckNode.of _ ?_
  unfold F.elem_CheckNode.B nodeN
  rw [name_Check_ok _ h.id, Option.bind_some, rest_ok _ _ h.la h.pr]
  cases nameB n.1 <;> simp
theorem refNode_ok (n : TNode) (h : okNode n) : V.pleachref25_Node n = some (nodeN n) := by
  refine V.pleachref25_Node.of _ ?_
  unfold F.pleachref25_Node.B nodeN
  rw [refIs_ok _ h.id, Option.bind_some, refRest_ok _ _ h.la h.pr]
  cases nameB n.1 <;> simp
theorem CheckEdge_ok (x : TEdge) (h : okEdge x) : V.elem_CheckEdge x = some (edgeN x) := by
  have e3 : V.elem_CheckEdge.l1010 x 3 = some (restN x.2.2.2.1 x.2.2.2.2) := by
    refine V.elem_CheckEdge.l1010.of _ _ ?_
    unfold F.elem_CheckEdge.l1010.B
    rw [rest_ok _ _ h.la h.pr]
    simp
  have e2 : V.elem_CheckEdge.l1010 x 2 = some (if nameB x.2.2.1 then restN x.2.2.2.1 x.2.2.2.2 else 2) := by
    refine V.elem_CheckEdge.l1010.of _ _ ?_
    unfold F.elem_CheckEdge.l1010.B
    rw [w64_id (by omega) (by omega), show (2 : Int) + 1 = 3 from rfl, e3, name_Check_ok _ h.to]
    cases nameB x.2.2.1 <;> simp
  have e1 : V.elem_CheckEdge.l1010 x 1 = some (if nameB x.2.1 && nameB x.2.2.1 then restN x.2.2.2.1 x.2.2.2.2 else 2) := by
    refine V.elem_CheckEdge.l1010.of _ _ ?_
    unfold F.elem_CheckEdge.l1010.B
    rw [w64_id (by omega) (by omega), show (1 : Int) + 1 = 2 from rfl, e2, name_Check_ok _ h.fr]
    cases nameB x.2.1 <;> simp
  have e0 : V.elem_CheckEdge.l1010 x 0 = some (edgeN x) := by
    refine V.elem_CheckEdge.l1010.of _ _ ?_
    unfold F.elem_CheckEdge.l1010.B edgeN
    rw [w64_id (by omega) (by omega), show (0 : Int) + 1 = 1 from rfl, e1, name_Check_ok _ h.id]
    cases nameB x.1 <;> simp
  refine V.elem_CheckEdge.of _ ?_
  unfold F.elem_CheckEdge.B
  exact e0
theorem refEdge_ok (x : TEdge) (h : okEdge x) : V.pleachref25_Edge x = some (edgeN x) := by
  refine V.pleachref25_Edge.of _ ?_
  unfold F.pleachref25_Edge.B edgeN
  rw [refIs_ok _ h.id, Option.bind_some, refIs_ok _ h.fr, refIs_ok _ h.to, refRest_ok _ _ h.la h.pr]
  cases nameB x.1 <;> cases nameB x.2.1 <;> cases nameB x.2.2.1 <;> simp

end Go.Proofs.Ytdblhdpnllckhaa.AE
end
section
set_option linter.unusedVariables false
set_option linter.unusedSimpArgs false
namespace Go.Proofs.Ytdblhdpnllckhaa.AE
open Go

/-- Texts' bytes, one behind the other; properties'. -/
def catT (l : List ByteArray) : Nat → Nat → ByteArray
  | 0, _ => ⟨#[]⟩
  | d + 1, i => textB (rd .str l i) ++ catT l d (i + 1)
def propB (p : TProp) : ByteArray := textB p.1 ++ valB p.2
def catP (l : List TProp) : Nat → Nat → ByteArray
  | 0, _ => ⟨#[]⟩
  | d + 1, i => propB (rd sProp l i) ++ catP l d (i + 1)
def putB (a : List ByteArray) (l : List TProp) : ByteArray := numB a.length ++ (catT a a.length 0 ++ (numB l.length ++ catP l l.length 0))
theorem app_nil (s : ByteArray) : s ++ (⟨#[]⟩ : ByteArray) = s := by apply ByteArray.ext; simp
theorem nil_app (s : ByteArray) : (⟨#[]⟩ : ByteArray) ++ s = s := by apply ByteArray.ext; simp
theorem propB_size (p : TProp) (h : p.1.size ≤ 12) : (propB p).size ≤ 102 := by
  unfold propB
  rw [ByteArray.size_append]
  have := textB_size p.1
  have := valB_size p.2
  omega
theorem put_l1 (a : List ByteArray) (l : List TProp) (hs : Short a l) (hl : okProps l) : ∀ (d i : Nat) (out : ByteArray), i + d = l.length → out.size ≤ 1000 + 102 * i → V.elem_put.l1111010 a l out (i : Int) = some (out ++ catP l d i)
  | 0, i, out, h, ho => by
    refine V.elem_put.l1111010.of _ _ _ _ ?_
    unfold F.elem_put.l1111010.B
    rw [if_out (by omega)]
    simp [catP, app_nil]
  | d + 1, i, out, h, ho => by
    refine V.elem_put.l1111010.of _ _ _ _ ?_
    unfold F.elem_put.l1111010.B
    have hi : i < l.length := by omega
    have h8 := hs.nl
    have hp := propB_size _ (hs.tl i hi)
    have hk := hl.2 _ (rd_mem (e := sProp) hi)
    rw [if_in hi, guard_in hi, nat_cast, value_Put_ok _ hk.2.2, Option.bind_some, PutText_ok _ hk.1, Option.bind_some]
    dsimp only
    have h1 : (textB (rd sProp l i).1 ++ valB (rd sProp l i).2).size ≤ 102 := hp
    rw [guard_dec (by rw [ByteArray.size_append] at h1; unfold i64max; omega), guard_dec (by unfold i64max; omega), w64_up hi hl.1, put_l1 a l hs hl d (i + 1) _ (by omega) (by rw [ByteArray.size_append]; omega), ByteArray.append_assoc]
    rfl
theorem put_l0 (a : List ByteArray) (l : List TProp) (hs : Short a l) (ha : okTexts a) (hl : okProps l) : ∀ (d i : Nat) (out : ByteArray), i + d = a.length → out.size ≤ 10 + 22 * i → V.elem_put.l11010 a l out (i : Int) = some (out ++ (catT a d i ++ (numB l.length ++ catP l l.length 0)))
  | 0, i, out, h, ho => by
    refine V.elem_put.l11010.of _ _ _ _ ?_
    unfold F.elem_put.l11010.B
    have h8 := hs.nl
    have h9 := hs.na
    have hn := numB_size l.length
    rw [if_out (by omega), PutNum_ok _ hl.1, Option.bind_some, guard_dec (by unfold i64max; omega)]
    have := put_l1 a l hs hl l.length 0 (out ++ numB l.length) (by omega) (by rw [ByteArray.size_append]; omega)
    rw [show (0 : Int) = ((0 : Nat) : Int) from rfl, this]
    simp [catT, nil_app, ByteArray.append_assoc]
  | d + 1, i, out, h, ho => by
    refine V.elem_put.l11010.of _ _ _ _ ?_
    unfold F.elem_put.l11010.B
    have hi : i < a.length := by omega
    have h9 := hs.na
    have ht := textB_size (rd .str a i)
    have h12 := hs.ta i hi
    rw [if_in hi, guard_in hi, nat_cast, PutText_ok _ (ha.2 _ (rd_mem (e := .str) hi)), Option.bind_some, guard_dec (by unfold i64max; omega), w64_up hi ha.1, put_l0 a l hs ha hl d (i + 1) _ (by omega) (by rw [ByteArray.size_append]; omega)]
    rw [catT, ByteArray.append_assoc, ByteArray.append_assoc]
theorem elem_put_ok (a : List ByteArray) (l : List TProp) (hs : Short a l) (ha : okTexts a) (hl : okProps l) : V.elem_put a l = some (putB a l) := by
  refine V.elem_put.of _ _ ?_
  unfold F.elem_put.B
  rw [PutNum_ok _ ha.1, Option.bind_some]
  exact put_l0 a l hs ha hl a.length 0 _ (by omega) (by have := numB_size a.length; omega)
/-! ### Nodes and edges -/

def nodeB (n : TNode) : ByteArray := if nodeN n = 0 then putB n.2.1 n.2.2 else ⟨#[]⟩
def edgeB (x : TEdge) : ByteArray := if edgeN x = 0 then textB x.2.1 ++ textB x.2.2.1 ++ putB x.2.2.2.1 x.2.2.2.2 else ⟨#[]⟩
theorem PutNode_ok (n : TNode) (h : okNode n) : V.elem_PutNode n = some (nodeB n, nodeN n) := by
  refine V.elem_PutNode.of _ ?_
  unfold F.elem_PutNode.B nodeB
  have hc := CheckNode_ok n h
  rw [show (n.1, n.2.1, n.2.2) = n from rfl, hc, Option.bind_some]
  by_cases h0 : nodeN n = 0
  · rw [elem_put_ok _ _ (nodeN_short h0) h.la h.pr]
    simp [h0]
  · simp [Bool.cond_eq_ite, h0]
theorem putB_bound {a : List ByteArray} {l : List TProp} (hs : Short a l) : (putB a l).size ≤ 1100 := by
  have hT : ∀ d i, i + d = a.length → (catT a d i).size ≤ 22 * d := by
    intro d
    induction d with
    | zero => intro i _; simp [catT, ByteArray.size]
    | succ d ih =>
      intro i hi
      have := ih (i + 1) (by omega)
      have ht := textB_size (rd .str a i)
      have := hs.ta i (by omega)
      rw [catT, ByteArray.size_append]
      omega
  have hP : ∀ d i, i + d = l.length → (catP l d i).size ≤ 102 * d := by
    intro d
    induction d with
    | zero => intro i _; simp [catP, ByteArray.size]
    | succ d ih =>
      intro i hi
      have := ih (i + 1) (by omega)
      have ht := propB_size _ (hs.tl i (by omega))
      rw [catP, ByteArray.size_append]
      omega
  have h1 := hT a.length 0 (by omega)
  have h2 := hP l.length 0 (by omega)
  have h3 := numB_size a.length
  have h4 := numB_size l.length
  have := hs.na
  have := hs.nl
  unfold putB
  rw [ByteArray.size_append, ByteArray.size_append, ByteArray.size_append]
  omega
theorem PutEdge_ok (x : TEdge) (h : okEdge x) : V.elem_PutEdge x = some (edgeB x, edgeN x) := by
  refine V.elem_PutEdge.of _ ?_
  unfold F.elem_PutEdge.B edgeB
  have hc := CheckEdge_ok x h
  rw [show (x.1, x.2.1, x.2.2.1, x.2.2.2.1, x.2.2.2.2) = x from rfl, hc, Option.bind_some]
  by_cases h0 : edgeN x = 0
  · obtain ⟨⟨n1, n2⟩, hs⟩ := edgeN_short h0
    have t1 := textB_size x.2.1
    have t2 := textB_size x.2.2.1
    have n1 := nameB_size n1
    have n2 := nameB_size n2
    have pb := putB_bound hs
    rw [elem_put_ok _ _ hs h.la h.pr, PutText_ok _ h.fr, PutText_ok _ h.to]
    simp only [Option.bind_some]
    rw [guard_dec (by unfold i64max; omega), guard_dec (by rw [ByteArray.size_append]; unfold i64max; omega)]
    simp [h0]
  · simp [Bool.cond_eq_ite, h0]
end Go.Proofs.Ytdblhdpnllckhaa.AE
end
section
set_option linter.unusedVariables false
set_option linter.unusedSimpArgs false
namespace Go.Proofs.Ytdblhdpnllckhaa.AE
open Go

instance decValue : DecidableEq TValue := instDecidableEqProd
instance decProp : DecidableEq TProp := instDecidableEqProd
instance decNode : DecidableEq TNode := instDecidableEqProd
instance decEdge1 : DecidableEq (ByteArray × TNode) := instDecidableEqProd
instance decEdge : DecidableEq TEdge := instDecidableEqProd
instance decGraph : DecidableEq TGraph := instDecidableEqProd
/-- Two rows from a place on. -/
theorem drop_eq {α : Type} [DecidableEq α] {a b : List α} {i : Nat} (ha : i < a.length) (hb : i < b.length) : decide (a.drop i = b.drop i) = (decide (a[i] = b[i]) && decide (a.drop (i + 1) = b.drop (i + 1))) := by
  rw [List.drop_eq_getElem_cons ha, List.drop_eq_getElem_cons hb]
  rw [Bool.eq_iff_iff]
  simp only [decide_eq_true_eq, Bool.and_eq_true, List.cons.injEq]
theorem prop_eq (p q : TProp) : ((strEq p.1 q.1) && ((((p.2).1 == (q.2).1) && ((((p.2).2).1 == ((q.2).2).1) && ((strEq ((p.2).2).2 ((q.2).2).2) && true))) && true)) = decide (p = q) := by
  obtain ⟨a, b, c, d⟩ := p
  obtain ⟨a', b', c', d'⟩ := q
  simp only [strEq_dec, Prod.mk.injEq, Bool.and_true]
  rw [Bool.eq_iff_iff]
  simp
theorem SameTexts_l (a b : List ByteArray) (hl : a.length = b.length) (ha : a.length ≤ 140737488351232) : ∀ d i : Nat, i + d = a.length → V.pleachref25_SameTexts.l11010 a b (i : Int) = some (decide (a.drop i = b.drop i))
  | 0, i, h => by
    refine V.pleachref25_SameTexts.l11010.of _ _ _ ?_
    unfold F.pleachref25_SameTexts.l11010.B
    rw [if_out (by omega), List.drop_eq_nil_of_le (by omega), List.drop_eq_nil_of_le (by omega)]
    simp
  | d + 1, i, h => by
    refine V.pleachref25_SameTexts.l11010.of _ _ _ ?_
    unfold F.pleachref25_SameTexts.l11010.B
    have h1 : i < a.length := by omega
    have h2 : i < b.length := by omega
    rw [if_in h1, guard_in h1, guard_in h2, nat_cast, w64_up h1 ha, SameTexts_l a b hl ha d (i + 1) (by omega), rd_get (e := .str) h1, rd_get (e := .str) h2, strEq_dec, drop_eq h1 h2]
    by_cases hq : a[i] = b[i] <;> simp [hq]
theorem SameTexts_ok (a b : List ByteArray) (ha : a.length ≤ 140737488351232) : V.pleachref25_SameTexts a b = some (decide (a = b)) := by
  refine V.pleachref25_SameTexts.of _ _ ?_
  unfold F.pleachref25_SameTexts.B
  by_cases hl : a.length = b.length
  · have := SameTexts_l a b hl ha a.length 0 (by omega)
    rw [show (0 : Int) = ((0 : Nat) : Int) from rfl, this, hl]
    simp
  · rw [show ((a.length : Int) != (b.length : Int)) = true by simp; omega, cond_true]
    simp only [Option.some.injEq]
    symm
    simp only [decide_eq_false_iff_not]
    intro h; rw [h] at hl; exact hl rfl
theorem SameProps_l (a b : List TProp) (hl : a.length = b.length) (ha : a.length ≤ 140737488351232) : ∀ d i : Nat, i + d = a.length → V.pleachref25_SameProps.l11010 a b (i : Int) = some (decide (a.drop i = b.drop i))
  | 0, i, h => by
    refine V.pleachref25_SameProps.l11010.of _ _ _ ?_
    unfold F.pleachref25_SameProps.l11010.B
    rw [if_out (by omega), List.drop_eq_nil_of_le (by omega), List.drop_eq_nil_of_le (by omega)]
    simp
  | d + 1, i, h => by
    refine V.pleachref25_SameProps.l11010.of _ _ _ ?_
    unfold F.pleachref25_SameProps.l11010.B
    have h1 : i < a.length := by omega
    have h2 : i < b.length := by omega
    rw [if_in h1, guard_in h1, guard_in h2, nat_cast, w64_up h1 ha, SameProps_l a b hl ha d (i + 1) (by omega), prop_eq, rd_get (e := sProp) h1, rd_get (e := sProp) h2, drop_eq h1 h2]
    by_cases hq : a[i] = b[i] <;> simp [hq]
theorem SameProps_ok (a b : List TProp) (ha : a.length ≤ 140737488351232) : V.pleachref25_SameProps a b = some (decide (a = b)) := by
  refine V.pleachref25_SameProps.of _ _ ?_
  unfold F.pleachref25_SameProps.B
  by_cases hl : a.length = b.length
  · have := SameProps_l a b hl ha a.length 0 (by omega)
    rw [show (0 : Int) = ((0 : Nat) : Int) from rfl, this, hl]
    simp
  · rw [show ((a.length : Int) != (b.length : Int)) = true by simp; omega, cond_true]
    simp only [Option.some.injEq]
    symm
    simp only [decide_eq_false_iff_not]
    intro h; rw [h] at hl; exact hl rfl
theorem SameNode_ok (a b : TNode) (h1 : a.2.1.length ≤ 140737488351232) (h2 : a.2.2.length ≤ 140737488351232) : V.pleachref25_SameNode a b = some (decide (a = b)) := by
  refine V.pleachref25_SameNode.of _ _ ?_
  unfold F.pleachref25_SameNode.B
  obtain ⟨i, x, y⟩ := a
  obtain ⟨i', x', y'⟩ := b
  rw [SameTexts_ok _ _ h1, SameProps_ok _ _ h2, strEq_dec]
  simp only [Prod.mk.injEq, Option.bind_some]
  by_cases e1 : i = i' <;> by_cases e2 : x = x' <;> by_cases e3 : y = y' <;> simp [e1, e2, e3]
theorem SameEdge_ok (a b : TEdge) (h1 : a.2.2.2.1.length ≤ 140737488351232) (h2 : a.2.2.2.2.length ≤ 140737488351232) : V.pleachref25_SameEdge a b = some (decide (a = b)) := by
  refine V.pleachref25_SameEdge.of _ _ ?_
  unfold F.pleachref25_SameEdge.B
  obtain ⟨i, f, t, x, y⟩ := a
  obtain ⟨i', f', t', x', y'⟩ := b
  rw [SameTexts_ok _ _ h1, SameProps_ok _ _ h2, strEq_dec, strEq_dec, strEq_dec]
  simp only [Prod.mk.injEq, Option.bind_some]
  by_cases e1 : i = i' <;> by_cases e4 : f = f' <;> by_cases e5 : t = t' <;> by_cases e2 : x = x' <;> by_cases e3 : y = y' <;> simp [e1, e2, e3, e4, e5]
/-- As many parts as fit. -/
structure Fits (g : TGraph) : Prop where
  ns : g.1.length ≤ 140737488351232
  es : g.2.length ≤ 140737488351232
  n : ∀ n ∈ g.1, n.2.1.length ≤ 140737488351232 ∧ n.2.2.length ≤ 140737488351232
  e : ∀ x ∈ g.2, x.2.2.2.1.length ≤ 140737488351232 ∧ x.2.2.2.2.length ≤ 140737488351232
theorem Same_l1 (a b : TGraph) (hf : Fits a) (hl : a.2.length = b.2.length) : ∀ d i : Nat, i + d = a.2.length → V.pleachref26_Same.l111010 a b (i : Int) = some (decide (a.2.drop i = b.2.drop i))
  | 0, i, h => by
    refine V.pleachref26_Same.l111010.of _ _ _ ?_
    unfold F.pleachref26_Same.l111010.B
    rw [if_out (by omega), List.drop_eq_nil_of_le (by omega), List.drop_eq_nil_of_le (by omega)]
    simp
  | d + 1, i, h => by
    refine V.pleachref26_Same.l111010.of _ _ _ ?_
    unfold F.pleachref26_Same.l111010.B
    have h1 : i < a.2.length := by omega
    have h2 : i < b.2.length := by omega
    have he := hf.e _ (rd_mem (e := sEdge) h1)
    rw [if_in h1, guard_in h1, guard_in h2, nat_cast, w64_up h1 hf.es, Same_l1 a b hf hl d (i + 1) (by omega), SameEdge_ok _ _ he.1 he.2, Option.bind_some]
    rw [rd_get (e := sEdge) h1, rd_get (e := sEdge) h2, drop_eq h1 h2]
    by_cases hq : a.2[i] = b.2[i] <;> simp [hq]
theorem Same_l0 (a b : TGraph) (hf : Fits a) (hl : a.1.length = b.1.length) (hl2 : a.2.length = b.2.length) : ∀ d i : Nat, i + d = a.1.length → V.pleachref26_Same.l11010 a b (i : Int) = some (decide (a.1.drop i = b.1.drop i) && decide (a.2 = b.2))
  | 0, i, h => by
    refine V.pleachref26_Same.l11010.of _ _ _ ?_
    unfold F.pleachref26_Same.l11010.B
    have := Same_l1 a b hf hl2 a.2.length 0 (by omega)
    rw [if_out (by omega), List.drop_eq_nil_of_le (by omega), List.drop_eq_nil_of_le (by omega), show (0 : Int) = ((0 : Nat) : Int) from rfl, this]
    simp
  | d + 1, i, h => by
    refine V.pleachref26_Same.l11010.of _ _ _ ?_
    unfold F.pleachref26_Same.l11010.B
    have h1 : i < a.1.length := by omega
    have h2 : i < b.1.length := by omega
    have he := hf.n _ (rd_mem (e := sNode) h1)
    rw [if_in h1, guard_in h1, guard_in h2, nat_cast, w64_up h1 hf.ns, Same_l0 a b hf hl hl2 d (i + 1) (by omega), SameNode_ok _ _ he.1 he.2, Option.bind_some]
    rw [rd_get (e := sNode) h1, rd_get (e := sNode) h2, drop_eq h1 h2]
    by_cases hq : a.1[i] = b.1[i] <;> simp [hq]
theorem Same_ok (a b : TGraph) (hf : Fits a) : V.pleachref26_Same a b = some (decide (a = b)) := by
  refine V.pleachref26_Same.of _ _ ?_
  unfold F.pleachref26_Same.B
  by_cases h1 : a.1.length = b.1.length
  · by_cases h2 : a.2.length = b.2.length
    · have := Same_l0 a b hf h1 h2 a.1.length 0 (by omega)
      rw [show (0 : Int) = ((0 : Nat) : Int) from rfl, this, h1, h2]
      obtain ⟨x, y⟩ := a
      obtain ⟨x', y'⟩ := b
      simp
    · rw [show ((a.2.length : Int) != (b.2.length : Int)) = true by simp; omega, h1]
      simp
      intro h; rw [h] at h2; exact h2 rfl
  · rw [show ((a.1.length : Int) != (b.1.length : Int)) = true by simp; omega, cond_true]
    simp
    intro h; rw [h] at h1; exact h1 rfl
end Go.Proofs.Ytdblhdpnllckhaa.AE
end
section
set_option linter.unusedVariables false
set_option linter.unusedSimpArgs false
set_option maxRecDepth 20000
namespace Go.Proofs.Ytdblhdpnllckhaa.AE
open Go

/-- Texts that rise. -/
def Up (ks : List ByteArray) : Prop := ks.Pairwise fun a b => strLt a b = true
/-- How many of them stand ahead of one. -/
def lb (ks : List ByteArray) (x : ByteArray) : Nat := ks.findIdx fun k => !strLt k x

theorem Up.lt {ks : List ByteArray} (hu : Up ks) {i j : Nat} (h : i < j) (hj : j < ks.length) : strLt (ks[i]'(by omega)) ks[j] = true := List.pairwise_iff_getElem.1 hu i j (by omega) hj h
def has (ks : List ByteArray) (x : ByteArray) : Bool := ks.any fun k => strEq k x
theorem has_iff {ks : List ByteArray} {x : ByteArray} : has ks x = true ↔ x ∈ ks := by
  unfold has
  rw [List.any_eq_true]
  exact ⟨fun ⟨k, h, e⟩ => strEq_iff.1 e ▸ h, fun h => ⟨x, h, strEq_self x⟩⟩

theorem cmpCompareS_ok (a b : ByteArray) : V.cmp_Compare_string a b = some (cmpS a b) := by
  have nan : ∀ x : ByteArray, V.cmp_isNaN_string x = some false := fun x => V.cmp_isNaN_string.of x (by unfold F.cmp_isNaN_string.B; rw [strEq_self]; rfl)
  refine V.cmp_Compare_string.of a b ?_
  unfold F.cmp_Compare_string.B cmpS
  rw [nan, nan, Option.bind_some, Option.bind_some, lt_or]
  cases strLt a b <;> cases strLt b a <;> rfl
theorem cmpS_neg (a b : ByteArray) : decide (cmpS a b < 0) = strLt a b := by
  unfold cmpS
  cases strLt a b <;> cases strLt b a <;> rfl
abbrev ids (l : List TNode) : List ByteArray := l.map fun n => n.1
abbrev eids (l : List TEdge) : List ByteArray := l.map fun x => x.1
theorem ids_get {l : List TNode} {i : Nat} (h : i < l.length) : (rd sNode l i).1 = (ids l)[i]'(by simpa using h) := by rw [rd_get (e := sNode) h, List.getElem_map]
theorem eids_get {l : List TEdge} {i : Nat} (h : i < l.length) : (rd sEdge l i).1 = (eids l)[i]'(by simpa using h) := by rw [rd_get (e := sEdge) h, List.getElem_map]

end Go.Proofs.Ytdblhdpnllckhaa.AE
end
section
set_option linter.unusedVariables false
set_option linter.unusedSimpArgs false
set_option maxRecDepth 20000
namespace Go.Proofs.Ytdblhdpnllckhaa.AE
open Go

/-- Where an Id is first met, as a number. -/
def atI (ks : List ByteArray) (x : ByteArray) : Int := if has ks x then (ks.findIdx (fun k => strEq k x) : Int) else -1
theorem atI_neg (ks : List ByteArray) (x : ByteArray) : decide (atI ks x < 0) = !has ks x := by
  unfold atI; split <;> rename_i h <;> simp [h]
theorem atI_step {ks : List ByteArray} {x : ByteArray} {i : Nat} (hi : i < ks.length) (h : ∀ j (hj : j < ks.length), j < i → ks[j] ≠ x) : atI ks x = if strEq ks[i] x then (i : Int) else atI ks x := by
  split
  · rename_i e
    have e := strEq_iff.1 e
    have hm : x ∈ ks := e ▸ List.getElem_mem hi
    unfold atI
    rw [if_pos (has_iff.2 hm)]
    have : ks.findIdx (fun k => strEq k x) = i := by
      rw [List.findIdx_eq hi]
      exact ⟨by rw [e, strEq_self], fun j hj => strEq_no (h j (by omega) hj)⟩
    omega
  · rfl
theorem atI_none {ks : List ByteArray} {x : ByteArray} (h : ∀ j (hj : j < ks.length), ks[j] ≠ x) : atI ks x = -1 := by
  unfold atI
  rw [if_neg fun hm => by
    obtain ⟨i, hi, e⟩ := List.getElem_of_mem (has_iff.1 hm)
    exact h i hi e]
theorem NodeAt_l (g : TGraph) (x : ByteArray) (hs : g.1.length ≤ 140737488351232) : ∀ d i : Nat, i + d = g.1.length → (∀ j (hj : j < (ids g.1).length), j < i → (ids g.1)[j] ≠ x) → V.pleachref26_NodeAt.l1010 g x (i : Int) = some (atI (ids g.1) x)
  | 0, i, h, hn => by
    refine V.pleachref26_NodeAt.l1010.of _ _ _ ?_
    unfold F.pleachref26_NodeAt.l1010.B
    rw [if_out (by omega), atI_none fun j hj => hn j hj (by simp at hj; omega)]
  | d + 1, i, h, hn => by
    have hi : i < g.1.length := by omega
    refine V.pleachref26_NodeAt.l1010.of _ _ _ ?_
    unfold F.pleachref26_NodeAt.l1010.B
    rw [if_in hi, guard_in hi, nat_cast, w64_up hi hs, ids_get hi, atI_step (ks := ids g.1) (i := i) (by simpa using hi) hn]
    cases hc : strEq ((ids g.1)[i]'(by simpa using hi)) x with
    | true => rfl
    | false =>
      refine NodeAt_l g x hs d (i + 1) (by omega) fun j hj g1 e => ?_
      rcases Nat.lt_or_ge j i with g2 | g2
      · exact hn j hj g2 e
      · have : j = i := by omega
        subst this
        rw [e, strEq_self] at hc; cases hc
theorem NodeAt_ok (g : TGraph) (x : ByteArray) (hs : g.1.length ≤ 140737488351232) : V.pleachref26_NodeAt g x = some (atI (ids g.1) x) := by
  refine V.pleachref26_NodeAt.of _ _ ?_
  unfold F.pleachref26_NodeAt.B
  exact NodeAt_l g x hs g.1.length 0 (by omega) fun j hj h => by omega

end Go.Proofs.Ytdblhdpnllckhaa.AE
end
