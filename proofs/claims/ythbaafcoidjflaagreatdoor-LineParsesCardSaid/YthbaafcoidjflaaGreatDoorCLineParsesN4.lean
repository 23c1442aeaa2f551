/- The evaluator of the program's form, its soundness, the functions of the given program as it evaluates them, and laws on these. Conditions: as each theorem says. -/
import Derived.Test.YthbaafcoidjflaaGreatDoorCLineParsesN3
import Derived.Test.YthbaafcoidjflaaGreatDoorCLineParsesN2
import Derived.Laws.BitsLemmas
import Derived.KernelRfl
section
set_option linter.unusedVariables false
set_option maxRecDepth 100000
set_option maxHeartbeats 4000000
namespace Go.Proofs.YthbaafcoidjflaaGreatDoor.AE
open Go
noncomputable def F.pleachref05_Is.l1010.B (c0 : (ByteArray) → (Int) → Option (Bool)) (a0 : ByteArray) (x0 : Int) : Option (Bool) :=
    (bif (decide (x0 < (a0.size : Int))) then (guardK (decide (0 ≤ x0) && decide (x0 < (a0.size : Int))) (bif (decide ((byteAt a0 x0) ≥ 97)) then (guardK (decide (0 ≤ x0) && decide (x0 < (a0.size : Int))) (guardK (decide (0 ≤ x0) && decide (x0 < (a0.size : Int))) (bif (decide ((byteAt a0 x0) ≥ 48)) then (guardK (decide (0 ≤ x0) && decide (x0 < (a0.size : Int))) (bif (!(decide ((byteAt a0 x0) ≤ 122))) then (bif (!(decide ((byteAt a0 x0) ≤ 57))) then (guardK (decide (0 ≤ x0) && decide (x0 < (a0.size : Int))) (bif ((byteAt a0 x0) != 45) then (some false) else (c0 a0 (w64 (x0 + 1))))) else (c0 a0 (w64 (x0 + 1)))) else (c0 a0 (w64 (x0 + 1))))) else (bif (!(decide ((byteAt a0 x0) ≤ 122))) then (guardK (decide (0 ≤ x0) && decide (x0 < (a0.size : Int))) (bif ((byteAt a0 x0) != 45) then (some false) else (c0 a0 (w64 (x0 + 1))))) else (c0 a0 (w64 (x0 + 1))))))) else (guardK (decide (0 ≤ x0) && decide (x0 < (a0.size : Int))) (bif (decide ((byteAt a0 x0) ≥ 48)) then (guardK (decide (0 ≤ x0) && decide (x0 < (a0.size : Int))) (bif (!(decide ((byteAt a0 x0) ≤ 57))) then (guardK (decide (0 ≤ x0) && decide (x0 < (a0.size : Int))) (bif ((byteAt a0 x0) != 45) then (some false) else (c0 a0 (w64 (x0 + 1))))) else (c0 a0 (w64 (x0 + 1))))) else (guardK (decide (0 ≤ x0) && decide (x0 < (a0.size : Int))) (bif ((byteAt a0 x0) != 45) then (some false) else (c0 a0 (w64 (x0 + 1))))))))) else (bif (decide ((a0.size : Int) ≥ 1)) then (some (decide ((a0.size : Int) ≤ 12))) else (some false)))
theorem F.pleachref05_Is.l1010.eq K n0 a0 x0 : F.pleachref05_Is.l1010 K (n0 + 1) a0 x0 = F.pleachref05_Is.l1010.B (F.pleachref05_Is.l1010 K n0) a0 x0 := (F.pleachref05_Is.in_eq K [1, 0, 1, 0] [n0 + 1] (F.pleachref05_Is.l1010.st a0 x0)).trans ((show ∀ H, F.pleachref05_Is.in K H [1, 0, 1, 0] [n0 + 1] (F.pleachref05_Is.l1010.st a0 x0) = F.pleachref05_Is.l1010.B (fun a0 x0 => H [1, 0, 1, 0] [n0] (F.pleachref05_Is.l1010.st a0 x0)) a0 x0 from by intro H; kernel_rfl) (F.pleachref05_Is.at K))
noncomputable def F.pleachref05_Is.B (c0 : (ByteArray) → (Int) → Option (Bool)) (a0 : ByteArray) : Option (Bool) :=
    (c0 a0 0)
theorem F.pleachref05_Is.eq K a0 : F.pleachref05_Is (K + 1) a0 = F.pleachref05_Is.B (F.pleachref05_Is.l1010 K K) a0 := (F.pleachref05_Is.in_main K a0).trans ((show ∀ H, F.pleachref05_Is.in K H [] [] ⟨slots [.sc (.val (.string a0))] 0, []⟩ = F.pleachref05_Is.B (fun a0 x0 => H [1, 0, 1, 0] [K] (F.pleachref05_Is.l1010.st a0 x0)) a0 from by intro H; kernel_rfl) (F.pleachref05_Is.at K))
noncomputable def V.pleachref05_Is.l1010 (a0 : ByteArray) (x0 : Int) := lim fun v => F.pleachref05_Is.l1010 (v 0) (v 1) a0 x0
noncomputable def V.pleachref05_Is (a0 : ByteArray) := lim fun v => F.pleachref05_Is (v 0) a0
theorem V.pleachref05_Is.l1010.of a0 x0 {r} (h : F.pleachref05_Is.l1010.B V.pleachref05_Is.l1010 a0 x0 = some r) : V.pleachref05_Is.l1010 a0 x0 = some r :=
  App.to (App.step 1 (fun v => F.pleachref05_Is.l1010.eq (v 0) (v 1) a0 x0) (by unfold F.pleachref05_Is.l1010.B; repeat' first | apply App.guard | apply App.cond | exact App.lim | exact App.val | exact App.no | apply App.meet | apply App.ite | refine App.bind ?_ fun _ => ?_)) h
theorem V.pleachref05_Is.of a0 {r} (h : F.pleachref05_Is.B V.pleachref05_Is.l1010 a0 = some r) : V.pleachref05_Is a0 = some r :=
  App.to (App.step 0 (fun v => F.pleachref05_Is.eq (v 0) a0) (by unfold F.pleachref05_Is.B; repeat' first | apply App.guard | apply App.cond | exact App.lim | exact (App.enter 1 App.lim) | exact App.val | exact App.no | apply App.meet | apply App.ite | refine App.bind ?_ fun _ => ?_)) h
noncomputable def F.pleachref43_may (K : Nat) (a0 : ByteArray) (a1 : Int) : Option (Bool) := evFn Tryz.prog sg K 30 [.sc (.val (.string a0)), .sc (.val (.int .u8 a1))] []
noncomputable def F.pleachref43_may.B (c0 : (ByteArray) → Option (Int × Bool)) (c1 : (ByteArray) → Option (Bool)) (a0 : ByteArray) (a1 : Int) : Option (Bool) :=
    ((c0 a0).bind fun t0 => (bif (a1 == 110) then (bif (a1 == 110) then ((c1 a0).bind fun t1 => (some t1)) else (bif (a1 == 111) then (bif (a1 == 111) then (some t0.2) else (bif (a1 == 79) then (bif t0.2 then (some true) else (some (strEq a0 (⟨#[]⟩ : ByteArray)))) else (bif (strEq a0 (⟨#[]⟩ : ByteArray)) then (some true) else ((c1 a0).bind fun t2 => (bif t2 then (some (!strEq a0 (⟨#[45]⟩ : ByteArray))) else (some false)))))) else (bif (a1 == 104) then (bif (a1 == 104) then (some t0.2) else (bif (a1 == 79) then (bif t0.2 then (some true) else (some (strEq a0 (⟨#[]⟩ : ByteArray)))) else (bif (strEq a0 (⟨#[]⟩ : ByteArray)) then (some true) else ((c1 a0).bind fun t3 => (bif t3 then (some (!strEq a0 (⟨#[45]⟩ : ByteArray))) else (some false)))))) else (bif (a1 == 120) then (some t0.2) else (bif (a1 == 79) then (bif t0.2 then (some true) else (some (strEq a0 (⟨#[]⟩ : ByteArray)))) else (bif (strEq a0 (⟨#[]⟩ : ByteArray)) then (some true) else ((c1 a0).bind fun t4 => (bif t4 then (some (!strEq a0 (⟨#[45]⟩ : ByteArray))) else (some false))))))))) else (bif (a1 == 105) then ((c1 a0).bind fun t5 => (some t5)) else (bif (a1 == 111) then (bif (a1 == 111) then (some t0.2) else (bif (a1 == 79) then (bif t0.2 then (some true) else (some (strEq a0 (⟨#[]⟩ : ByteArray)))) else (bif (strEq a0 (⟨#[]⟩ : ByteArray)) then (some true) else ((c1 a0).bind fun t6 => (bif t6 then (some (!strEq a0 (⟨#[45]⟩ : ByteArray))) else (some false)))))) else (bif (a1 == 104) then (bif (a1 == 104) then (some t0.2) else (bif (a1 == 79) then (bif t0.2 then (some true) else (some (strEq a0 (⟨#[]⟩ : ByteArray)))) else (bif (strEq a0 (⟨#[]⟩ : ByteArray)) then (some true) else ((c1 a0).bind fun t7 => (bif t7 then (some (!strEq a0 (⟨#[45]⟩ : ByteArray))) else (some false)))))) else (bif (a1 == 120) then (some t0.2) else (bif (a1 == 79) then (bif t0.2 then (some true) else (some (strEq a0 (⟨#[]⟩ : ByteArray)))) else (bif (strEq a0 (⟨#[]⟩ : ByteArray)) then (some true) else ((c1 a0).bind fun t8 => (bif t8 then (some (!strEq a0 (⟨#[45]⟩ : ByteArray))) else (some false)))))))))))
theorem F.pleachref43_may.eq K a0 a1 : F.pleachref43_may (K + 1) a0 a1 = F.pleachref43_may.B (F.pleachref40_Number K) (F.pleachref05_Is K) a0 a1 := by kernel_rfl
noncomputable def V.pleachref43_may (a0 : ByteArray) (a1 : Int) := lim fun v => F.pleachref43_may (v 0) a0 a1
theorem V.pleachref43_may.of a0 a1 {r} (h : F.pleachref43_may.B V.pleachref40_Number V.pleachref05_Is a0 a1 = some r) : V.pleachref43_may a0 a1 = some r :=
  App.to (App.step 0 (fun v => F.pleachref43_may.eq (v 0) a0 a1) (by unfold F.pleachref43_may.B; repeat' first | apply App.guard | apply App.cond | exact App.lim | exact App.val | exact App.no | apply App.meet | apply App.ite | refine App.bind ?_ fun _ => ?_)) h
noncomputable def F.pleachref26_Right (K : Nat) (a0 : TOp) : Option (Bool) := evFn Tryz.prog sg K 32 [.agg [.val (.int .i64 a0.1), .val (.string a0.2.1), .val (.string a0.2.2.1), .val (.string a0.2.2.2.1), .val (.string a0.2.2.2.2.1), .val (.int .i64 a0.2.2.2.2.2.1), .val (.int .i64 a0.2.2.2.2.2.2.1), .val (.string a0.2.2.2.2.2.2.2)]] []
noncomputable def F.pleachref26_Right.B (c0 : (ByteArray) → Option (Bool)) (c1 : (TValue) → Option (Bool)) (a0 : TOp) : Option (Bool) :=
    ((c0 a0.2.1).bind fun t0 => (bif (!t0) then (some false) else (bif (decide (a0.1 < 1)) then (some false) else (bif (decide (a0.1 > 12)) then (some false) else (bif (a0.1 == 3) then ((c0 a0.2.2.1).bind fun t1 => (bif t1 then ((c0 a0.2.2.2.1).bind fun t2 => (some t2)) else (some false))) else (bif (decide (a0.1 ≥ 5)) then ((c0 a0.2.2.2.2.1).bind fun t3 => (bif (!t3) then (some false) else (bif (a0.1 != 9) then (bif (a0.1 != 11) then (some true) else ((c1 (a0.2.2.2.2.2.1, a0.2.2.2.2.2.2.1, a0.2.2.2.2.2.2.2)).bind fun t4 => (some t4))) else ((c1 (a0.2.2.2.2.2.1, a0.2.2.2.2.2.2.1, a0.2.2.2.2.2.2.2)).bind fun t5 => (some t5))))) else (bif (a0.1 != 9) then (bif (a0.1 != 11) then (some true) else ((c1 (a0.2.2.2.2.2.1, a0.2.2.2.2.2.2.1, a0.2.2.2.2.2.2.2)).bind fun t6 => (some t6))) else ((c1 (a0.2.2.2.2.2.1, a0.2.2.2.2.2.2.1, a0.2.2.2.2.2.2.2)).bind fun t7 => (some t7)))))))))
theorem F.pleachref26_Right.eq K a0 : F.pleachref26_Right (K + 1) a0 = F.pleachref26_Right.B (F.pleachref05_Is K) (F.pleachref06_Is K) a0 := by kernel_rfl
noncomputable def V.pleachref26_Right (a0 : TOp) := lim fun v => F.pleachref26_Right (v 0) a0
theorem V.pleachref26_Right.of a0 {r} (h : F.pleachref26_Right.B V.pleachref05_Is V.pleachref06_Is a0 = some r) : V.pleachref26_Right a0 = some r :=
  App.to (App.step 0 (fun v => F.pleachref26_Right.eq (v 0) a0) (by unfold F.pleachref26_Right.B; repeat' first | apply App.guard | apply App.cond | exact App.lim | exact App.val | exact App.no | apply App.meet | apply App.ite | refine App.bind ?_ fun _ => ?_)) h
noncomputable def F.pleachref43_opForm (K : Nat) (a0 : Int) : Option (ByteArray) := evFn Tryz.prog sg K 37 [.sc (.val (.int .i64 a0))] []
noncomputable def F.pleachref43_opForm.B (a0 : Int) : Option (ByteArray) :=
    (bif (decide (a0 < 1)) then (some (⟨#[63]⟩ : ByteArray)) else (bif (decide (a0 > (([(⟨#[100]⟩ : ByteArray), (⟨#[100]⟩ : ByteArray), (⟨#[100, 102, 116]⟩ : ByteArray), (⟨#[100]⟩ : ByteArray), (⟨#[100, 107]⟩ : ByteArray), (⟨#[100, 107]⟩ : ByteArray), (⟨#[100, 107]⟩ : ByteArray), (⟨#[100, 107]⟩ : ByteArray), (⟨#[100, 107, 118]⟩ : ByteArray), (⟨#[100, 107]⟩ : ByteArray), (⟨#[100, 107, 118]⟩ : ByteArray), (⟨#[100, 107]⟩ : ByteArray)]).length : Int))) then (some (⟨#[63]⟩ : ByteArray)) else (guardK (decide (0 ≤ (w64 (a0 - 1))) && decide ((w64 (a0 - 1)) < (([(⟨#[100]⟩ : ByteArray), (⟨#[100]⟩ : ByteArray), (⟨#[100, 102, 116]⟩ : ByteArray), (⟨#[100]⟩ : ByteArray), (⟨#[100, 107]⟩ : ByteArray), (⟨#[100, 107]⟩ : ByteArray), (⟨#[100, 107]⟩ : ByteArray), (⟨#[100, 107]⟩ : ByteArray), (⟨#[100, 107, 118]⟩ : ByteArray), (⟨#[100, 107]⟩ : ByteArray), (⟨#[100, 107, 118]⟩ : ByteArray), (⟨#[100, 107]⟩ : ByteArray)]).length : Int))) (some (rd .str ([(⟨#[100]⟩ : ByteArray), (⟨#[100]⟩ : ByteArray), (⟨#[100, 102, 116]⟩ : ByteArray), (⟨#[100]⟩ : ByteArray), (⟨#[100, 107]⟩ : ByteArray), (⟨#[100, 107]⟩ : ByteArray), (⟨#[100, 107]⟩ : ByteArray), (⟨#[100, 107]⟩ : ByteArray), (⟨#[100, 107, 118]⟩ : ByteArray), (⟨#[100, 107]⟩ : ByteArray), (⟨#[100, 107, 118]⟩ : ByteArray), (⟨#[100, 107]⟩ : ByteArray)]) ((w64 (a0 - 1)).toNat))))))
theorem F.pleachref43_opForm.eq K a0 : F.pleachref43_opForm (K + 1) a0 = F.pleachref43_opForm.B a0 := by kernel_rfl
noncomputable def V.pleachref43_opForm (a0 : Int) := lim fun v => F.pleachref43_opForm (v 0) a0
theorem V.pleachref43_opForm.of a0 {r} (h : F.pleachref43_opForm.B a0 = some r) : V.pleachref43_opForm a0 = some r :=
  App.to (a := fun v => F.pleachref43_opForm (v 0) a0) (b := F.pleachref43_opForm.B a0) (App.step 0 (a := fun v => F.pleachref43_opForm (v 0) a0) (fun v => F.pleachref43_opForm.eq (v 0) a0) App.const) h
noncomputable def F.pleachref43_opBare (K : Nat) (a0 : TOp) : Option (Bool) := evFn Tryz.prog sg K 33 [.agg [.val (.int .i64 a0.1), .val (.string a0.2.1), .val (.string a0.2.2.1), .val (.string a0.2.2.2.1), .val (.string a0.2.2.2.2.1), .val (.int .i64 a0.2.2.2.2.2.1), .val (.int .i64 a0.2.2.2.2.2.2.1), .val (.string a0.2.2.2.2.2.2.2)]] []
noncomputable def F.pleachref43_opBare.B (c0 : (Int) → Option (ByteArray)) (c1 : (ByteArray) → (Int) → Option (Bool)) (a0 : TOp) : Option (Bool) :=
    ((c0 a0.1).bind fun t0 => (bif (strEq a0.2.2.1 (⟨#[]⟩ : ByteArray)) then (bif (strEq a0.2.2.2.1 (⟨#[]⟩ : ByteArray)) then (bif (strEq a0.2.2.2.2.1 (⟨#[]⟩ : ByteArray)) then (bif ((a0.2.2.2.2.2.1 == 0) && ((a0.2.2.2.2.2.2.1 == 0) && ((strEq a0.2.2.2.2.2.2.2 (⟨#[]⟩ : ByteArray)) && true))) then (some true) else ((c1 t0 118).bind fun t1 => (some t1))) else ((c1 t0 107).bind fun t2 => (bif t2 then (bif ((a0.2.2.2.2.2.1 == 0) && ((a0.2.2.2.2.2.2.1 == 0) && ((strEq a0.2.2.2.2.2.2.2 (⟨#[]⟩ : ByteArray)) && true))) then (some true) else ((c1 t0 118).bind fun t3 => (some t3))) else (some false)))) else (bif (a0.1 == 3) then (bif (strEq a0.2.2.2.2.1 (⟨#[]⟩ : ByteArray)) then (bif ((a0.2.2.2.2.2.1 == 0) && ((a0.2.2.2.2.2.2.1 == 0) && ((strEq a0.2.2.2.2.2.2.2 (⟨#[]⟩ : ByteArray)) && true))) then (some true) else ((c1 t0 118).bind fun t4 => (some t4))) else ((c1 t0 107).bind fun t5 => (bif t5 then (bif ((a0.2.2.2.2.2.1 == 0) && ((a0.2.2.2.2.2.2.1 == 0) && ((strEq a0.2.2.2.2.2.2.2 (⟨#[]⟩ : ByteArray)) && true))) then (some true) else ((c1 t0 118).bind fun t6 => (some t6))) else (some false)))) else (some false))) else (bif (a0.1 == 3) then (bif (strEq a0.2.2.2.2.1 (⟨#[]⟩ : ByteArray)) then (bif ((a0.2.2.2.2.2.1 == 0) && ((a0.2.2.2.2.2.2.1 == 0) && ((strEq a0.2.2.2.2.2.2.2 (⟨#[]⟩ : ByteArray)) && true))) then (some true) else ((c1 t0 118).bind fun t7 => (some t7))) else ((c1 t0 107).bind fun t8 => (bif t8 then (bif ((a0.2.2.2.2.2.1 == 0) && ((a0.2.2.2.2.2.2.1 == 0) && ((strEq a0.2.2.2.2.2.2.2 (⟨#[]⟩ : ByteArray)) && true))) then (some true) else ((c1 t0 118).bind fun t9 => (some t9))) else (some false)))) else (some false))))
theorem F.pleachref43_opBare.eq K a0 : F.pleachref43_opBare (K + 1) a0 = F.pleachref43_opBare.B (F.pleachref43_opForm K) (F.pleachref43_has K) a0 := by kernel_rfl
noncomputable def V.pleachref43_opBare (a0 : TOp) := lim fun v => F.pleachref43_opBare (v 0) a0
theorem V.pleachref43_opBare.of a0 {r} (h : F.pleachref43_opBare.B V.pleachref43_opForm V.pleachref43_has a0 = some r) : V.pleachref43_opBare a0 = some r :=
  App.to (App.step 0 (fun v => F.pleachref43_opBare.eq (v 0) a0) (by unfold F.pleachref43_opBare.B; repeat' first | apply App.guard | apply App.cond | exact App.lim | exact App.val | exact App.no | apply App.meet | apply App.ite | refine App.bind ?_ fun _ => ?_)) h
noncomputable def F.pleachref43_Is (K : Nat) (a0 : TCall) : Option (Bool) := evFn Tryz.prog sg K 10 [.agg [.val (.int .i64 a0.1), .val (.string a0.2.1), .val (.string a0.2.2.1), .val (.string a0.2.2.2.1), .val (.string a0.2.2.2.2.1), .list sOp a0.2.2.2.2.2.1 false, .val (.string a0.2.2.2.2.2.2.1), .val (.string a0.2.2.2.2.2.2.2)]] []
noncomputable def F.pleachref43_Is.at (K : Nat) (p ns : List Nat) (s : St) : Option (Bool) := atFn Tryz.prog sg K 10 0 p ns s
noncomputable def F.pleachref43_Is.in (K : Nat) (H : List Nat → List Nat → St → Option (Bool)) (p ns : List Nat) (s : St) : Option (Bool) := inFn Tryz.prog sg K 10 0 [] H p ns s
theorem F.pleachref43_Is.in_eq K p ns s : F.pleachref43_Is.at K p ns s = F.pleachref43_Is.in K (F.pleachref43_Is.at K) p ns s := atFn_eq (P := Tryz.prog) (sg := sg) (K := K) (f := 10) (m := 0) [] p ns s
theorem F.pleachref43_Is.in_main K a0 : F.pleachref43_Is (K + 1) a0 = F.pleachref43_Is.in K (F.pleachref43_Is.at K) [] [] ⟨slots [.agg [.val (.int .i64 a0.1), .val (.string a0.2.1), .val (.string a0.2.2.1), .val (.string a0.2.2.2.1), .val (.string a0.2.2.2.2.1), .list sOp a0.2.2.2.2.2.1 false, .val (.string a0.2.2.2.2.2.2.1), .val (.string a0.2.2.2.2.2.2.2)]] 0, []⟩ := evFn_eq (P := Tryz.prog) (sg := sg) (K := K) (f := 10) (args := [.agg [.val (.int .i64 a0.1), .val (.string a0.2.1), .val (.string a0.2.2.1), .val (.string a0.2.2.2.1), .val (.string a0.2.2.2.2.1), .list sOp a0.2.2.2.2.2.1 false, .val (.string a0.2.2.2.2.2.2.1), .val (.string a0.2.2.2.2.2.2.2)]]) (σ := []) [] (by kernel_rfl)
def F.pleachref43_Is.l111010.st (a0 : TCall) (x0 : ByteArray) (x1 : Int) : St := ⟨[(1, .one (.sc (.ref 0 0))), (3, vS x0), (4, vI x1)], [.cells 24 [.val (.int .i64 a0.1), .val (.string a0.2.1), .val (.string a0.2.2.1), .val (.string a0.2.2.2.1), .val (.string a0.2.2.2.2.1), .list sOp a0.2.2.2.2.2.1 false, .val (.string a0.2.2.2.2.2.2.1), .val (.string a0.2.2.2.2.2.2.2)]]⟩
noncomputable def F.pleachref43_Is.l111010 (K n0 : Nat) (a0 : TCall) (x0 : ByteArray) (x1 : Int) := F.pleachref43_Is.at K [1, 1, 1, 0, 1, 0] [n0] (F.pleachref43_Is.l111010.st a0 x0 x1)
def F.pleachref43_Is.l1111010.st (a0 : TCall) (x0 : Int) : St := ⟨[(41, vL sOp a0.2.2.2.2.2.1), (42, vI (a0.2.2.2.2.2.1.length : Int)), (43, vI x0)], []⟩
noncomputable def F.pleachref43_Is.l1111010 (K n0 : Nat) (a0 : TCall) (x0 : Int) := F.pleachref43_Is.at K [1, 1, 1, 1, 0, 1, 0] [n0] (F.pleachref43_Is.l1111010.st a0 x0)
noncomputable def F.pleachref43_Is.l111010.B (c0 : (TCall) → (Int) → Option (ByteArray)) (c1 : (ByteArray) → (Int) → Option (Bool)) (c2 : (TCall) → (ByteArray) → (Int) → Option (Bool)) (c3 : (TCall) → (Int) → Option (Bool)) (a0 : TCall) (x0 : ByteArray) (x1 : Int) : Option (Bool) :=
    (bif (decide (x1 < (x0.size : Int))) then (guardK (decide (0 ≤ x1) && decide (x1 < (x0.size : Int))) (guardK (decide (0 ≤ x1) && decide (x1 < (x0.size : Int))) ((c0 (a0.1, a0.2.1, a0.2.2.1, a0.2.2.2.1, a0.2.2.2.2.1, a0.2.2.2.2.2.1, a0.2.2.2.2.2.2.1, a0.2.2.2.2.2.2.2) (byteAt x0 x1)).bind fun t2 => ((c1 t2 (byteAt x0 x1)).bind fun t3 => (bif (!t3) then (some false) else (c2 a0 x0 (w64 (x1 + 1)))))))) else (c3 a0 0))
theorem F.pleachref43_Is.l111010.eq K n0 a0 x0 x1 : F.pleachref43_Is.l111010 K (n0 + 1) a0 x0 x1 = F.pleachref43_Is.l111010.B (F.pleachref43_field K) (F.pleachref43_may K) (F.pleachref43_Is.l111010 K n0) (F.pleachref43_Is.l1111010 K K) a0 x0 x1 := (F.pleachref43_Is.in_eq K [1, 1, 1, 0, 1, 0] [n0 + 1] (F.pleachref43_Is.l111010.st a0 x0 x1)).trans ((show ∀ H, F.pleachref43_Is.in K H [1, 1, 1, 0, 1, 0] [n0 + 1] (F.pleachref43_Is.l111010.st a0 x0 x1) = F.pleachref43_Is.l111010.B (F.pleachref43_field K) (F.pleachref43_may K) (fun a0 x0 x1 => H [1, 1, 1, 0, 1, 0] [n0] (F.pleachref43_Is.l111010.st a0 x0 x1)) (fun a0 x0 => H [1, 1, 1, 1, 0, 1, 0] [K] (F.pleachref43_Is.l1111010.st a0 x0)) a0 x0 x1 from by intro H; kernel_rfl) (F.pleachref43_Is.at K))
noncomputable def F.pleachref43_Is.l1111010.B (c0 : (TOp) → Option (Bool)) (c1 : (TOp) → Option (Bool)) (c2 : (TCall) → (Int) → Option (Bool)) (a0 : TCall) (x0 : Int) : Option (Bool) :=
    (bif (decide (x0 < (a0.2.2.2.2.2.1.length : Int))) then (guardK (decide (0 ≤ x0) && decide (x0 < (a0.2.2.2.2.2.1.length : Int))) ((c0 ((rd sOp a0.2.2.2.2.2.1 x0.toNat).1, ((rd sOp a0.2.2.2.2.2.1 x0.toNat).2).1, (((rd sOp a0.2.2.2.2.2.1 x0.toNat).2).2).1, ((((rd sOp a0.2.2.2.2.2.1 x0.toNat).2).2).2).1, (((((rd sOp a0.2.2.2.2.2.1 x0.toNat).2).2).2).2).1, ((((((rd sOp a0.2.2.2.2.2.1 x0.toNat).2).2).2).2).2).1, (((((((rd sOp a0.2.2.2.2.2.1 x0.toNat).2).2).2).2).2).2).1, (((((((rd sOp a0.2.2.2.2.2.1 x0.toNat).2).2).2).2).2).2).2)).bind fun t4 => (bif (!t4) then (some false) else ((c1 ((rd sOp a0.2.2.2.2.2.1 x0.toNat).1, ((rd sOp a0.2.2.2.2.2.1 x0.toNat).2).1, (((rd sOp a0.2.2.2.2.2.1 x0.toNat).2).2).1, ((((rd sOp a0.2.2.2.2.2.1 x0.toNat).2).2).2).1, (((((rd sOp a0.2.2.2.2.2.1 x0.toNat).2).2).2).2).1, ((((((rd sOp a0.2.2.2.2.2.1 x0.toNat).2).2).2).2).2).1, (((((((rd sOp a0.2.2.2.2.2.1 x0.toNat).2).2).2).2).2).2).1, (((((((rd sOp a0.2.2.2.2.2.1 x0.toNat).2).2).2).2).2).2).2)).bind fun t5 => (bif (!t5) then (some false) else (c2 a0 (w64 (x0 + 1)))))))) else (some true))
theorem F.pleachref43_Is.l1111010.eq K n0 a0 x0 : F.pleachref43_Is.l1111010 K (n0 + 1) a0 x0 = F.pleachref43_Is.l1111010.B (F.pleachref26_Right K) (F.pleachref43_opBare K) (F.pleachref43_Is.l1111010 K n0) a0 x0 := (F.pleachref43_Is.in_eq K [1, 1, 1, 1, 0, 1, 0] [n0 + 1] (F.pleachref43_Is.l1111010.st a0 x0)).trans ((show ∀ H, F.pleachref43_Is.in K H [1, 1, 1, 1, 0, 1, 0] [n0 + 1] (F.pleachref43_Is.l1111010.st a0 x0) = F.pleachref43_Is.l1111010.B (F.pleachref26_Right K) (F.pleachref43_opBare K) (fun a0 x0 => H [1, 1, 1, 1, 0, 1, 0] [n0] (F.pleachref43_Is.l1111010.st a0 x0)) a0 x0 from by intro H; kernel_rfl) (F.pleachref43_Is.at K))
noncomputable def F.pleachref43_Is.B (c0 : (Int) → Option (ByteArray)) (c1 : (TCall) → (ByteArray) → Option (Bool)) (c2 : (TCall) → (ByteArray) → (Int) → Option (Bool)) (a0 : TCall) : Option (Bool) :=
    ((c0 a0.1).bind fun t0 => (bif (strEq t0 (⟨#[63]⟩ : ByteArray)) then (some false) else ((c1 (a0.1, a0.2.1, a0.2.2.1, a0.2.2.2.1, a0.2.2.2.2.1, a0.2.2.2.2.2.1, a0.2.2.2.2.2.2.1, a0.2.2.2.2.2.2.2) t0).bind fun t1 => (bif (!t1) then (some false) else (bif (decide ((a0.2.2.2.2.2.1.length : Int) > 64)) then (some false) else (c2 a0 t0 0))))))
theorem F.pleachref43_Is.eq K a0 : F.pleachref43_Is (K + 1) a0 = F.pleachref43_Is.B (F.pleachref43_form K) (F.pleachref43_bare K) (F.pleachref43_Is.l111010 K K) a0 := (F.pleachref43_Is.in_main K a0).trans ((show ∀ H, F.pleachref43_Is.in K H [] [] ⟨slots [.agg [.val (.int .i64 a0.1), .val (.string a0.2.1), .val (.string a0.2.2.1), .val (.string a0.2.2.2.1), .val (.string a0.2.2.2.2.1), .list sOp a0.2.2.2.2.2.1 false, .val (.string a0.2.2.2.2.2.2.1), .val (.string a0.2.2.2.2.2.2.2)]] 0, []⟩ = F.pleachref43_Is.B (F.pleachref43_form K) (F.pleachref43_bare K) (fun a0 x0 x1 => H [1, 1, 1, 0, 1, 0] [K] (F.pleachref43_Is.l111010.st a0 x0 x1)) a0 from by intro H; kernel_rfl) (F.pleachref43_Is.at K))
noncomputable def V.pleachref43_Is.l111010 (a0 : TCall) (x0 : ByteArray) (x1 : Int) := lim fun v => F.pleachref43_Is.l111010 (v 0) (v 1) a0 x0 x1
noncomputable def V.pleachref43_Is.l1111010 (a0 : TCall) (x0 : Int) := lim fun v => F.pleachref43_Is.l1111010 (v 0) (v 1) a0 x0
noncomputable def V.pleachref43_Is (a0 : TCall) := lim fun v => F.pleachref43_Is (v 0) a0
theorem V.pleachref43_Is.l111010.of a0 x0 x1 {r} (h : F.pleachref43_Is.l111010.B V.pleachref43_field V.pleachref43_may V.pleachref43_Is.l111010 V.pleachref43_Is.l1111010 a0 x0 x1 = some r) : V.pleachref43_Is.l111010 a0 x0 x1 = some r :=
  App.to (App.step 1 (fun v => F.pleachref43_Is.l111010.eq (v 0) (v 1) a0 x0 x1) (by unfold F.pleachref43_Is.l111010.B; repeat' first | apply App.guard | apply App.cond | exact App.lim | exact (App.enter 1 App.lim) | exact App.val | exact App.no | apply App.meet | apply App.ite | refine App.bind ?_ fun _ => ?_)) h
theorem V.pleachref43_Is.l1111010.of a0 x0 {r} (h : F.pleachref43_Is.l1111010.B V.pleachref26_Right V.pleachref43_opBare V.pleachref43_Is.l1111010 a0 x0 = some r) : V.pleachref43_Is.l1111010 a0 x0 = some r :=
  App.to (App.step 1 (fun v => F.pleachref43_Is.l1111010.eq (v 0) (v 1) a0 x0) (by unfold F.pleachref43_Is.l1111010.B; repeat' first | apply App.guard | apply App.cond | exact App.lim | exact App.val | exact App.no | apply App.meet | apply App.ite | refine App.bind ?_ fun _ => ?_)) h
theorem V.pleachref43_Is.of a0 {r} (h : F.pleachref43_Is.B V.pleachref43_form V.pleachref43_bare V.pleachref43_Is.l111010 a0 = some r) : V.pleachref43_Is a0 = some r :=
  App.to (App.step 0 (fun v => F.pleachref43_Is.eq (v 0) a0) (by unfold F.pleachref43_Is.B; repeat' first | apply App.guard | apply App.cond | exact App.lim | exact (App.enter 1 App.lim) | exact App.val | exact App.no | apply App.meet | apply App.ite | refine App.bind ?_ fun _ => ?_)) h
noncomputable def F.pleachref43_words (K : Nat) : Option ((List ByteArray)) := evFn Tryz.prog sg K 34 [] []
noncomputable def F.pleachref43_words.B : Option ((List ByteArray)) :=
    (some ([(⟨#[99, 111, 109, 109, 105, 116]⟩ : ByteArray), (⟨#[98, 114, 97, 110, 99, 104]⟩ : ByteArray), (⟨#[116, 97, 103]⟩ : ByteArray), (⟨#[109, 111, 118, 101]⟩ : ByteArray), (⟨#[100, 101, 108, 101, 116, 101]⟩ : ByteArray), (⟨#[117, 110, 116, 97, 103]⟩ : ByteArray), (⟨#[99, 104, 101, 99, 107, 111, 117, 116]⟩ : ByteArray), (⟨#[110, 111, 100, 101]⟩ : ByteArray), (⟨#[111, 117, 116]⟩ : ByteArray), (⟨#[105, 110]⟩ : ByteArray), (⟨#[108, 97, 98, 101, 108, 108, 101, 100]⟩ : ByteArray), (⟨#[100, 105, 102, 102]⟩ : ByteArray), (⟨#[109, 101, 114, 103, 101]⟩ : ByteArray), (⟨#[98, 97, 115, 101]⟩ : ByteArray), (⟨#[108, 111, 103]⟩ : ByteArray), (⟨#[114, 101, 102, 115]⟩ : ByteArray), (⟨#[114, 101, 112, 97, 99, 107]⟩ : ByteArray), (⟨#[99, 111, 108, 108, 101, 99, 116]⟩ : ByteArray), (⟨#[115, 116, 97, 116]⟩ : ByteArray)]))
theorem F.pleachref43_words.eq K : F.pleachref43_words (K + 1) = F.pleachref43_words.B := by kernel_rfl
noncomputable def V.pleachref43_words := lim fun v => F.pleachref43_words (v 0)
theorem V.pleachref43_words.of {r} (h : F.pleachref43_words.B = some r) : V.pleachref43_words = some r :=
  App.to (a := fun v => F.pleachref43_words (v 0)) (b := F.pleachref43_words.B) (App.step 0 (a := fun v => F.pleachref43_words (v 0)) (fun v => F.pleachref43_words.eq (v 0)) App.const) h
noncomputable def F.pleachref43_signs (K : Nat) : Option ((List ByteArray)) := evFn Tryz.prog sg K 35 [] []
noncomputable def F.pleachref43_signs.B : Option ((List ByteArray)) :=
    (some ([(⟨#[43, 110, 111, 100, 101]⟩ : ByteArray), (⟨#[45, 110, 111, 100, 101]⟩ : ByteArray), (⟨#[43, 101, 100, 103, 101]⟩ : ByteArray), (⟨#[45, 101, 100, 103, 101]⟩ : ByteArray), (⟨#[43, 108, 97, 98, 101, 108]⟩ : ByteArray), (⟨#[45, 108, 97, 98, 101, 108]⟩ : ByteArray), (⟨#[43, 109, 97, 114, 107]⟩ : ByteArray), (⟨#[45, 109, 97, 114, 107]⟩ : ByteArray), (⟨#[43, 112, 114, 111, 112]⟩ : ByteArray), (⟨#[45, 112, 114, 111, 112]⟩ : ByteArray), (⟨#[43, 97, 116, 116, 114]⟩ : ByteArray), (⟨#[45, 97, 116, 116, 114]⟩ : ByteArray)]))
theorem F.pleachref43_signs.eq K : F.pleachref43_signs (K + 1) = F.pleachref43_signs.B := by kernel_rfl
noncomputable def V.pleachref43_signs := lim fun v => F.pleachref43_signs (v 0)
theorem V.pleachref43_signs.of {r} (h : F.pleachref43_signs.B = some r) : V.pleachref43_signs = some r :=
  App.to (a := fun v => F.pleachref43_signs (v 0)) (b := F.pleachref43_signs.B) (App.step 0 (a := fun v => F.pleachref43_signs (v 0)) (fun v => F.pleachref43_signs.eq (v 0)) App.const) h
noncomputable def F.pleachref43_Show (K : Nat) (a0 : TCall) : Option (ByteArray) := evFn Tryz.prog sg K 11 [.agg [.val (.int .i64 a0.1), .val (.string a0.2.1), .val (.string a0.2.2.1), .val (.string a0.2.2.2.1), .val (.string a0.2.2.2.2.1), .list sOp a0.2.2.2.2.2.1 false, .val (.string a0.2.2.2.2.2.2.1), .val (.string a0.2.2.2.2.2.2.2)]] []
noncomputable def F.pleachref43_Show.at (K : Nat) (p ns : List Nat) (s : St) : Option (ByteArray) := atFn Tryz.prog sg K 11 0 p ns s
noncomputable def F.pleachref43_Show.in (K : Nat) (H : List Nat → List Nat → St → Option (ByteArray)) (p ns : List Nat) (s : St) : Option (ByteArray) := inFn Tryz.prog sg K 11 0 [[1, 1, 1, 1, 1, 0, 1, 0, 0, 1, 0, 0, 1, 1], [1, 1, 1, 1, 1, 0, 1, 0, 0, 1, 1], [1, 1, 1, 1, 1, 1, 1, 0, 1, 0, 0, 1, 1, 0, 0, 1, 1, 1], [1, 1, 1, 1, 1, 1, 1, 0, 1, 0, 0, 1, 1, 0, 0, 1, 1, 1, 1], [1, 1, 1, 1, 1, 1, 1, 0, 1, 0, 0, 1, 1, 1]] H p ns s
theorem F.pleachref43_Show.in_eq K p ns s : F.pleachref43_Show.at K p ns s = F.pleachref43_Show.in K (F.pleachref43_Show.at K) p ns s := atFn_eq (P := Tryz.prog) (sg := sg) (K := K) (f := 11) (m := 0) [[1, 1, 1, 1, 1, 0, 1, 0, 0, 1, 0, 0, 1, 1], [1, 1, 1, 1, 1, 0, 1, 0, 0, 1, 1], [1, 1, 1, 1, 1, 1, 1, 0, 1, 0, 0, 1, 1, 0, 0, 1, 1, 1], [1, 1, 1, 1, 1, 1, 1, 0, 1, 0, 0, 1, 1, 0, 0, 1, 1, 1, 1], [1, 1, 1, 1, 1, 1, 1, 0, 1, 0, 0, 1, 1, 1]] p ns s
theorem F.pleachref43_Show.in_main K a0 : F.pleachref43_Show (K + 1) a0 = F.pleachref43_Show.in K (F.pleachref43_Show.at K) [] [] ⟨slots [.agg [.val (.int .i64 a0.1), .val (.string a0.2.1), .val (.string a0.2.2.1), .val (.string a0.2.2.2.1), .val (.string a0.2.2.2.2.1), .list sOp a0.2.2.2.2.2.1 false, .val (.string a0.2.2.2.2.2.2.1), .val (.string a0.2.2.2.2.2.2.2)]] 0, []⟩ := evFn_eq (P := Tryz.prog) (sg := sg) (K := K) (f := 11) (args := [.agg [.val (.int .i64 a0.1), .val (.string a0.2.1), .val (.string a0.2.2.1), .val (.string a0.2.2.2.1), .val (.string a0.2.2.2.2.1), .list sOp a0.2.2.2.2.2.1 false, .val (.string a0.2.2.2.2.2.2.1), .val (.string a0.2.2.2.2.2.2.2)]]) (σ := []) [[1, 1, 1, 1, 1, 0, 1, 0, 0, 1, 0, 0, 1, 1], [1, 1, 1, 1, 1, 0, 1, 0, 0, 1, 1], [1, 1, 1, 1, 1, 1, 1, 0, 1, 0, 0, 1, 1, 0, 0, 1, 1, 1], [1, 1, 1, 1, 1, 1, 1, 0, 1, 0, 0, 1, 1, 0, 0, 1, 1, 1, 1], [1, 1, 1, 1, 1, 1, 1, 0, 1, 0, 0, 1, 1, 1]] (by kernel_rfl)
def F.pleachref43_Show.l11111010.st (a0 : TCall) (x0 : ByteArray) (x1 : ByteArray) (x2 : Int) : St := ⟨[(1, .one (.sc (.ref 0 0))), (4, vS x0), (5, vS x1), (6, vI x2)], [.cells 24 [.val (.int .i64 a0.1), .val (.string a0.2.1), .val (.string a0.2.2.1), .val (.string a0.2.2.2.1), .val (.string a0.2.2.2.2.1), .list sOp a0.2.2.2.2.2.1 false, .val (.string a0.2.2.2.2.2.2.1), .val (.string a0.2.2.2.2.2.2.2)]]⟩
noncomputable def F.pleachref43_Show.l11111010 (K n0 : Nat) (a0 : TCall) (x0 : ByteArray) (x1 : ByteArray) (x2 : Int) := F.pleachref43_Show.at K [1, 1, 1, 1, 1, 0, 1, 0] [n0] (F.pleachref43_Show.l11111010.st a0 x0 x1 x2)
def F.pleachref43_Show.j11111010010011.st (a0 : TCall) (x0 : ByteArray) (x1 : ByteArray) (x2 : Int) (x3 : ByteArray) : St := ⟨[(1, .one (.sc (.ref 0 0))), (4, vS x0), (5, vS x1), (6, vI x2), (7, vS x3)], [.cells 24 [.val (.int .i64 a0.1), .val (.string a0.2.1), .val (.string a0.2.2.1), .val (.string a0.2.2.2.1), .val (.string a0.2.2.2.2.1), .list sOp a0.2.2.2.2.2.1 false, .val (.string a0.2.2.2.2.2.2.1), .val (.string a0.2.2.2.2.2.2.2)]]⟩
noncomputable def F.pleachref43_Show.j11111010010011 (K n0 : Nat) (a0 : TCall) (x0 : ByteArray) (x1 : ByteArray) (x2 : Int) (x3 : ByteArray) := F.pleachref43_Show.at K [1, 1, 1, 1, 1, 0, 1, 0, 0, 1, 0, 0, 1, 1] [n0] (F.pleachref43_Show.j11111010010011.st a0 x0 x1 x2 x3)
def F.pleachref43_Show.j11111010011.st (a0 : TCall) (x0 : ByteArray) (x1 : ByteArray) (x2 : Int) : St := ⟨[(1, .one (.sc (.ref 0 0))), (4, vS x0), (5, vS x1), (6, vI x2)], [.cells 24 [.val (.int .i64 a0.1), .val (.string a0.2.1), .val (.string a0.2.2.1), .val (.string a0.2.2.2.1), .val (.string a0.2.2.2.2.1), .list sOp a0.2.2.2.2.2.1 false, .val (.string a0.2.2.2.2.2.2.1), .val (.string a0.2.2.2.2.2.2.2)]]⟩
noncomputable def F.pleachref43_Show.j11111010011 (K n0 : Nat) (a0 : TCall) (x0 : ByteArray) (x1 : ByteArray) (x2 : Int) := F.pleachref43_Show.at K [1, 1, 1, 1, 1, 0, 1, 0, 0, 1, 1] [n0] (F.pleachref43_Show.j11111010011.st a0 x0 x1 x2)
def F.pleachref43_Show.l1111111010.st (a0 : TCall) (x0 : ByteArray) (x1 : Int) (x2 : List ByteArray) : St := ⟨[(3, .one (.sc (.own 0 none))), (4, vS x0), (42, vL sOp a0.2.2.2.2.2.1), (43, vI (a0.2.2.2.2.2.1.length : Int)), (44, vI x1)], [.elems .str x2]⟩
noncomputable def F.pleachref43_Show.l1111111010 (K n0 : Nat) (a0 : TCall) (x0 : ByteArray) (x1 : Int) (x2 : List ByteArray) := F.pleachref43_Show.at K [1, 1, 1, 1, 1, 1, 1, 0, 1, 0] [n0] (F.pleachref43_Show.l1111111010.st a0 x0 x1 x2)
def F.pleachref43_Show.j111111101001100111.st (a0 : TCall) (x0 : ByteArray) (x1 : Int) (x2 : List ByteArray) (x3 : Int) (x4 : ByteArray) (x5 : ByteArray) (x6 : ByteArray) (x7 : ByteArray) (x8 : Int) (x9 : Int) (x10 : ByteArray) : St := ⟨[(3, .one (.sc (.own 0 none))), (4, vS x0), (9, .one (.sc (.ref 1 0))), (42, vL sOp a0.2.2.2.2.2.1), (43, vI (a0.2.2.2.2.2.1.length : Int)), (44, vI x1)], [.elems .str x2, .cells 55 [.val (.int .i64 x3), .val (.string x4), .val (.string x5), .val (.string x6), .val (.string x7), .val (.int .i64 x8), .val (.int .i64 x9), .val (.string x10)]]⟩
noncomputable def F.pleachref43_Show.j111111101001100111 (K n0 : Nat) (a0 : TCall) (x0 : ByteArray) (x1 : Int) (x2 : List ByteArray) (x3 : Int) (x4 : ByteArray) (x5 : ByteArray) (x6 : ByteArray) (x7 : ByteArray) (x8 : Int) (x9 : Int) (x10 : ByteArray) := F.pleachref43_Show.at K [1, 1, 1, 1, 1, 1, 1, 0, 1, 0, 0, 1, 1, 0, 0, 1, 1, 1] [n0] (F.pleachref43_Show.j111111101001100111.st a0 x0 x1 x2 x3 x4 x5 x6 x7 x8 x9 x10)
def F.pleachref43_Show.j1111111010011001111.st (a0 : TCall) (x0 : ByteArray) (x1 : Int) (x2 : List ByteArray) (x3 : Int) (x4 : ByteArray) (x5 : ByteArray) (x6 : ByteArray) (x7 : ByteArray) (x8 : Int) (x9 : Int) (x10 : ByteArray) : St := ⟨[(3, .one (.sc (.own 0 none))), (4, vS x0), (9, .one (.sc (.ref 1 0))), (42, vL sOp a0.2.2.2.2.2.1), (43, vI (a0.2.2.2.2.2.1.length : Int)), (44, vI x1)], [.elems .str x2, .cells 55 [.val (.int .i64 x3), .val (.string x4), .val (.string x5), .val (.string x6), .val (.string x7), .val (.int .i64 x8), .val (.int .i64 x9), .val (.string x10)]]⟩
noncomputable def F.pleachref43_Show.j1111111010011001111 (K n0 : Nat) (a0 : TCall) (x0 : ByteArray) (x1 : Int) (x2 : List ByteArray) (x3 : Int) (x4 : ByteArray) (x5 : ByteArray) (x6 : ByteArray) (x7 : ByteArray) (x8 : Int) (x9 : Int) (x10 : ByteArray) := F.pleachref43_Show.at K [1, 1, 1, 1, 1, 1, 1, 0, 1, 0, 0, 1, 1, 0, 0, 1, 1, 1, 1] [n0] (F.pleachref43_Show.j1111111010011001111.st a0 x0 x1 x2 x3 x4 x5 x6 x7 x8 x9 x10)
def F.pleachref43_Show.j11111110100111.st (a0 : TCall) (x0 : ByteArray) (x1 : Int) (x2 : List ByteArray) : St := ⟨[(3, .one (.sc (.own 0 none))), (4, vS x0), (42, vL sOp a0.2.2.2.2.2.1), (43, vI (a0.2.2.2.2.2.1.length : Int)), (44, vI x1)], [.elems .str x2]⟩
noncomputable def F.pleachref43_Show.j11111110100111 (K n0 : Nat) (a0 : TCall) (x0 : ByteArray) (x1 : Int) (x2 : List ByteArray) := F.pleachref43_Show.at K [1, 1, 1, 1, 1, 1, 1, 0, 1, 0, 0, 1, 1, 1] [n0] (F.pleachref43_Show.j11111110100111.st a0 x0 x1 x2)
noncomputable def F.pleachref43_Show.l11111010.B (c0 : (TCall) → (Int) → Option (ByteArray)) (c1 : (TCall) → (ByteArray) → (ByteArray) → (Int) → (ByteArray) → Option (ByteArray)) (c2 : Option ((List ByteArray))) (c3 : (TCall) → (ByteArray) → (Int) → (List ByteArray) → Option (ByteArray)) (a0 : TCall) (x0 : ByteArray) (x1 : ByteArray) (x2 : Int) : Option (ByteArray) :=
    (bif (decide (x2 < (x1.size : Int))) then (guardK (decide (0 ≤ x2) && decide (x2 < (x1.size : Int))) ((c0 (a0.1, a0.2.1, a0.2.2.1, a0.2.2.2.1, a0.2.2.2.2.1, a0.2.2.2.2.2.1, a0.2.2.2.2.2.2.1, a0.2.2.2.2.2.2.2) (byteAt x1 x2)).bind fun t3 => (bif (strEq t3 (⟨#[]⟩ : ByteArray)) then (c1 a0 x0 x1 x2 (⟨#[45]⟩ : ByteArray)) else (c1 a0 x0 x1 x2 t3)))) else ((c2).bind fun t4 => (c3 a0 x0 0 t4)))
theorem F.pleachref43_Show.l11111010.eq K n0 a0 x0 x1 x2 : F.pleachref43_Show.l11111010 K (n0 + 1) a0 x0 x1 x2 = F.pleachref43_Show.l11111010.B (F.pleachref43_field K) (F.pleachref43_Show.j11111010010011 K n0) (F.pleachref43_signs K) (F.pleachref43_Show.l1111111010 K K) a0 x0 x1 x2 := (F.pleachref43_Show.in_eq K [1, 1, 1, 1, 1, 0, 1, 0] [n0 + 1] (F.pleachref43_Show.l11111010.st a0 x0 x1 x2)).trans ((show ∀ H, F.pleachref43_Show.in K H [1, 1, 1, 1, 1, 0, 1, 0] [n0 + 1] (F.pleachref43_Show.l11111010.st a0 x0 x1 x2) = F.pleachref43_Show.l11111010.B (F.pleachref43_field K) (fun a0 x0 x1 x2 x3 => H [1, 1, 1, 1, 1, 0, 1, 0, 0, 1, 0, 0, 1, 1] [n0] (F.pleachref43_Show.j11111010010011.st a0 x0 x1 x2 x3)) (F.pleachref43_signs K) (fun a0 x0 x1 x2 => H [1, 1, 1, 1, 1, 1, 1, 0, 1, 0] [K] (F.pleachref43_Show.l1111111010.st a0 x0 x1 x2)) a0 x0 x1 x2 from by intro H; kernel_rfl) (F.pleachref43_Show.at K))
noncomputable def F.pleachref43_Show.j11111010010011.B (c0 : (TCall) → (ByteArray) → (ByteArray) → (Int) → Option (ByteArray)) (a0 : TCall) (x0 : ByteArray) (x1 : ByteArray) (x2 : Int) (x3 : ByteArray) : Option (ByteArray) :=
    (guardK (decide (x0.size + (⟨#[32]⟩ : ByteArray).size ≤ i64max)) (guardK (decide ((x0 ++ (⟨#[32]⟩ : ByteArray)).size + x3.size ≤ i64max)) (c0 a0 ((x0 ++ (⟨#[32]⟩ : ByteArray)) ++ x3) x1 x2)))
theorem F.pleachref43_Show.j11111010010011.eq K n0 a0 x0 x1 x2 x3 : F.pleachref43_Show.j11111010010011 K n0 a0 x0 x1 x2 x3 = F.pleachref43_Show.j11111010010011.B (F.pleachref43_Show.j11111010011 K n0) a0 x0 x1 x2 x3 := (F.pleachref43_Show.in_eq K [1, 1, 1, 1, 1, 0, 1, 0, 0, 1, 0, 0, 1, 1] [n0] (F.pleachref43_Show.j11111010010011.st a0 x0 x1 x2 x3)).trans ((show ∀ H, F.pleachref43_Show.in K H [1, 1, 1, 1, 1, 0, 1, 0, 0, 1, 0, 0, 1, 1] [n0] (F.pleachref43_Show.j11111010010011.st a0 x0 x1 x2 x3) = F.pleachref43_Show.j11111010010011.B (fun a0 x0 x1 x2 => H [1, 1, 1, 1, 1, 0, 1, 0, 0, 1, 1] [n0] (F.pleachref43_Show.j11111010011.st a0 x0 x1 x2)) a0 x0 x1 x2 x3 from by intro H; kernel_rfl) (F.pleachref43_Show.at K))
noncomputable def F.pleachref43_Show.j11111010011.B (c0 : (TCall) → (ByteArray) → (ByteArray) → (Int) → Option (ByteArray)) (a0 : TCall) (x0 : ByteArray) (x1 : ByteArray) (x2 : Int) : Option (ByteArray) :=
    (c0 a0 x0 x1 (w64 (x2 + 1)))
theorem F.pleachref43_Show.j11111010011.eq K n0 a0 x0 x1 x2 : F.pleachref43_Show.j11111010011 K n0 a0 x0 x1 x2 = F.pleachref43_Show.j11111010011.B (F.pleachref43_Show.l11111010 K n0) a0 x0 x1 x2 := (F.pleachref43_Show.in_eq K [1, 1, 1, 1, 1, 0, 1, 0, 0, 1, 1] [n0] (F.pleachref43_Show.j11111010011.st a0 x0 x1 x2)).trans ((show ∀ H, F.pleachref43_Show.in K H [1, 1, 1, 1, 1, 0, 1, 0, 0, 1, 1] [n0] (F.pleachref43_Show.j11111010011.st a0 x0 x1 x2) = F.pleachref43_Show.j11111010011.B (fun a0 x0 x1 x2 => H [1, 1, 1, 1, 1, 0, 1, 0] [n0] (F.pleachref43_Show.l11111010.st a0 x0 x1 x2)) a0 x0 x1 x2 from by intro H; kernel_rfl) (F.pleachref43_Show.at K))
noncomputable def F.pleachref43_Show.l1111111010.B (c0 : (TCall) → (ByteArray) → (Int) → (List ByteArray) → (Int) → (ByteArray) → (ByteArray) → (ByteArray) → (ByteArray) → (Int) → (Int) → (ByteArray) → Option (ByteArray)) (a0 : TCall) (x0 : ByteArray) (x1 : Int) (x2 : List ByteArray) : Option (ByteArray) :=
    (bif (decide (x1 < (a0.2.2.2.2.2.1.length : Int))) then (guardK (decide (0 ≤ x1) && decide (x1 < (a0.2.2.2.2.2.1.length : Int))) (guardK (decide (x0.size + (⟨#[32, 59, 32]⟩ : ByteArray).size ≤ i64max)) (guardK (decide (0 ≤ (w64 ((rd sOp a0.2.2.2.2.2.1 x1.toNat).1 - 1))) && decide ((w64 ((rd sOp a0.2.2.2.2.2.1 x1.toNat).1 - 1)) < (x2.length : Int))) (guardK (decide ((x0 ++ (⟨#[32, 59, 32]⟩ : ByteArray)).size + (rd .str x2 ((w64 ((rd sOp a0.2.2.2.2.2.1 x1.toNat).1 - 1)).toNat)).size ≤ i64max)) (guardK (decide (((x0 ++ (⟨#[32, 59, 32]⟩ : ByteArray)) ++ (rd .str x2 ((w64 ((rd sOp a0.2.2.2.2.2.1 x1.toNat).1 - 1)).toNat))).size + (⟨#[32]⟩ : ByteArray).size ≤ i64max)) (guardK (decide ((((x0 ++ (⟨#[32, 59, 32]⟩ : ByteArray)) ++ (rd .str x2 ((w64 ((rd sOp a0.2.2.2.2.2.1 x1.toNat).1 - 1)).toNat))) ++ (⟨#[32]⟩ : ByteArray)).size + (((rd sOp a0.2.2.2.2.2.1 x1.toNat).2).1).size ≤ i64max)) (bif ((rd sOp a0.2.2.2.2.2.1 x1.toNat).1 == 3) then (guardK (decide (((((x0 ++ (⟨#[32, 59, 32]⟩ : ByteArray)) ++ (rd .str x2 ((w64 ((rd sOp a0.2.2.2.2.2.1 x1.toNat).1 - 1)).toNat))) ++ (⟨#[32]⟩ : ByteArray)) ++ ((rd sOp a0.2.2.2.2.2.1 x1.toNat).2).1).size + (⟨#[32]⟩ : ByteArray).size ≤ i64max)) (guardK (decide ((((((x0 ++ (⟨#[32, 59, 32]⟩ : ByteArray)) ++ (rd .str x2 ((w64 ((rd sOp a0.2.2.2.2.2.1 x1.toNat).1 - 1)).toNat))) ++ (⟨#[32]⟩ : ByteArray)) ++ ((rd sOp a0.2.2.2.2.2.1 x1.toNat).2).1) ++ (⟨#[32]⟩ : ByteArray)).size + ((((rd sOp a0.2.2.2.2.2.1 x1.toNat).2).2).1).size ≤ i64max)) (guardK (decide (((((((x0 ++ (⟨#[32, 59, 32]⟩ : ByteArray)) ++ (rd .str x2 ((w64 ((rd sOp a0.2.2.2.2.2.1 x1.toNat).1 - 1)).toNat))) ++ (⟨#[32]⟩ : ByteArray)) ++ ((rd sOp a0.2.2.2.2.2.1 x1.toNat).2).1) ++ (⟨#[32]⟩ : ByteArray)) ++ (((rd sOp a0.2.2.2.2.2.1 x1.toNat).2).2).1).size + (⟨#[32]⟩ : ByteArray).size ≤ i64max)) (guardK (decide ((((((((x0 ++ (⟨#[32, 59, 32]⟩ : ByteArray)) ++ (rd .str x2 ((w64 ((rd sOp a0.2.2.2.2.2.1 x1.toNat).1 - 1)).toNat))) ++ (⟨#[32]⟩ : ByteArray)) ++ ((rd sOp a0.2.2.2.2.2.1 x1.toNat).2).1) ++ (⟨#[32]⟩ : ByteArray)) ++ (((rd sOp a0.2.2.2.2.2.1 x1.toNat).2).2).1) ++ (⟨#[32]⟩ : ByteArray)).size + (((((rd sOp a0.2.2.2.2.2.1 x1.toNat).2).2).2).1).size ≤ i64max)) (c0 a0 ((((((((x0 ++ (⟨#[32, 59, 32]⟩ : ByteArray)) ++ (rd .str x2 ((w64 ((rd sOp a0.2.2.2.2.2.1 x1.toNat).1 - 1)).toNat))) ++ (⟨#[32]⟩ : ByteArray)) ++ ((rd sOp a0.2.2.2.2.2.1 x1.toNat).2).1) ++ (⟨#[32]⟩ : ByteArray)) ++ (((rd sOp a0.2.2.2.2.2.1 x1.toNat).2).2).1) ++ (⟨#[32]⟩ : ByteArray)) ++ ((((rd sOp a0.2.2.2.2.2.1 x1.toNat).2).2).2).1) x1 x2 ((rd sOp a0.2.2.2.2.2.1 x1.toNat).1) (((rd sOp a0.2.2.2.2.2.1 x1.toNat).2).1) ((((rd sOp a0.2.2.2.2.2.1 x1.toNat).2).2).1) (((((rd sOp a0.2.2.2.2.2.1 x1.toNat).2).2).2).1) ((((((rd sOp a0.2.2.2.2.2.1 x1.toNat).2).2).2).2).1) (((((((rd sOp a0.2.2.2.2.2.1 x1.toNat).2).2).2).2).2).1) ((((((((rd sOp a0.2.2.2.2.2.1 x1.toNat).2).2).2).2).2).2).1) ((((((((rd sOp a0.2.2.2.2.2.1 x1.toNat).2).2).2).2).2).2).2)))))) else (c0 a0 ((((x0 ++ (⟨#[32, 59, 32]⟩ : ByteArray)) ++ (rd .str x2 ((w64 ((rd sOp a0.2.2.2.2.2.1 x1.toNat).1 - 1)).toNat))) ++ (⟨#[32]⟩ : ByteArray)) ++ ((rd sOp a0.2.2.2.2.2.1 x1.toNat).2).1) x1 x2 ((rd sOp a0.2.2.2.2.2.1 x1.toNat).1) (((rd sOp a0.2.2.2.2.2.1 x1.toNat).2).1) ((((rd sOp a0.2.2.2.2.2.1 x1.toNat).2).2).1) (((((rd sOp a0.2.2.2.2.2.1 x1.toNat).2).2).2).1) ((((((rd sOp a0.2.2.2.2.2.1 x1.toNat).2).2).2).2).1) (((((((rd sOp a0.2.2.2.2.2.1 x1.toNat).2).2).2).2).2).1) ((((((((rd sOp a0.2.2.2.2.2.1 x1.toNat).2).2).2).2).2).2).1) ((((((((rd sOp a0.2.2.2.2.2.1 x1.toNat).2).2).2).2).2).2).2))))))))) else (some x0))
theorem F.pleachref43_Show.l1111111010.eq K n0 a0 x0 x1 x2 : F.pleachref43_Show.l1111111010 K (n0 + 1) a0 x0 x1 x2 = F.pleachref43_Show.l1111111010.B (F.pleachref43_Show.j111111101001100111 K n0) a0 x0 x1 x2 := (F.pleachref43_Show.in_eq K [1, 1, 1, 1, 1, 1, 1, 0, 1, 0] [n0 + 1] (F.pleachref43_Show.l1111111010.st a0 x0 x1 x2)).trans ((show ∀ H, F.pleachref43_Show.in K H [1, 1, 1, 1, 1, 1, 1, 0, 1, 0] [n0 + 1] (F.pleachref43_Show.l1111111010.st a0 x0 x1 x2) = F.pleachref43_Show.l1111111010.B (fun a0 x0 x1 x2 x3 x4 x5 x6 x7 x8 x9 x10 => H [1, 1, 1, 1, 1, 1, 1, 0, 1, 0, 0, 1, 1, 0, 0, 1, 1, 1] [n0] (F.pleachref43_Show.j111111101001100111.st a0 x0 x1 x2 x3 x4 x5 x6 x7 x8 x9 x10)) a0 x0 x1 x2 from by intro H; kernel_rfl) (F.pleachref43_Show.at K))
noncomputable def F.pleachref43_Show.j111111101001100111.B (c0 : (Int) → Option (ByteArray)) (c1 : (ByteArray) → (Int) → Option (Bool)) (c2 : (TCall) → (ByteArray) → (Int) → (List ByteArray) → (Int) → (ByteArray) → (ByteArray) → (ByteArray) → (ByteArray) → (Int) → (Int) → (ByteArray) → Option (ByteArray)) (a0 : TCall) (x0 : ByteArray) (x1 : Int) (x2 : List ByteArray) (x3 : Int) (x4 : ByteArray) (x5 : ByteArray) (x6 : ByteArray) (x7 : ByteArray) (x8 : Int) (x9 : Int) (x10 : ByteArray) : Option (ByteArray) :=
    ((c0 x3).bind fun t5 => ((c1 t5 107).bind fun t6 => (bif t6 then (guardK (decide (x0.size + (⟨#[32]⟩ : ByteArray).size ≤ i64max)) (guardK (decide ((x0 ++ (⟨#[32]⟩ : ByteArray)).size + x7.size ≤ i64max)) (c2 a0 ((x0 ++ (⟨#[32]⟩ : ByteArray)) ++ x7) x1 x2 x3 x4 x5 x6 x7 x8 x9 x10))) else (c2 a0 x0 x1 x2 x3 x4 x5 x6 x7 x8 x9 x10))))
theorem F.pleachref43_Show.j111111101001100111.eq K n0 a0 x0 x1 x2 x3 x4 x5 x6 x7 x8 x9 x10 : F.pleachref43_Show.j111111101001100111 K n0 a0 x0 x1 x2 x3 x4 x5 x6 x7 x8 x9 x10 = F.pleachref43_Show.j111111101001100111.B (F.pleachref43_opForm K) (F.pleachref43_has K) (F.pleachref43_Show.j1111111010011001111 K n0) a0 x0 x1 x2 x3 x4 x5 x6 x7 x8 x9 x10 := (F.pleachref43_Show.in_eq K [1, 1, 1, 1, 1, 1, 1, 0, 1, 0, 0, 1, 1, 0, 0, 1, 1, 1] [n0] (F.pleachref43_Show.j111111101001100111.st a0 x0 x1 x2 x3 x4 x5 x6 x7 x8 x9 x10)).trans ((show ∀ H, F.pleachref43_Show.in K H [1, 1, 1, 1, 1, 1, 1, 0, 1, 0, 0, 1, 1, 0, 0, 1, 1, 1] [n0] (F.pleachref43_Show.j111111101001100111.st a0 x0 x1 x2 x3 x4 x5 x6 x7 x8 x9 x10) = F.pleachref43_Show.j111111101001100111.B (F.pleachref43_opForm K) (F.pleachref43_has K) (fun a0 x0 x1 x2 x3 x4 x5 x6 x7 x8 x9 x10 => H [1, 1, 1, 1, 1, 1, 1, 0, 1, 0, 0, 1, 1, 0, 0, 1, 1, 1, 1] [n0] (F.pleachref43_Show.j1111111010011001111.st a0 x0 x1 x2 x3 x4 x5 x6 x7 x8 x9 x10)) a0 x0 x1 x2 x3 x4 x5 x6 x7 x8 x9 x10 from by intro H; kernel_rfl) (F.pleachref43_Show.at K))
noncomputable def F.pleachref43_Show.j1111111010011001111.B (c0 : (Int) → Option (ByteArray)) (c1 : (ByteArray) → (Int) → Option (Bool)) (c2 : (TValue) → Option (ByteArray)) (c3 : (TCall) → (ByteArray) → (Int) → (List ByteArray) → Option (ByteArray)) (a0 : TCall) (x0 : ByteArray) (x1 : Int) (x2 : List ByteArray) (x3 : Int) (x4 : ByteArray) (x5 : ByteArray) (x6 : ByteArray) (x7 : ByteArray) (x8 : Int) (x9 : Int) (x10 : ByteArray) : Option (ByteArray) :=
    ((c0 x3).bind fun t7 => ((c1 t7 118).bind fun t8 => (bif t8 then (guardK (decide (x0.size + (⟨#[32]⟩ : ByteArray).size ≤ i64max)) ((c2 (x8, x9, x10)).bind fun t9 => (guardK (decide ((x0 ++ (⟨#[32]⟩ : ByteArray)).size + t9.size ≤ i64max)) (c3 a0 ((x0 ++ (⟨#[32]⟩ : ByteArray)) ++ t9) x1 x2)))) else (c3 a0 x0 x1 x2))))
theorem F.pleachref43_Show.j1111111010011001111.eq K n0 a0 x0 x1 x2 x3 x4 x5 x6 x7 x8 x9 x10 : F.pleachref43_Show.j1111111010011001111 K n0 a0 x0 x1 x2 x3 x4 x5 x6 x7 x8 x9 x10 = F.pleachref43_Show.j1111111010011001111.B (F.pleachref43_opForm K) (F.pleachref43_has K) (F.pleachref06_Show K) (F.pleachref43_Show.j11111110100111 K n0) a0 x0 x1 x2 x3 x4 x5 x6 x7 x8 x9 x10 := (F.pleachref43_Show.in_eq K [1, 1, 1, 1, 1, 1, 1, 0, 1, 0, 0, 1, 1, 0, 0, 1, 1, 1, 1] [n0] (F.pleachref43_Show.j1111111010011001111.st a0 x0 x1 x2 x3 x4 x5 x6 x7 x8 x9 x10)).trans ((show ∀ H, F.pleachref43_Show.in K H [1, 1, 1, 1, 1, 1, 1, 0, 1, 0, 0, 1, 1, 0, 0, 1, 1, 1, 1] [n0] (F.pleachref43_Show.j1111111010011001111.st a0 x0 x1 x2 x3 x4 x5 x6 x7 x8 x9 x10) = F.pleachref43_Show.j1111111010011001111.B (F.pleachref43_opForm K) (F.pleachref43_has K) (F.pleachref06_Show K) (fun a0 x0 x1 x2 => H [1, 1, 1, 1, 1, 1, 1, 0, 1, 0, 0, 1, 1, 1] [n0] (F.pleachref43_Show.j11111110100111.st a0 x0 x1 x2)) a0 x0 x1 x2 x3 x4 x5 x6 x7 x8 x9 x10 from by intro H; kernel_rfl) (F.pleachref43_Show.at K))
noncomputable def F.pleachref43_Show.j11111110100111.B (c0 : (TCall) → (ByteArray) → (Int) → (List ByteArray) → Option (ByteArray)) (a0 : TCall) (x0 : ByteArray) (x1 : Int) (x2 : List ByteArray) : Option (ByteArray) :=
    (c0 a0 x0 (w64 (x1 + 1)) x2)
theorem F.pleachref43_Show.j11111110100111.eq K n0 a0 x0 x1 x2 : F.pleachref43_Show.j11111110100111 K n0 a0 x0 x1 x2 = F.pleachref43_Show.j11111110100111.B (F.pleachref43_Show.l1111111010 K n0) a0 x0 x1 x2 := (F.pleachref43_Show.in_eq K [1, 1, 1, 1, 1, 1, 1, 0, 1, 0, 0, 1, 1, 1] [n0] (F.pleachref43_Show.j11111110100111.st a0 x0 x1 x2)).trans ((show ∀ H, F.pleachref43_Show.in K H [1, 1, 1, 1, 1, 1, 1, 0, 1, 0, 0, 1, 1, 1] [n0] (F.pleachref43_Show.j11111110100111.st a0 x0 x1 x2) = F.pleachref43_Show.j11111110100111.B (fun a0 x0 x1 x2 => H [1, 1, 1, 1, 1, 1, 1, 0, 1, 0] [n0] (F.pleachref43_Show.l1111111010.st a0 x0 x1 x2)) a0 x0 x1 x2 from by intro H; kernel_rfl) (F.pleachref43_Show.at K))
noncomputable def F.pleachref43_Show.B (c0 : (TCall) → Option (Bool)) (c1 : Option ((List ByteArray))) (c2 : (Int) → Option (ByteArray)) (c3 : (TCall) → (ByteArray) → (ByteArray) → (Int) → Option (ByteArray)) (a0 : TCall) : Option (ByteArray) :=
    ((c0 (a0.1, a0.2.1, a0.2.2.1, a0.2.2.2.1, a0.2.2.2.2.1, a0.2.2.2.2.2.1, a0.2.2.2.2.2.2.1, a0.2.2.2.2.2.2.2)).bind fun t0 => (bif (!t0) then (some (⟨#[]⟩ : ByteArray)) else ((c1).bind fun t1 => (guardK (decide (0 ≤ (w64 (a0.1 - 1))) && decide ((w64 (a0.1 - 1)) < (t1.length : Int))) ((c2 a0.1).bind fun t2 => (c3 a0 (rd .str t1 ((w64 (a0.1 - 1)).toNat)) t2 0))))))
theorem F.pleachref43_Show.eq K a0 : F.pleachref43_Show (K + 1) a0 = F.pleachref43_Show.B (F.pleachref43_Is K) (F.pleachref43_words K) (F.pleachref43_form K) (F.pleachref43_Show.l11111010 K K) a0 := (F.pleachref43_Show.in_main K a0).trans ((show ∀ H, F.pleachref43_Show.in K H [] [] ⟨slots [.agg [.val (.int .i64 a0.1), .val (.string a0.2.1), .val (.string a0.2.2.1), .val (.string a0.2.2.2.1), .val (.string a0.2.2.2.2.1), .list sOp a0.2.2.2.2.2.1 false, .val (.string a0.2.2.2.2.2.2.1), .val (.string a0.2.2.2.2.2.2.2)]] 0, []⟩ = F.pleachref43_Show.B (F.pleachref43_Is K) (F.pleachref43_words K) (F.pleachref43_form K) (fun a0 x0 x1 x2 => H [1, 1, 1, 1, 1, 0, 1, 0] [K] (F.pleachref43_Show.l11111010.st a0 x0 x1 x2)) a0 from by intro H; kernel_rfl) (F.pleachref43_Show.at K))
noncomputable def V.pleachref43_Show.l11111010 (a0 : TCall) (x0 : ByteArray) (x1 : ByteArray) (x2 : Int) := lim fun v => F.pleachref43_Show.l11111010 (v 0) (v 1) a0 x0 x1 x2
noncomputable def V.pleachref43_Show.j11111010010011 (a0 : TCall) (x0 : ByteArray) (x1 : ByteArray) (x2 : Int) (x3 : ByteArray) := lim fun v => F.pleachref43_Show.j11111010010011 (v 0) (v 1) a0 x0 x1 x2 x3
noncomputable def V.pleachref43_Show.j11111010011 (a0 : TCall) (x0 : ByteArray) (x1 : ByteArray) (x2 : Int) := lim fun v => F.pleachref43_Show.j11111010011 (v 0) (v 1) a0 x0 x1 x2
noncomputable def V.pleachref43_Show.l1111111010 (a0 : TCall) (x0 : ByteArray) (x1 : Int) (x2 : List ByteArray) := lim fun v => F.pleachref43_Show.l1111111010 (v 0) (v 1) a0 x0 x1 x2
noncomputable def V.pleachref43_Show.j111111101001100111 (a0 : TCall) (x0 : ByteArray) (x1 : Int) (x2 : List ByteArray) (x3 : Int) (x4 : ByteArray) (x5 : ByteArray) (x6 : ByteArray) (x7 : ByteArray) (x8 : Int) (x9 : Int) (x10 : ByteArray) := lim fun v => F.pleachref43_Show.j111111101001100111 (v 0) (v 1) a0 x0 x1 x2 x3 x4 x5 x6 x7 x8 x9 x10
noncomputable def V.pleachref43_Show.j1111111010011001111 (a0 : TCall) (x0 : ByteArray) (x1 : Int) (x2 : List ByteArray) (x3 : Int) (x4 : ByteArray) (x5 : ByteArray) (x6 : ByteArray) (x7 : ByteArray) (x8 : Int) (x9 : Int) (x10 : ByteArray) := lim fun v => F.pleachref43_Show.j1111111010011001111 (v 0) (v 1) a0 x0 x1 x2 x3 x4 x5 x6 x7 x8 x9 x10
noncomputable def V.pleachref43_Show.j11111110100111 (a0 : TCall) (x0 : ByteArray) (x1 : Int) (x2 : List ByteArray) := lim fun v => F.pleachref43_Show.j11111110100111 (v 0) (v 1) a0 x0 x1 x2
noncomputable def V.pleachref43_Show (a0 : TCall) := lim fun v => F.pleachref43_Show (v 0) a0
theorem V.pleachref43_Show.l11111010.of a0 x0 x1 x2 {r} (h : F.pleachref43_Show.l11111010.B V.pleachref43_field V.pleachref43_Show.j11111010010011 V.pleachref43_signs V.pleachref43_Show.l1111111010 a0 x0 x1 x2 = some r) : V.pleachref43_Show.l11111010 a0 x0 x1 x2 = some r :=
  App.to (App.step 1 (fun v => F.pleachref43_Show.l11111010.eq (v 0) (v 1) a0 x0 x1 x2) (by unfold F.pleachref43_Show.l11111010.B; repeat' first | apply App.guard | apply App.cond | exact App.lim | exact (App.enter 1 App.lim) | exact App.val | exact App.no | apply App.meet | apply App.ite | refine App.bind ?_ fun _ => ?_)) h
theorem V.pleachref43_Show.j11111010010011.of a0 x0 x1 x2 x3 {r} (h : F.pleachref43_Show.j11111010010011.B V.pleachref43_Show.j11111010011 a0 x0 x1 x2 x3 = some r) : V.pleachref43_Show.j11111010010011 a0 x0 x1 x2 x3 = some r :=
  App.to (App.same (fun v => F.pleachref43_Show.j11111010010011.eq (v 0) (v 1) a0 x0 x1 x2 x3) (by unfold F.pleachref43_Show.j11111010010011.B; repeat' first | apply App.guard | apply App.cond | exact App.lim | exact App.val | exact App.no | apply App.meet | apply App.ite | refine App.bind ?_ fun _ => ?_)) h
theorem V.pleachref43_Show.j11111010011.of a0 x0 x1 x2 {r} (h : F.pleachref43_Show.j11111010011.B V.pleachref43_Show.l11111010 a0 x0 x1 x2 = some r) : V.pleachref43_Show.j11111010011 a0 x0 x1 x2 = some r :=
  App.to (App.same (fun v => F.pleachref43_Show.j11111010011.eq (v 0) (v 1) a0 x0 x1 x2) (by unfold F.pleachref43_Show.j11111010011.B; repeat' first | apply App.guard | apply App.cond | exact App.lim | exact App.val | exact App.no | apply App.meet | apply App.ite | refine App.bind ?_ fun _ => ?_)) h
theorem V.pleachref43_Show.l1111111010.of a0 x0 x1 x2 {r} (h : F.pleachref43_Show.l1111111010.B V.pleachref43_Show.j111111101001100111 a0 x0 x1 x2 = some r) : V.pleachref43_Show.l1111111010 a0 x0 x1 x2 = some r :=
  App.to (App.step 1 (fun v => F.pleachref43_Show.l1111111010.eq (v 0) (v 1) a0 x0 x1 x2) (by unfold F.pleachref43_Show.l1111111010.B; repeat' first | apply App.guard | apply App.cond | exact App.lim | exact App.val | exact App.no | apply App.meet | apply App.ite | refine App.bind ?_ fun _ => ?_)) h
theorem V.pleachref43_Show.j111111101001100111.of a0 x0 x1 x2 x3 x4 x5 x6 x7 x8 x9 x10 {r} (h : F.pleachref43_Show.j111111101001100111.B V.pleachref43_opForm V.pleachref43_has V.pleachref43_Show.j1111111010011001111 a0 x0 x1 x2 x3 x4 x5 x6 x7 x8 x9 x10 = some r) : V.pleachref43_Show.j111111101001100111 a0 x0 x1 x2 x3 x4 x5 x6 x7 x8 x9 x10 = some r :=
  App.to (App.same (fun v => F.pleachref43_Show.j111111101001100111.eq (v 0) (v 1) a0 x0 x1 x2 x3 x4 x5 x6 x7 x8 x9 x10) (by unfold F.pleachref43_Show.j111111101001100111.B; repeat' first | apply App.guard | apply App.cond | exact App.lim | exact App.val | exact App.no | apply App.meet | apply App.ite | refine App.bind ?_ fun _ => ?_)) h
theorem V.pleachref43_Show.j1111111010011001111.of a0 x0 x1 x2 x3 x4 x5 x6 x7 x8 x9 x10 {r} (h : F.pleachref43_Show.j1111111010011001111.B V.pleachref43_opForm V.pleachref43_has V.pleachref06_Show V.pleachref43_Show.j11111110100111 a0 x0 x1 x2 x3 x4 x5 x6 x7 x8 x9 x10 = some r) : V.pleachref43_Show.j1111111010011001111 a0 x0 x1 x2 x3 x4 x5 x6 x7 x8 x9 x10 = some r :=
  App.to (App.same (fun v => F.pleachref43_Show.j1111111010011001111.eq (v 0) (v 1) a0 x0 x1 x2 x3 x4 x5 x6 x7 x8 x9 x10) (by unfold F.pleachref43_Show.j1111111010011001111.B; repeat' first | apply App.guard | apply App.cond | exact App.lim | exact App.val | exact App.no | apply App.meet | apply App.ite | refine App.bind ?_ fun _ => ?_)) h
theorem V.pleachref43_Show.j11111110100111.of a0 x0 x1 x2 {r} (h : F.pleachref43_Show.j11111110100111.B V.pleachref43_Show.l1111111010 a0 x0 x1 x2 = some r) : V.pleachref43_Show.j11111110100111 a0 x0 x1 x2 = some r :=
  App.to (App.same (fun v => F.pleachref43_Show.j11111110100111.eq (v 0) (v 1) a0 x0 x1 x2) (by unfold F.pleachref43_Show.j11111110100111.B; repeat' first | apply App.guard | apply App.cond | exact App.lim | exact App.val | exact App.no | apply App.meet | apply App.ite | refine App.bind ?_ fun _ => ?_)) h
theorem V.pleachref43_Show.of a0 {r} (h : F.pleachref43_Show.B V.pleachref43_Is V.pleachref43_words V.pleachref43_form V.pleachref43_Show.l11111010 a0 = some r) : V.pleachref43_Show a0 = some r :=
  App.to (App.step 0 (fun v => F.pleachref43_Show.eq (v 0) a0) (by unfold F.pleachref43_Show.B; repeat' first | apply App.guard | apply App.cond | exact App.lim | exact (App.enter 1 App.lim) | exact App.val | exact App.no | apply App.meet | apply App.ite | refine App.bind ?_ fun _ => ?_)) h
noncomputable def F.pleachref43_split (K : Nat) (a0 : ByteArray) : Option ((List ByteArray)) := evFn Tryz.prog sg K 48 [.sc (.val (.string a0))] []
noncomputable def F.pleachref43_split.at (K : Nat) (p ns : List Nat) (s : St) : Option ((List ByteArray)) := atFn Tryz.prog sg K 48 0 p ns s
noncomputable def F.pleachref43_split.in (K : Nat) (H : List Nat → List Nat → St → Option ((List ByteArray))) (p ns : List Nat) (s : St) : Option ((List ByteArray)) := inFn Tryz.prog sg K 48 0 [] H p ns s
theorem F.pleachref43_split.in_eq K p ns s : F.pleachref43_split.at K p ns s = F.pleachref43_split.in K (F.pleachref43_split.at K) p ns s := atFn_eq (P := Tryz.prog) (sg := sg) (K := K) (f := 48) (m := 0) [] p ns s
theorem F.pleachref43_split.in_main K a0 : F.pleachref43_split (K + 1) a0 = F.pleachref43_split.in K (F.pleachref43_split.at K) [] [] ⟨slots [.sc (.val (.string a0))] 0, []⟩ := evFn_eq (P := Tryz.prog) (sg := sg) (K := K) (f := 48) (args := [.sc (.val (.string a0))]) (σ := []) [] (by kernel_rfl)
def F.pleachref43_split.l111010.st (a0 : ByteArray) (x0 : ByteArray) (x1 : Int) (x2 : List ByteArray) : St := ⟨[(0, vS a0), (3, .one (.sc (.own 0 none))), (4, vS x0), (5, vI x1)], [.elems .str x2]⟩
noncomputable def F.pleachref43_split.l111010 (K n0 : Nat) (a0 : ByteArray) (x0 : ByteArray) (x1 : Int) (x2 : List ByteArray) := F.pleachref43_split.at K [1, 1, 1, 0, 1, 0] [n0] (F.pleachref43_split.l111010.st a0 x0 x1 x2)
noncomputable def F.pleachref43_split.l111010.B (c0 : (ByteArray) → (ByteArray) → (Int) → (List ByteArray) → Option ((List ByteArray))) (a0 : ByteArray) (x0 : ByteArray) (x1 : Int) (x2 : List ByteArray) : Option ((List ByteArray)) :=
    (bif (decide (x1 < (a0.size : Int))) then (guardK (decide (0 ≤ x1) && decide (x1 < (a0.size : Int))) (bif ((byteAt a0 x1) == 32) then (guardK (decide (x2.length + ([x0]).length ≤ nmax)) (c0 a0 (⟨#[]⟩ : ByteArray) (w64 (x1 + 1)) (x2 ++ [x0]))) else (guardK (decide (0 ≤ x1) && decide (x1 ≤ (w64 (x1 + 1))) && decide ((w64 (x1 + 1)) ≤ (a0.size : Int))) (guardK (decide (x0.size + (a0.extract x1.toNat (w64 (x1 + 1)).toNat).size ≤ i64max)) (c0 a0 (x0 ++ (a0.extract x1.toNat (w64 (x1 + 1)).toNat)) (w64 (x1 + 1)) x2))))) else (guardK (decide (x2.length + ([x0]).length ≤ nmax)) (some (x2 ++ [x0]))))
theorem F.pleachref43_split.l111010.eq K n0 a0 x0 x1 x2 : F.pleachref43_split.l111010 K (n0 + 1) a0 x0 x1 x2 = F.pleachref43_split.l111010.B (F.pleachref43_split.l111010 K n0) a0 x0 x1 x2 := (F.pleachref43_split.in_eq K [1, 1, 1, 0, 1, 0] [n0 + 1] (F.pleachref43_split.l111010.st a0 x0 x1 x2)).trans ((show ∀ H, F.pleachref43_split.in K H [1, 1, 1, 0, 1, 0] [n0 + 1] (F.pleachref43_split.l111010.st a0 x0 x1 x2) = F.pleachref43_split.l111010.B (fun a0 x0 x1 x2 => H [1, 1, 1, 0, 1, 0] [n0] (F.pleachref43_split.l111010.st a0 x0 x1 x2)) a0 x0 x1 x2 from by intro H; kernel_rfl) (F.pleachref43_split.at K))
noncomputable def F.pleachref43_split.B (c0 : (ByteArray) → (ByteArray) → (Int) → (List ByteArray) → Option ((List ByteArray))) (a0 : ByteArray) : Option ((List ByteArray)) :=
    (c0 a0 (⟨#[]⟩ : ByteArray) 0 ([]))
theorem F.pleachref43_split.eq K a0 : F.pleachref43_split (K + 1) a0 = F.pleachref43_split.B (F.pleachref43_split.l111010 K K) a0 := (F.pleachref43_split.in_main K a0).trans ((show ∀ H, F.pleachref43_split.in K H [] [] ⟨slots [.sc (.val (.string a0))] 0, []⟩ = F.pleachref43_split.B (fun a0 x0 x1 x2 => H [1, 1, 1, 0, 1, 0] [K] (F.pleachref43_split.l111010.st a0 x0 x1 x2)) a0 from by intro H; kernel_rfl) (F.pleachref43_split.at K))
noncomputable def V.pleachref43_split.l111010 (a0 : ByteArray) (x0 : ByteArray) (x1 : Int) (x2 : List ByteArray) := lim fun v => F.pleachref43_split.l111010 (v 0) (v 1) a0 x0 x1 x2
noncomputable def V.pleachref43_split (a0 : ByteArray) := lim fun v => F.pleachref43_split (v 0) a0
theorem V.pleachref43_split.l111010.of a0 x0 x1 x2 {r} (h : F.pleachref43_split.l111010.B V.pleachref43_split.l111010 a0 x0 x1 x2 = some r) : V.pleachref43_split.l111010 a0 x0 x1 x2 = some r :=
  App.to (App.step 1 (fun v => F.pleachref43_split.l111010.eq (v 0) (v 1) a0 x0 x1 x2) (by unfold F.pleachref43_split.l111010.B; repeat' first | apply App.guard | apply App.cond | exact App.lim | exact App.val | exact App.no | apply App.meet | apply App.ite | refine App.bind ?_ fun _ => ?_)) h
theorem V.pleachref43_split.of a0 {r} (h : F.pleachref43_split.B V.pleachref43_split.l111010 a0 = some r) : V.pleachref43_split a0 = some r :=
  App.to (App.step 0 (fun v => F.pleachref43_split.eq (v 0) a0) (by unfold F.pleachref43_split.B; repeat' first | apply App.guard | apply App.cond | exact App.lim | exact (App.enter 1 App.lim) | exact App.val | exact App.no | apply App.meet | apply App.ite | refine App.bind ?_ fun _ => ?_)) h
noncomputable def F.pleachref43_place (K : Nat) (a0 : List ByteArray) (a1 : ByteArray) : Option (Int) := evFn Tryz.prog sg K 49 [.sc (.list .str a0 false), .sc (.val (.string a1))] []
noncomputable def F.pleachref43_place.at (K : Nat) (p ns : List Nat) (s : St) : Option (Int) := atFn Tryz.prog sg K 49 0 p ns s
noncomputable def F.pleachref43_place.in (K : Nat) (H : List Nat → List Nat → St → Option (Int)) (p ns : List Nat) (s : St) : Option (Int) := inFn Tryz.prog sg K 49 0 [] H p ns s
theorem F.pleachref43_place.in_eq K p ns s : F.pleachref43_place.at K p ns s = F.pleachref43_place.in K (F.pleachref43_place.at K) p ns s := atFn_eq (P := Tryz.prog) (sg := sg) (K := K) (f := 49) (m := 0) [] p ns s
theorem F.pleachref43_place.in_main K a0 a1 : F.pleachref43_place (K + 1) a0 a1 = F.pleachref43_place.in K (F.pleachref43_place.at K) [] [] ⟨slots [.sc (.list .str a0 false), .sc (.val (.string a1))] 0, []⟩ := evFn_eq (P := Tryz.prog) (sg := sg) (K := K) (f := 49) (args := [.sc (.list .str a0 false), .sc (.val (.string a1))]) (σ := []) [] (by kernel_rfl)
def F.pleachref43_place.l1010.st (a0 : List ByteArray) (a1 : ByteArray) (x0 : Int) : St := ⟨[(0, vL .str a0), (1, vS a1), (7, vI (a0.length : Int)), (8, vI x0)], []⟩
noncomputable def F.pleachref43_place.l1010 (K n0 : Nat) (a0 : List ByteArray) (a1 : ByteArray) (x0 : Int) := F.pleachref43_place.at K [1, 0, 1, 0] [n0] (F.pleachref43_place.l1010.st a0 a1 x0)
noncomputable def F.pleachref43_place.l1010.B (c0 : (List ByteArray) → (ByteArray) → (Int) → Option (Int)) (a0 : List ByteArray) (a1 : ByteArray) (x0 : Int) : Option (Int) :=
    (bif (decide (x0 < (a0.length : Int))) then (guardK (decide (0 ≤ x0) && decide (x0 < (a0.length : Int))) (bif (strEq (rd .str a0 x0.toNat) a1) then (some (w64 (x0 + 1))) else (c0 a0 a1 (w64 (x0 + 1))))) else (some 0))
theorem F.pleachref43_place.l1010.eq K n0 a0 a1 x0 : F.pleachref43_place.l1010 K (n0 + 1) a0 a1 x0 = F.pleachref43_place.l1010.B (F.pleachref43_place.l1010 K n0) a0 a1 x0 := (F.pleachref43_place.in_eq K [1, 0, 1, 0] [n0 + 1] (F.pleachref43_place.l1010.st a0 a1 x0)).trans ((show ∀ H, F.pleachref43_place.in K H [1, 0, 1, 0] [n0 + 1] (F.pleachref43_place.l1010.st a0 a1 x0) = F.pleachref43_place.l1010.B (fun a0 a1 x0 => H [1, 0, 1, 0] [n0] (F.pleachref43_place.l1010.st a0 a1 x0)) a0 a1 x0 from by intro H; kernel_rfl) (F.pleachref43_place.at K))
noncomputable def F.pleachref43_place.B (c0 : (List ByteArray) → (ByteArray) → (Int) → Option (Int)) (a0 : List ByteArray) (a1 : ByteArray) : Option (Int) :=
    (c0 a0 a1 0)
theorem F.pleachref43_place.eq K a0 a1 : F.pleachref43_place (K + 1) a0 a1 = F.pleachref43_place.B (F.pleachref43_place.l1010 K K) a0 a1 := (F.pleachref43_place.in_main K a0 a1).trans ((show ∀ H, F.pleachref43_place.in K H [] [] ⟨slots [.sc (.list .str a0 false), .sc (.val (.string a1))] 0, []⟩ = F.pleachref43_place.B (fun a0 a1 x0 => H [1, 0, 1, 0] [K] (F.pleachref43_place.l1010.st a0 a1 x0)) a0 a1 from by intro H; kernel_rfl) (F.pleachref43_place.at K))
noncomputable def V.pleachref43_place.l1010 (a0 : List ByteArray) (a1 : ByteArray) (x0 : Int) := lim fun v => F.pleachref43_place.l1010 (v 0) (v 1) a0 a1 x0
noncomputable def V.pleachref43_place (a0 : List ByteArray) (a1 : ByteArray) := lim fun v => F.pleachref43_place (v 0) a0 a1
theorem V.pleachref43_place.l1010.of a0 a1 x0 {r} (h : F.pleachref43_place.l1010.B V.pleachref43_place.l1010 a0 a1 x0 = some r) : V.pleachref43_place.l1010 a0 a1 x0 = some r :=
  App.to (App.step 1 (fun v => F.pleachref43_place.l1010.eq (v 0) (v 1) a0 a1 x0) (by unfold F.pleachref43_place.l1010.B; repeat' first | apply App.guard | apply App.cond | exact App.lim | exact App.val | exact App.no | apply App.meet | apply App.ite | refine App.bind ?_ fun _ => ?_)) h
theorem V.pleachref43_place.of a0 a1 {r} (h : F.pleachref43_place.B V.pleachref43_place.l1010 a0 a1 = some r) : V.pleachref43_place a0 a1 = some r :=
  App.to (App.step 0 (fun v => F.pleachref43_place.eq (v 0) a0 a1) (by unfold F.pleachref43_place.B; repeat' first | apply App.guard | apply App.cond | exact App.lim | exact (App.enter 1 App.lim) | exact App.val | exact App.no | apply App.meet | apply App.ite | refine App.bind ?_ fun _ => ?_)) h
noncomputable def F.pleachref43_put (K : Nat) (a0 : TCall) (a1 : Int) (a2 : ByteArray) : Option (TCall) := evFn Tryz.prog sg K 50 [.agg [.val (.int .i64 a0.1), .val (.string a0.2.1), .val (.string a0.2.2.1), .val (.string a0.2.2.2.1), .val (.string a0.2.2.2.2.1), .own 0 none, .val (.string a0.2.2.2.2.2.2.1), .val (.string a0.2.2.2.2.2.2.2)], .sc (.val (.int .u8 a1)), .sc (.val (.string a2))] [.elems sOp a0.2.2.2.2.2.1]
noncomputable def F.pleachref43_put.at (K : Nat) (p ns : List Nat) (s : St) : Option (TCall) := atFn Tryz.prog sg K 50 1 p ns s
noncomputable def F.pleachref43_put.in (K : Nat) (H : List Nat → List Nat → St → Option (TCall)) (p ns : List Nat) (s : St) : Option (TCall) := inFn Tryz.prog sg K 50 1 [[1, 0, 1], [1, 1], [1, 1, 0, 1, 0, 1, 1, 1], [1, 1, 1]] H p ns s
theorem F.pleachref43_put.in_eq K p ns s : F.pleachref43_put.at K p ns s = F.pleachref43_put.in K (F.pleachref43_put.at K) p ns s := atFn_eq (P := Tryz.prog) (sg := sg) (K := K) (f := 50) (m := 1) [[1, 0, 1], [1, 1], [1, 1, 0, 1, 0, 1, 1, 1], [1, 1, 1]] p ns s
theorem F.pleachref43_put.in_main K a0 a1 a2 : F.pleachref43_put (K + 1) a0 a1 a2 = F.pleachref43_put.in K (F.pleachref43_put.at K) [] [] ⟨slots [.agg [.val (.int .i64 a0.1), .val (.string a0.2.1), .val (.string a0.2.2.1), .val (.string a0.2.2.2.1), .val (.string a0.2.2.2.2.1), .own 0 none, .val (.string a0.2.2.2.2.2.2.1), .val (.string a0.2.2.2.2.2.2.2)], .sc (.val (.int .u8 a1)), .sc (.val (.string a2))] 0, [.elems sOp a0.2.2.2.2.2.1]⟩ := evFn_eq (P := Tryz.prog) (sg := sg) (K := K) (f := 50) (args := [.agg [.val (.int .i64 a0.1), .val (.string a0.2.1), .val (.string a0.2.2.1), .val (.string a0.2.2.2.1), .val (.string a0.2.2.2.2.1), .own 0 none, .val (.string a0.2.2.2.2.2.2.1), .val (.string a0.2.2.2.2.2.2.2)], .sc (.val (.int .u8 a1)), .sc (.val (.string a2))]) (σ := [.elems sOp a0.2.2.2.2.2.1]) [[1, 0, 1], [1, 1], [1, 1, 0, 1, 0, 1, 1, 1], [1, 1, 1]] (by kernel_rfl)
def F.pleachref43_put.j101.st (a0 : TCall) (a1 : Int) (a2 : ByteArray) (x0 : Bool) : St := ⟨[(1, .one (.sc (.val (.int .u8 a1)))), (2, vS a2), (3, .one (.sc (.ref 1 0))), (6, .one (.sc (.ref 2 0))), (16, vB x0)], [.elems sOp a0.2.2.2.2.2.1, .cells 24 [.val (.int .i64 a0.1), .val (.string a0.2.1), .val (.string a0.2.2.1), .val (.string a0.2.2.2.1), .val (.string a0.2.2.2.2.1), .own 0 none, .val (.string a0.2.2.2.2.2.2.1), .val (.string a0.2.2.2.2.2.2.2)], .cells 24 [.val (.int .i64 0), .val (.string (⟨#[]⟩ : ByteArray)), .val (.string (⟨#[]⟩ : ByteArray)), .val (.string (⟨#[]⟩ : ByteArray)), .val (.string (⟨#[]⟩ : ByteArray)), .val (.slice none 0 0), .val (.string (⟨#[]⟩ : ByteArray)), .val (.string (⟨#[]⟩ : ByteArray))]]⟩
noncomputable def F.pleachref43_put.j101 (K : Nat) (a0 : TCall) (a1 : Int) (a2 : ByteArray) (x0 : Bool) := F.pleachref43_put.at K [1, 0, 1] [] (F.pleachref43_put.j101.st a0 a1 a2 x0)
def F.pleachref43_put.j11.st (a0 : TCall) (a1 : Int) (a2 : ByteArray) (x0 : ByteArray) : St := ⟨[(1, .one (.sc (.val (.int .u8 a1)))), (2, vS x0), (3, .one (.sc (.ref 1 0))), (6, .one (.sc (.ref 2 0)))], [.elems sOp a0.2.2.2.2.2.1, .cells 24 [.val (.int .i64 a0.1), .val (.string a0.2.1), .val (.string a0.2.2.1), .val (.string a0.2.2.2.1), .val (.string a0.2.2.2.2.1), .own 0 none, .val (.string a0.2.2.2.2.2.2.1), .val (.string a0.2.2.2.2.2.2.2)], .cells 24 [.val (.int .i64 0), .val (.string (⟨#[]⟩ : ByteArray)), .val (.string (⟨#[]⟩ : ByteArray)), .val (.string (⟨#[]⟩ : ByteArray)), .val (.string (⟨#[]⟩ : ByteArray)), .val (.slice none 0 0), .val (.string (⟨#[]⟩ : ByteArray)), .val (.string (⟨#[]⟩ : ByteArray))]]⟩
noncomputable def F.pleachref43_put.j11 (K : Nat) (a0 : TCall) (a1 : Int) (a2 : ByteArray) (x0 : ByteArray) := F.pleachref43_put.at K [1, 1] [] (F.pleachref43_put.j11.st a0 a1 a2 x0)
def F.pleachref43_put.j11010111.st (a0 : TCall) (a1 : Int) (a2 : ByteArray) (x0 : ByteArray) (x1 : Bool) : St := ⟨[(2, vS x0), (3, .one (.sc (.ref 1 0))), (6, .one (.sc (.ref 2 0))), (17, .one (.sc (.val (.int .u8 a1)))), (24, vB x1)], [.elems sOp a0.2.2.2.2.2.1, .cells 24 [.val (.int .i64 a0.1), .val (.string a0.2.1), .val (.string a0.2.2.1), .val (.string a0.2.2.2.1), .val (.string a0.2.2.2.2.1), .own 0 none, .val (.string a0.2.2.2.2.2.2.1), .val (.string a0.2.2.2.2.2.2.2)], .cells 24 [.val (.int .i64 0), .val (.string (⟨#[]⟩ : ByteArray)), .val (.string (⟨#[]⟩ : ByteArray)), .val (.string (⟨#[]⟩ : ByteArray)), .val (.string (⟨#[]⟩ : ByteArray)), .val (.slice none 0 0), .val (.string (⟨#[]⟩ : ByteArray)), .val (.string (⟨#[]⟩ : ByteArray))]]⟩
noncomputable def F.pleachref43_put.j11010111 (K : Nat) (a0 : TCall) (a1 : Int) (a2 : ByteArray) (x0 : ByteArray) (x1 : Bool) := F.pleachref43_put.at K [1, 1, 0, 1, 0, 1, 1, 1] [] (F.pleachref43_put.j11010111.st a0 a1 a2 x0 x1)
def F.pleachref43_put.j111.st (a0 : TCall) (a1 : Int) (a2 : ByteArray) (x0 : ByteArray) (x1 : ByteArray) (x2 : ByteArray) (x3 : ByteArray) (x4 : ByteArray) (x5 : ByteArray) : St := ⟨[(3, .one (.sc (.ref 1 0))), (6, .one (.sc (.ref 2 0)))], [.elems sOp a0.2.2.2.2.2.1, .cells 24 [.val (.int .i64 a0.1), .val (.string x0), .val (.string x1), .val (.string x2), .val (.string x3), .own 0 none, .val (.string x4), .val (.string x5)], .cells 24 [.val (.int .i64 0), .val (.string (⟨#[]⟩ : ByteArray)), .val (.string (⟨#[]⟩ : ByteArray)), .val (.string (⟨#[]⟩ : ByteArray)), .val (.string (⟨#[]⟩ : ByteArray)), .val (.slice none 0 0), .val (.string (⟨#[]⟩ : ByteArray)), .val (.string (⟨#[]⟩ : ByteArray))]]⟩
noncomputable def F.pleachref43_put.j111 (K : Nat) (a0 : TCall) (a1 : Int) (a2 : ByteArray) (x0 : ByteArray) (x1 : ByteArray) (x2 : ByteArray) (x3 : ByteArray) (x4 : ByteArray) (x5 : ByteArray) := F.pleachref43_put.at K [1, 1, 1] [] (F.pleachref43_put.j111.st a0 a1 a2 x0 x1 x2 x3 x4 x5)
noncomputable def F.pleachref43_put.j101.B (c0 : (TCall) → (Int) → (ByteArray) → (ByteArray) → Option (TCall)) (a0 : TCall) (a1 : Int) (a2 : ByteArray) (x0 : Bool) : Option (TCall) :=
    (bif x0 then (c0 a0 a1 a2 (⟨#[]⟩ : ByteArray)) else (c0 a0 a1 a2 a2))
theorem F.pleachref43_put.j101.eq K a0 a1 a2 x0 : F.pleachref43_put.j101 K a0 a1 a2 x0 = F.pleachref43_put.j101.B (F.pleachref43_put.j11 K) a0 a1 a2 x0 := (F.pleachref43_put.in_eq K [1, 0, 1] [] (F.pleachref43_put.j101.st a0 a1 a2 x0)).trans ((show ∀ H, F.pleachref43_put.in K H [1, 0, 1] [] (F.pleachref43_put.j101.st a0 a1 a2 x0) = F.pleachref43_put.j101.B (fun a0 a1 a2 x0 => H [1, 1] [] (F.pleachref43_put.j11.st a0 a1 a2 x0)) a0 a1 a2 x0 from by intro H; kernel_rfl) (F.pleachref43_put.at K))
noncomputable def F.pleachref43_put.j11.B (c0 : (TCall) → (Int) → (ByteArray) → (ByteArray) → (ByteArray) → (ByteArray) → (ByteArray) → (ByteArray) → (ByteArray) → Option (TCall)) (c1 : (TCall) → (Int) → (ByteArray) → (ByteArray) → (Bool) → Option (TCall)) (a0 : TCall) (a1 : Int) (a2 : ByteArray) (x0 : ByteArray) : Option (TCall) :=
    (bif (a1 == 110) then (c0 a0 a1 a2 x0 a0.2.2.1 a0.2.2.2.1 a0.2.2.2.2.1 a0.2.2.2.2.2.2.1 a0.2.2.2.2.2.2.2) else (bif (a1 == 111) then (c1 a0 a1 a2 x0 (a1 == 111)) else (c1 a0 a1 a2 x0 (a1 == 79))))
theorem F.pleachref43_put.j11.eq K a0 a1 a2 x0 : F.pleachref43_put.j11 K a0 a1 a2 x0 = F.pleachref43_put.j11.B (F.pleachref43_put.j111 K) (F.pleachref43_put.j11010111 K) a0 a1 a2 x0 := (F.pleachref43_put.in_eq K [1, 1] [] (F.pleachref43_put.j11.st a0 a1 a2 x0)).trans ((show ∀ H, F.pleachref43_put.in K H [1, 1] [] (F.pleachref43_put.j11.st a0 a1 a2 x0) = F.pleachref43_put.j11.B (fun a0 a1 a2 x0 x1 x2 x3 x4 x5 => H [1, 1, 1] [] (F.pleachref43_put.j111.st a0 a1 a2 x0 x1 x2 x3 x4 x5)) (fun a0 a1 a2 x0 x1 => H [1, 1, 0, 1, 0, 1, 1, 1] [] (F.pleachref43_put.j11010111.st a0 a1 a2 x0 x1)) a0 a1 a2 x0 from by intro H; kernel_rfl) (F.pleachref43_put.at K))
noncomputable def F.pleachref43_put.j11010111.B (c0 : (TCall) → (Int) → (ByteArray) → (ByteArray) → (ByteArray) → (ByteArray) → (ByteArray) → (ByteArray) → (ByteArray) → Option (TCall)) (a0 : TCall) (a1 : Int) (a2 : ByteArray) (x0 : ByteArray) (x1 : Bool) : Option (TCall) :=
    (bif x1 then (c0 a0 a1 a2 a0.2.1 x0 a0.2.2.2.1 a0.2.2.2.2.1 a0.2.2.2.2.2.2.1 a0.2.2.2.2.2.2.2) else (bif (a1 == 104) then (c0 a0 a1 a2 a0.2.1 a0.2.2.1 x0 a0.2.2.2.2.1 a0.2.2.2.2.2.2.1 a0.2.2.2.2.2.2.2) else (bif (a1 == 120) then (c0 a0 a1 a2 a0.2.1 a0.2.2.1 a0.2.2.2.1 x0 a0.2.2.2.2.2.2.1 a0.2.2.2.2.2.2.2) else (bif (a1 == 105) then (c0 a0 a1 a2 a0.2.1 a0.2.2.1 a0.2.2.2.1 a0.2.2.2.2.1 a0.2.2.2.2.2.2.1 x0) else (c0 a0 a1 a2 a0.2.1 a0.2.2.1 a0.2.2.2.1 a0.2.2.2.2.1 x0 a0.2.2.2.2.2.2.2)))))
theorem F.pleachref43_put.j11010111.eq K a0 a1 a2 x0 x1 : F.pleachref43_put.j11010111 K a0 a1 a2 x0 x1 = F.pleachref43_put.j11010111.B (F.pleachref43_put.j111 K) a0 a1 a2 x0 x1 := (F.pleachref43_put.in_eq K [1, 1, 0, 1, 0, 1, 1, 1] [] (F.pleachref43_put.j11010111.st a0 a1 a2 x0 x1)).trans ((show ∀ H, F.pleachref43_put.in K H [1, 1, 0, 1, 0, 1, 1, 1] [] (F.pleachref43_put.j11010111.st a0 a1 a2 x0 x1) = F.pleachref43_put.j11010111.B (fun a0 a1 a2 x0 x1 x2 x3 x4 x5 => H [1, 1, 1] [] (F.pleachref43_put.j111.st a0 a1 a2 x0 x1 x2 x3 x4 x5)) a0 a1 a2 x0 x1 from by intro H; kernel_rfl) (F.pleachref43_put.at K))
noncomputable def F.pleachref43_put.j111.B (a0 : TCall) (a1 : Int) (a2 : ByteArray) (x0 : ByteArray) (x1 : ByteArray) (x2 : ByteArray) (x3 : ByteArray) (x4 : ByteArray) (x5 : ByteArray) : Option (TCall) :=
    (some (a0.1, x0, x1, x2, x3, a0.2.2.2.2.2.1, x4, x5))
theorem F.pleachref43_put.j111.eq K a0 a1 a2 x0 x1 x2 x3 x4 x5 : F.pleachref43_put.j111 K a0 a1 a2 x0 x1 x2 x3 x4 x5 = F.pleachref43_put.j111.B a0 a1 a2 x0 x1 x2 x3 x4 x5 := (F.pleachref43_put.in_eq K [1, 1, 1] [] (F.pleachref43_put.j111.st a0 a1 a2 x0 x1 x2 x3 x4 x5)).trans ((show ∀ H, F.pleachref43_put.in K H [1, 1, 1] [] (F.pleachref43_put.j111.st a0 a1 a2 x0 x1 x2 x3 x4 x5) = F.pleachref43_put.j111.B a0 a1 a2 x0 x1 x2 x3 x4 x5 from by intro H; kernel_rfl) (F.pleachref43_put.at K))
noncomputable def F.pleachref43_put.B (c0 : (TCall) → (Int) → (ByteArray) → (Bool) → Option (TCall)) (a0 : TCall) (a1 : Int) (a2 : ByteArray) : Option (TCall) :=
    (bif (strEq a2 (⟨#[45]⟩ : ByteArray)) then (bif (a1 == 79) then (c0 a0 a1 a2 true) else (c0 a0 a1 a2 (a1 == 116))) else (c0 a0 a1 a2 false))
theorem F.pleachref43_put.eq K a0 a1 a2 : F.pleachref43_put (K + 1) a0 a1 a2 = F.pleachref43_put.B (F.pleachref43_put.j101 K) a0 a1 a2 := (F.pleachref43_put.in_main K a0 a1 a2).trans ((show ∀ H, F.pleachref43_put.in K H [] [] ⟨slots [.agg [.val (.int .i64 a0.1), .val (.string a0.2.1), .val (.string a0.2.2.1), .val (.string a0.2.2.2.1), .val (.string a0.2.2.2.2.1), .own 0 none, .val (.string a0.2.2.2.2.2.2.1), .val (.string a0.2.2.2.2.2.2.2)], .sc (.val (.int .u8 a1)), .sc (.val (.string a2))] 0, [.elems sOp a0.2.2.2.2.2.1]⟩ = F.pleachref43_put.B (fun a0 a1 a2 x0 => H [1, 0, 1] [] (F.pleachref43_put.j101.st a0 a1 a2 x0)) a0 a1 a2 from by intro H; kernel_rfl) (F.pleachref43_put.at K))
noncomputable def V.pleachref43_put.j101 (a0 : TCall) (a1 : Int) (a2 : ByteArray) (x0 : Bool) := lim fun v => F.pleachref43_put.j101 (v 0) a0 a1 a2 x0
noncomputable def V.pleachref43_put.j11 (a0 : TCall) (a1 : Int) (a2 : ByteArray) (x0 : ByteArray) := lim fun v => F.pleachref43_put.j11 (v 0) a0 a1 a2 x0
noncomputable def V.pleachref43_put.j11010111 (a0 : TCall) (a1 : Int) (a2 : ByteArray) (x0 : ByteArray) (x1 : Bool) := lim fun v => F.pleachref43_put.j11010111 (v 0) a0 a1 a2 x0 x1
noncomputable def V.pleachref43_put.j111 (a0 : TCall) (a1 : Int) (a2 : ByteArray) (x0 : ByteArray) (x1 : ByteArray) (x2 : ByteArray) (x3 : ByteArray) (x4 : ByteArray) (x5 : ByteArray) := lim fun v => F.pleachref43_put.j111 (v 0) a0 a1 a2 x0 x1 x2 x3 x4 x5
noncomputable def V.pleachref43_put (a0 : TCall) (a1 : Int) (a2 : ByteArray) := lim fun v => F.pleachref43_put (v 0) a0 a1 a2
theorem V.pleachref43_put.j101.of a0 a1 a2 x0 {r} (h : F.pleachref43_put.j101.B V.pleachref43_put.j11 a0 a1 a2 x0 = some r) : V.pleachref43_put.j101 a0 a1 a2 x0 = some r :=
  App.to (App.same (fun v => F.pleachref43_put.j101.eq (v 0) a0 a1 a2 x0) (by unfold F.pleachref43_put.j101.B; repeat' first | apply App.guard | apply App.cond | exact App.lim | exact App.val | exact App.no | apply App.meet | apply App.ite | refine App.bind ?_ fun _ => ?_)) h
theorem V.pleachref43_put.j11.of a0 a1 a2 x0 {r} (h : F.pleachref43_put.j11.B V.pleachref43_put.j111 V.pleachref43_put.j11010111 a0 a1 a2 x0 = some r) : V.pleachref43_put.j11 a0 a1 a2 x0 = some r :=
  App.to (App.same (fun v => F.pleachref43_put.j11.eq (v 0) a0 a1 a2 x0) (by unfold F.pleachref43_put.j11.B; repeat' first | apply App.guard | apply App.cond | exact App.lim | exact App.val | exact App.no | apply App.meet | apply App.ite | refine App.bind ?_ fun _ => ?_)) h
theorem V.pleachref43_put.j11010111.of a0 a1 a2 x0 x1 {r} (h : F.pleachref43_put.j11010111.B V.pleachref43_put.j111 a0 a1 a2 x0 x1 = some r) : V.pleachref43_put.j11010111 a0 a1 a2 x0 x1 = some r :=
  App.to (App.same (fun v => F.pleachref43_put.j11010111.eq (v 0) a0 a1 a2 x0 x1) (by unfold F.pleachref43_put.j11010111.B; repeat' first | apply App.guard | apply App.cond | exact App.lim | exact App.val | exact App.no | apply App.meet | apply App.ite | refine App.bind ?_ fun _ => ?_)) h
theorem V.pleachref43_put.j111.of a0 a1 a2 x0 x1 x2 x3 x4 x5 {r} (h : F.pleachref43_put.j111.B a0 a1 a2 x0 x1 x2 x3 x4 x5 = some r) : V.pleachref43_put.j111 a0 a1 a2 x0 x1 x2 x3 x4 x5 = some r :=
  App.to (App.same (fun v => F.pleachref43_put.j111.eq (v 0) a0 a1 a2 x0 x1 x2 x3 x4 x5) App.const) h
theorem V.pleachref43_put.of a0 a1 a2 {r} (h : F.pleachref43_put.B V.pleachref43_put.j101 a0 a1 a2 = some r) : V.pleachref43_put a0 a1 a2 = some r :=
  App.to (App.step 0 (fun v => F.pleachref43_put.eq (v 0) a0 a1 a2) (by unfold F.pleachref43_put.B; repeat' first | apply App.guard | apply App.cond | exact App.lim | exact App.val | exact App.no | apply App.meet | apply App.ite | refine App.bind ?_ fun _ => ?_)) h
noncomputable def F.pleachref43_opPut (K : Nat) (a0 : TOp) (a1 : Int) (a2 : ByteArray) : Option (TOp) := evFn Tryz.prog sg K 51 [.agg [.val (.int .i64 a0.1), .val (.string a0.2.1), .val (.string a0.2.2.1), .val (.string a0.2.2.2.1), .val (.string a0.2.2.2.2.1), .val (.int .i64 a0.2.2.2.2.2.1), .val (.int .i64 a0.2.2.2.2.2.2.1), .val (.string a0.2.2.2.2.2.2.2)], .sc (.val (.int .u8 a1)), .sc (.val (.string a2))] []
noncomputable def F.pleachref43_opPut.B (c0 : (ByteArray) → Option (TValue × Bool)) (a0 : TOp) (a1 : Int) (a2 : ByteArray) : Option (TOp) :=
    (bif (a1 == 100) then (some (a0.1, a2, a0.2.2.1, a0.2.2.2.1, a0.2.2.2.2.1, a0.2.2.2.2.2.1, a0.2.2.2.2.2.2.1, a0.2.2.2.2.2.2.2)) else (bif (a1 == 102) then (some (a0.1, a0.2.1, a2, a0.2.2.2.1, a0.2.2.2.2.1, a0.2.2.2.2.2.1, a0.2.2.2.2.2.2.1, a0.2.2.2.2.2.2.2)) else (bif (a1 == 116) then (some (a0.1, a0.2.1, a0.2.2.1, a2, a0.2.2.2.2.1, a0.2.2.2.2.2.1, a0.2.2.2.2.2.2.1, a0.2.2.2.2.2.2.2)) else (bif (a1 == 107) then (some (a0.1, a0.2.1, a0.2.2.1, a0.2.2.2.1, a2, a0.2.2.2.2.2.1, a0.2.2.2.2.2.2.1, a0.2.2.2.2.2.2.2)) else ((c0 a2).bind fun t0 => (some (a0.1, a0.2.1, a0.2.2.1, a0.2.2.2.1, a0.2.2.2.2.1, t0.1.1, t0.1.2.1, t0.1.2.2)))))))
theorem F.pleachref43_opPut.eq K a0 a1 a2 : F.pleachref43_opPut (K + 1) a0 a1 a2 = F.pleachref43_opPut.B (F.pleachref06_Parse K) a0 a1 a2 := by kernel_rfl
noncomputable def V.pleachref43_opPut (a0 : TOp) (a1 : Int) (a2 : ByteArray) := lim fun v => F.pleachref43_opPut (v 0) a0 a1 a2
theorem V.pleachref43_opPut.of a0 a1 a2 {r} (h : F.pleachref43_opPut.B V.pleachref06_Parse a0 a1 a2 = some r) : V.pleachref43_opPut a0 a1 a2 = some r :=
  App.to (App.step 0 (fun v => F.pleachref43_opPut.eq (v 0) a0 a1 a2) (by unfold F.pleachref43_opPut.B; repeat' first | apply App.guard | apply App.cond | exact App.lim | exact App.val | exact App.no | apply App.meet | apply App.ite | refine App.bind ?_ fun _ => ?_)) h
noncomputable def F.pleachref43_Parse (K : Nat) (a0 : ByteArray) : Option (TCall × Bool) := evFn Tryz.prog sg K 14 [.sc (.val (.string a0))] []
noncomputable def F.pleachref43_Parse.at (K : Nat) (p ns : List Nat) (s : St) : Option (TCall × Bool) := atFn Tryz.prog sg K 14 0 p ns s
noncomputable def F.pleachref43_Parse.in (K : Nat) (H : List Nat → List Nat → St → Option (TCall × Bool)) (p ns : List Nat) (s : St) : Option (TCall × Bool) := inFn Tryz.prog sg K 14 0 [[1, 1, 1], [1, 1, 1, 1, 0, 1], [1, 1, 1, 1, 1], [1, 1, 1, 1, 1, 1, 1, 0, 0, 0, 1, 0, 1], [1, 1, 1, 1, 1, 1, 1, 0, 0, 0, 1, 0, 1, 1, 0, 1], [1, 1, 1, 1, 1, 1, 1, 0, 0, 0, 1, 0, 1, 1, 1]] H p ns s
theorem F.pleachref43_Parse.in_eq K p ns s : F.pleachref43_Parse.at K p ns s = F.pleachref43_Parse.in K (F.pleachref43_Parse.at K) p ns s := atFn_eq (P := Tryz.prog) (sg := sg) (K := K) (f := 14) (m := 0) [[1, 1, 1], [1, 1, 1, 1, 0, 1], [1, 1, 1, 1, 1], [1, 1, 1, 1, 1, 1, 1, 0, 0, 0, 1, 0, 1], [1, 1, 1, 1, 1, 1, 1, 0, 0, 0, 1, 0, 1, 1, 0, 1], [1, 1, 1, 1, 1, 1, 1, 0, 0, 0, 1, 0, 1, 1, 1]] p ns s
theorem F.pleachref43_Parse.in_main K a0 : F.pleachref43_Parse (K + 1) a0 = F.pleachref43_Parse.in K (F.pleachref43_Parse.at K) [] [] ⟨slots [.sc (.val (.string a0))] 0, []⟩ := evFn_eq (P := Tryz.prog) (sg := sg) (K := K) (f := 14) (args := [.sc (.val (.string a0))]) (σ := []) [[1, 1, 1], [1, 1, 1, 1, 0, 1], [1, 1, 1, 1, 1], [1, 1, 1, 1, 1, 1, 1, 0, 0, 0, 1, 0, 1], [1, 1, 1, 1, 1, 1, 1, 0, 0, 0, 1, 0, 1, 1, 0, 1], [1, 1, 1, 1, 1, 1, 1, 0, 0, 0, 1, 0, 1, 1, 1]] (by kernel_rfl)
def F.pleachref43_Parse.j111.st (a0 : ByteArray) (x0 : List ByteArray) (x1 : Int) : St := ⟨[(0, vS a0), (2, .one (.sc (.ref 0 0))), (4, .one (.sc (.own 1 none))), (5, .one (.sc (.ref 2 0)))], [.cells 24 [.val (.int .i64 0), .val (.string (⟨#[]⟩ : ByteArray)), .val (.string (⟨#[]⟩ : ByteArray)), .val (.string (⟨#[]⟩ : ByteArray)), .val (.string (⟨#[]⟩ : ByteArray)), .own 3 none, .val (.string (⟨#[]⟩ : ByteArray)), .val (.string (⟨#[]⟩ : ByteArray))], .elems .str x0, .cells 24 [.val (.int .i64 x1), .val (.string (⟨#[]⟩ : ByteArray)), .val (.string (⟨#[]⟩ : ByteArray)), .val (.string (⟨#[]⟩ : ByteArray)), .val (.string (⟨#[]⟩ : ByteArray)), .own 4 none, .val (.string (⟨#[]⟩ : ByteArray)), .val (.string (⟨#[]⟩ : ByteArray))], .elems sOp ([]), .elems sOp ([])]⟩
noncomputable def F.pleachref43_Parse.j111 (K : Nat) (a0 : ByteArray) (x0 : List ByteArray) (x1 : Int) := F.pleachref43_Parse.at K [1, 1, 1] [] (F.pleachref43_Parse.j111.st a0 x0 x1)
def F.pleachref43_Parse.j111101.st (a0 : ByteArray) (x0 : ByteArray) (x1 : Bool) (x2 : List ByteArray) (x3 : Int) : St := ⟨[(0, vS a0), (2, .one (.sc (.ref 0 0))), (4, .one (.sc (.own 1 none))), (5, .one (.sc (.ref 2 0))), (6, vS x0), (32, vB x1)], [.cells 24 [.val (.int .i64 0), .val (.string (⟨#[]⟩ : ByteArray)), .val (.string (⟨#[]⟩ : ByteArray)), .val (.string (⟨#[]⟩ : ByteArray)), .val (.string (⟨#[]⟩ : ByteArray)), .own 3 none, .val (.string (⟨#[]⟩ : ByteArray)), .val (.string (⟨#[]⟩ : ByteArray))], .elems .str x2, .cells 24 [.val (.int .i64 x3), .val (.string (⟨#[]⟩ : ByteArray)), .val (.string (⟨#[]⟩ : ByteArray)), .val (.string (⟨#[]⟩ : ByteArray)), .val (.string (⟨#[]⟩ : ByteArray)), .own 4 none, .val (.string (⟨#[]⟩ : ByteArray)), .val (.string (⟨#[]⟩ : ByteArray))], .elems sOp ([]), .elems sOp ([])]⟩
noncomputable def F.pleachref43_Parse.j111101 (K : Nat) (a0 : ByteArray) (x0 : ByteArray) (x1 : Bool) (x2 : List ByteArray) (x3 : Int) := F.pleachref43_Parse.at K [1, 1, 1, 1, 0, 1] [] (F.pleachref43_Parse.j111101.st a0 x0 x1 x2 x3)
def F.pleachref43_Parse.j11111.st (a0 : ByteArray) (x0 : ByteArray) (x1 : List ByteArray) (x2 : Int) : St := ⟨[(0, vS a0), (2, .one (.sc (.ref 0 0))), (4, .one (.sc (.own 1 none))), (5, .one (.sc (.ref 2 0))), (6, vS x0)], [.cells 24 [.val (.int .i64 0), .val (.string (⟨#[]⟩ : ByteArray)), .val (.string (⟨#[]⟩ : ByteArray)), .val (.string (⟨#[]⟩ : ByteArray)), .val (.string (⟨#[]⟩ : ByteArray)), .own 3 none, .val (.string (⟨#[]⟩ : ByteArray)), .val (.string (⟨#[]⟩ : ByteArray))], .elems .str x1, .cells 24 [.val (.int .i64 x2), .val (.string (⟨#[]⟩ : ByteArray)), .val (.string (⟨#[]⟩ : ByteArray)), .val (.string (⟨#[]⟩ : ByteArray)), .val (.string (⟨#[]⟩ : ByteArray)), .own 4 none, .val (.string (⟨#[]⟩ : ByteArray)), .val (.string (⟨#[]⟩ : ByteArray))], .elems sOp ([]), .elems sOp ([])]⟩
noncomputable def F.pleachref43_Parse.j11111 (K : Nat) (a0 : ByteArray) (x0 : ByteArray) (x1 : List ByteArray) (x2 : Int) := F.pleachref43_Parse.at K [1, 1, 1, 1, 1] [] (F.pleachref43_Parse.j11111.st a0 x0 x1 x2)
def F.pleachref43_Parse.l11111010.st (a0 : ByteArray) (x0 : ByteArray) (x1 : Int) (x2 : List ByteArray) (x3 : Int) (x4 : ByteArray) (x5 : ByteArray) (x6 : ByteArray) (x7 : ByteArray) (x8 : ByteArray) (x9 : ByteArray) (x10 : List TOp) : St := ⟨[(0, vS a0), (2, .one (.sc (.ref 0 0))), (4, .one (.sc (.own 1 none))), (5, .one (.sc (.ref 2 0))), (6, vS x0), (7, vI x1)], [.cells 24 [.val (.int .i64 0), .val (.string (⟨#[]⟩ : ByteArray)), .val (.string (⟨#[]⟩ : ByteArray)), .val (.string (⟨#[]⟩ : ByteArray)), .val (.string (⟨#[]⟩ : ByteArray)), .own 3 none, .val (.string (⟨#[]⟩ : ByteArray)), .val (.string (⟨#[]⟩ : ByteArray))], .elems .str x2, .cells 24 [.val (.int .i64 x3), .val (.string x4), .val (.string x5), .val (.string x6), .val (.string x7), .own 4 none, .val (.string x8), .val (.string x9)], .elems sOp ([]), .elems sOp x10]⟩
noncomputable def F.pleachref43_Parse.l11111010 (K n0 : Nat) (a0 : ByteArray) (x0 : ByteArray) (x1 : Int) (x2 : List ByteArray) (x3 : Int) (x4 : ByteArray) (x5 : ByteArray) (x6 : ByteArray) (x7 : ByteArray) (x8 : ByteArray) (x9 : ByteArray) (x10 : List TOp) := F.pleachref43_Parse.at K [1, 1, 1, 1, 1, 0, 1, 0] [n0] (F.pleachref43_Parse.l11111010.st a0 x0 x1 x2 x3 x4 x5 x6 x7 x8 x9 x10)
def F.pleachref43_Parse.l111111100.st (a0 : ByteArray) (x0 : Int) (x1 : List ByteArray) (x2 : Int) (x3 : ByteArray) (x4 : ByteArray) (x5 : ByteArray) (x6 : ByteArray) (x7 : ByteArray) (x8 : ByteArray) (x9 : List TOp) : St := ⟨[(0, vS a0), (2, .one (.sc (.ref 0 0))), (4, .one (.sc (.own 1 none))), (5, .one (.sc (.ref 2 0))), (8, vI x0)], [.cells 24 [.val (.int .i64 0), .val (.string (⟨#[]⟩ : ByteArray)), .val (.string (⟨#[]⟩ : ByteArray)), .val (.string (⟨#[]⟩ : ByteArray)), .val (.string (⟨#[]⟩ : ByteArray)), .own 3 none, .val (.string (⟨#[]⟩ : ByteArray)), .val (.string (⟨#[]⟩ : ByteArray))], .elems .str x1, .cells 24 [.val (.int .i64 x2), .val (.string x3), .val (.string x4), .val (.string x5), .val (.string x6), .own 4 none, .val (.string x7), .val (.string x8)], .elems sOp ([]), .elems sOp x9]⟩
noncomputable def F.pleachref43_Parse.l111111100 (K n0 : Nat) (a0 : ByteArray) (x0 : Int) (x1 : List ByteArray) (x2 : Int) (x3 : ByteArray) (x4 : ByteArray) (x5 : ByteArray) (x6 : ByteArray) (x7 : ByteArray) (x8 : ByteArray) (x9 : List TOp) := F.pleachref43_Parse.at K [1, 1, 1, 1, 1, 1, 1, 0, 0] [n0] (F.pleachref43_Parse.l111111100.st a0 x0 x1 x2 x3 x4 x5 x6 x7 x8 x9)
def F.pleachref43_Parse.j1111111000101.st (a0 : ByteArray) (x0 : Int) (x1 : List ByteArray) (x2 : Int) (x3 : ByteArray) (x4 : ByteArray) (x5 : ByteArray) (x6 : ByteArray) (x7 : ByteArray) (x8 : ByteArray) (x9 : Int) (x10 : List TOp) : St := ⟨[(0, vS a0), (2, .one (.sc (.ref 0 0))), (4, .one (.sc (.own 1 none))), (5, .one (.sc (.ref 2 0))), (8, vI x0), (9, .one (.sc (.ref 3 0)))], [.cells 24 [.val (.int .i64 0), .val (.string (⟨#[]⟩ : ByteArray)), .val (.string (⟨#[]⟩ : ByteArray)), .val (.string (⟨#[]⟩ : ByteArray)), .val (.string (⟨#[]⟩ : ByteArray)), .own 4 none, .val (.string (⟨#[]⟩ : ByteArray)), .val (.string (⟨#[]⟩ : ByteArray))], .elems .str x1, .cells 24 [.val (.int .i64 x2), .val (.string x3), .val (.string x4), .val (.string x5), .val (.string x6), .own 5 none, .val (.string x7), .val (.string x8)], .cells 55 [.val (.int .i64 x9), .val (.string (⟨#[]⟩ : ByteArray)), .val (.string (⟨#[]⟩ : ByteArray)), .val (.string (⟨#[]⟩ : ByteArray)), .val (.string (⟨#[]⟩ : ByteArray)), .val (.int .i64 0), .val (.int .i64 0), .val (.string (⟨#[]⟩ : ByteArray))], .elems sOp ([]), .elems sOp x10]⟩
noncomputable def F.pleachref43_Parse.j1111111000101 (K n0 : Nat) (a0 : ByteArray) (x0 : Int) (x1 : List ByteArray) (x2 : Int) (x3 : ByteArray) (x4 : ByteArray) (x5 : ByteArray) (x6 : ByteArray) (x7 : ByteArray) (x8 : ByteArray) (x9 : Int) (x10 : List TOp) := F.pleachref43_Parse.at K [1, 1, 1, 1, 1, 1, 1, 0, 0, 0, 1, 0, 1] [n0] (F.pleachref43_Parse.j1111111000101.st a0 x0 x1 x2 x3 x4 x5 x6 x7 x8 x9 x10)
def F.pleachref43_Parse.j1111111000101101.st (a0 : ByteArray) (x0 : Int) (x1 : ByteArray) (x2 : Bool) (x3 : List ByteArray) (x4 : Int) (x5 : ByteArray) (x6 : ByteArray) (x7 : ByteArray) (x8 : ByteArray) (x9 : ByteArray) (x10 : ByteArray) (x11 : Int) (x12 : List TOp) : St := ⟨[(0, vS a0), (2, .one (.sc (.ref 0 0))), (4, .one (.sc (.own 1 none))), (5, .one (.sc (.ref 2 0))), (8, vI x0), (9, .one (.sc (.ref 3 0))), (10, vS x1), (87, vB x2)], [.cells 24 [.val (.int .i64 0), .val (.string (⟨#[]⟩ : ByteArray)), .val (.string (⟨#[]⟩ : ByteArray)), .val (.string (⟨#[]⟩ : ByteArray)), .val (.string (⟨#[]⟩ : ByteArray)), .own 4 none, .val (.string (⟨#[]⟩ : ByteArray)), .val (.string (⟨#[]⟩ : ByteArray))], .elems .str x3, .cells 24 [.val (.int .i64 x4), .val (.string x5), .val (.string x6), .val (.string x7), .val (.string x8), .own 5 none, .val (.string x9), .val (.string x10)], .cells 55 [.val (.int .i64 x11), .val (.string (⟨#[]⟩ : ByteArray)), .val (.string (⟨#[]⟩ : ByteArray)), .val (.string (⟨#[]⟩ : ByteArray)), .val (.string (⟨#[]⟩ : ByteArray)), .val (.int .i64 0), .val (.int .i64 0), .val (.string (⟨#[]⟩ : ByteArray))], .elems sOp ([]), .elems sOp x12]⟩
noncomputable def F.pleachref43_Parse.j1111111000101101 (K n0 : Nat) (a0 : ByteArray) (x0 : Int) (x1 : ByteArray) (x2 : Bool) (x3 : List ByteArray) (x4 : Int) (x5 : ByteArray) (x6 : ByteArray) (x7 : ByteArray) (x8 : ByteArray) (x9 : ByteArray) (x10 : ByteArray) (x11 : Int) (x12 : List TOp) := F.pleachref43_Parse.at K [1, 1, 1, 1, 1, 1, 1, 0, 0, 0, 1, 0, 1, 1, 0, 1] [n0] (F.pleachref43_Parse.j1111111000101101.st a0 x0 x1 x2 x3 x4 x5 x6 x7 x8 x9 x10 x11 x12)
def F.pleachref43_Parse.j111111100010111.st (a0 : ByteArray) (x0 : Int) (x1 : ByteArray) (x2 : List ByteArray) (x3 : Int) (x4 : ByteArray) (x5 : ByteArray) (x6 : ByteArray) (x7 : ByteArray) (x8 : ByteArray) (x9 : ByteArray) (x10 : Int) (x11 : List TOp) : St := ⟨[(0, vS a0), (2, .one (.sc (.ref 0 0))), (4, .one (.sc (.own 1 none))), (5, .one (.sc (.ref 2 0))), (8, vI x0), (9, .one (.sc (.ref 3 0))), (10, vS x1)], [.cells 24 [.val (.int .i64 0), .val (.string (⟨#[]⟩ : ByteArray)), .val (.string (⟨#[]⟩ : ByteArray)), .val (.string (⟨#[]⟩ : ByteArray)), .val (.string (⟨#[]⟩ : ByteArray)), .own 4 none, .val (.string (⟨#[]⟩ : ByteArray)), .val (.string (⟨#[]⟩ : ByteArray))], .elems .str x2, .cells 24 [.val (.int .i64 x3), .val (.string x4), .val (.string x5), .val (.string x6), .val (.string x7), .own 5 none, .val (.string x8), .val (.string x9)], .cells 55 [.val (.int .i64 x10), .val (.string (⟨#[]⟩ : ByteArray)), .val (.string (⟨#[]⟩ : ByteArray)), .val (.string (⟨#[]⟩ : ByteArray)), .val (.string (⟨#[]⟩ : ByteArray)), .val (.int .i64 0), .val (.int .i64 0), .val (.string (⟨#[]⟩ : ByteArray))], .elems sOp ([]), .elems sOp x11]⟩
noncomputable def F.pleachref43_Parse.j111111100010111 (K n0 : Nat) (a0 : ByteArray) (x0 : Int) (x1 : ByteArray) (x2 : List ByteArray) (x3 : Int) (x4 : ByteArray) (x5 : ByteArray) (x6 : ByteArray) (x7 : ByteArray) (x8 : ByteArray) (x9 : ByteArray) (x10 : Int) (x11 : List TOp) := F.pleachref43_Parse.at K [1, 1, 1, 1, 1, 1, 1, 0, 0, 0, 1, 0, 1, 1, 1] [n0] (F.pleachref43_Parse.j111111100010111.st a0 x0 x1 x2 x3 x4 x5 x6 x7 x8 x9 x10 x11)
def F.pleachref43_Parse.l111111100010111010.st (a0 : ByteArray) (x0 : Int) (x1 : ByteArray) (x2 : Int) (x3 : List ByteArray) (x4 : Int) (x5 : ByteArray) (x6 : ByteArray) (x7 : ByteArray) (x8 : ByteArray) (x9 : ByteArray) (x10 : ByteArray) (x11 : Int) (x12 : ByteArray) (x13 : ByteArray) (x14 : ByteArray) (x15 : ByteArray) (x16 : Int) (x17 : Int) (x18 : ByteArray) (x19 : List TOp) : St := ⟨[(0, vS a0), (2, .one (.sc (.ref 0 0))), (4, .one (.sc (.own 1 none))), (5, .one (.sc (.ref 2 0))), (8, vI x0), (9, .one (.sc (.ref 3 0))), (10, vS x1), (11, vI x2)], [.cells 24 [.val (.int .i64 0), .val (.string (⟨#[]⟩ : ByteArray)), .val (.string (⟨#[]⟩ : ByteArray)), .val (.string (⟨#[]⟩ : ByteArray)), .val (.string (⟨#[]⟩ : ByteArray)), .own 4 none, .val (.string (⟨#[]⟩ : ByteArray)), .val (.string (⟨#[]⟩ : ByteArray))], .elems .str x3, .cells 24 [.val (.int .i64 x4), .val (.string x5), .val (.string x6), .val (.string x7), .val (.string x8), .own 5 none, .val (.string x9), .val (.string x10)], .cells 55 [.val (.int .i64 x11), .val (.string x12), .val (.string x13), .val (.string x14), .val (.string x15), .val (.int .i64 x16), .val (.int .i64 x17), .val (.string x18)], .elems sOp ([]), .elems sOp x19]⟩
noncomputable def F.pleachref43_Parse.l111111100010111010 (K n0 n1 : Nat) (a0 : ByteArray) (x0 : Int) (x1 : ByteArray) (x2 : Int) (x3 : List ByteArray) (x4 : Int) (x5 : ByteArray) (x6 : ByteArray) (x7 : ByteArray) (x8 : ByteArray) (x9 : ByteArray) (x10 : ByteArray) (x11 : Int) (x12 : ByteArray) (x13 : ByteArray) (x14 : ByteArray) (x15 : ByteArray) (x16 : Int) (x17 : Int) (x18 : ByteArray) (x19 : List TOp) := F.pleachref43_Parse.at K [1, 1, 1, 1, 1, 1, 1, 0, 0, 0, 1, 0, 1, 1, 1, 0, 1, 0] [n0, n1] (F.pleachref43_Parse.l111111100010111010.st a0 x0 x1 x2 x3 x4 x5 x6 x7 x8 x9 x10 x11 x12 x13 x14 x15 x16 x17 x18 x19)
noncomputable def F.pleachref43_Parse.j111.B (c0 : (Int) → Option (ByteArray)) (c1 : (ByteArray) → (ByteArray) → (Bool) → (List ByteArray) → (Int) → Option (TCall × Bool)) (a0 : ByteArray) (x0 : List ByteArray) (x1 : Int) : Option (TCall × Bool) :=
    ((c0 x1).bind fun t6 => (bif (strEq t6 (⟨#[63]⟩ : ByteArray)) then (c1 a0 t6 true x0 x1) else (c1 a0 t6 (decide ((x0.length : Int) < (w64 (1 + (t6.size : Int))))) x0 x1)))
theorem F.pleachref43_Parse.j111.eq K a0 x0 x1 : F.pleachref43_Parse.j111 K a0 x0 x1 = F.pleachref43_Parse.j111.B (F.pleachref43_form K) (F.pleachref43_Parse.j111101 K) a0 x0 x1 := (F.pleachref43_Parse.in_eq K [1, 1, 1] [] (F.pleachref43_Parse.j111.st a0 x0 x1)).trans ((show ∀ H, F.pleachref43_Parse.in K H [1, 1, 1] [] (F.pleachref43_Parse.j111.st a0 x0 x1) = F.pleachref43_Parse.j111.B (F.pleachref43_form K) (fun a0 x0 x1 x2 x3 => H [1, 1, 1, 1, 0, 1] [] (F.pleachref43_Parse.j111101.st a0 x0 x1 x2 x3)) a0 x0 x1 from by intro H; kernel_rfl) (F.pleachref43_Parse.at K))
noncomputable def F.pleachref43_Parse.j111101.B (c0 : (ByteArray) → (ByteArray) → (List ByteArray) → (Int) → Option (TCall × Bool)) (a0 : ByteArray) (x0 : ByteArray) (x1 : Bool) (x2 : List ByteArray) (x3 : Int) : Option (TCall × Bool) :=
    (bif x1 then (some ((0, (⟨#[]⟩ : ByteArray), (⟨#[]⟩ : ByteArray), (⟨#[]⟩ : ByteArray), (⟨#[]⟩ : ByteArray), [], (⟨#[]⟩ : ByteArray), (⟨#[]⟩ : ByteArray)), false)) else (c0 a0 x0 x2 x3))
theorem F.pleachref43_Parse.j111101.eq K a0 x0 x1 x2 x3 : F.pleachref43_Parse.j111101 K a0 x0 x1 x2 x3 = F.pleachref43_Parse.j111101.B (F.pleachref43_Parse.j11111 K) a0 x0 x1 x2 x3 := (F.pleachref43_Parse.in_eq K [1, 1, 1, 1, 0, 1] [] (F.pleachref43_Parse.j111101.st a0 x0 x1 x2 x3)).trans ((show ∀ H, F.pleachref43_Parse.in K H [1, 1, 1, 1, 0, 1] [] (F.pleachref43_Parse.j111101.st a0 x0 x1 x2 x3) = F.pleachref43_Parse.j111101.B (fun a0 x0 x1 x2 => H [1, 1, 1, 1, 1] [] (F.pleachref43_Parse.j11111.st a0 x0 x1 x2)) a0 x0 x1 x2 x3 from by intro H; kernel_rfl) (F.pleachref43_Parse.at K))
noncomputable def F.pleachref43_Parse.j11111.B (c0 : (ByteArray) → (ByteArray) → (Int) → (List ByteArray) → (Int) → (ByteArray) → (ByteArray) → (ByteArray) → (ByteArray) → (ByteArray) → (ByteArray) → (List TOp) → Option (TCall × Bool)) (a0 : ByteArray) (x0 : ByteArray) (x1 : List ByteArray) (x2 : Int) : Option (TCall × Bool) :=
    (c0 a0 x0 0 x1 x2 (⟨#[]⟩ : ByteArray) (⟨#[]⟩ : ByteArray) (⟨#[]⟩ : ByteArray) (⟨#[]⟩ : ByteArray) (⟨#[]⟩ : ByteArray) (⟨#[]⟩ : ByteArray) ([]))
theorem F.pleachref43_Parse.j11111.eq K a0 x0 x1 x2 : F.pleachref43_Parse.j11111 K a0 x0 x1 x2 = F.pleachref43_Parse.j11111.B (F.pleachref43_Parse.l11111010 K K) a0 x0 x1 x2 := (F.pleachref43_Parse.in_eq K [1, 1, 1, 1, 1] [] (F.pleachref43_Parse.j11111.st a0 x0 x1 x2)).trans ((show ∀ H, F.pleachref43_Parse.in K H [1, 1, 1, 1, 1] [] (F.pleachref43_Parse.j11111.st a0 x0 x1 x2) = F.pleachref43_Parse.j11111.B (fun a0 x0 x1 x2 x3 x4 x5 x6 x7 x8 x9 x10 => H [1, 1, 1, 1, 1, 0, 1, 0] [K] (F.pleachref43_Parse.l11111010.st a0 x0 x1 x2 x3 x4 x5 x6 x7 x8 x9 x10)) a0 x0 x1 x2 from by intro H; kernel_rfl) (F.pleachref43_Parse.at K))
noncomputable def F.pleachref43_Parse.l11111010.B (c0 : (TCall) → (Int) → (ByteArray) → Option (TCall)) (c1 : (ByteArray) → (ByteArray) → (Int) → (List ByteArray) → (Int) → (ByteArray) → (ByteArray) → (ByteArray) → (ByteArray) → (ByteArray) → (ByteArray) → (List TOp) → Option (TCall × Bool)) (c2 : (ByteArray) → (Int) → (List ByteArray) → (Int) → (ByteArray) → (ByteArray) → (ByteArray) → (ByteArray) → (ByteArray) → (ByteArray) → (List TOp) → Option (TCall × Bool)) (a0 : ByteArray) (x0 : ByteArray) (x1 : Int) (x2 : List ByteArray) (x3 : Int) (x4 : ByteArray) (x5 : ByteArray) (x6 : ByteArray) (x7 : ByteArray) (x8 : ByteArray) (x9 : ByteArray) (x10 : List TOp) : Option (TCall × Bool) :=
    (bif (decide (x1 < (x0.size : Int))) then (guardK (decide (0 ≤ x1) && decide (x1 < (x0.size : Int))) (guardK (decide (0 ≤ (w64 (1 + x1))) && decide ((w64 (1 + x1)) < (x2.length : Int))) ((c0 (x3, x4, x5, x6, x7, x10, x8, x9) (byteAt x0 x1) (rd .str x2 ((w64 (1 + x1)).toNat))).bind fun t7 => (c1 a0 x0 (w64 (x1 + 1)) x2 t7.1 t7.2.1 t7.2.2.1 t7.2.2.2.1 t7.2.2.2.2.1 t7.2.2.2.2.2.2.1 t7.2.2.2.2.2.2.2 t7.2.2.2.2.2.1)))) else (c2 a0 (w64 (1 + (x0.size : Int))) x2 x3 x4 x5 x6 x7 x8 x9 x10))
theorem F.pleachref43_Parse.l11111010.eq K n0 a0 x0 x1 x2 x3 x4 x5 x6 x7 x8 x9 x10 : F.pleachref43_Parse.l11111010 K (n0 + 1) a0 x0 x1 x2 x3 x4 x5 x6 x7 x8 x9 x10 = F.pleachref43_Parse.l11111010.B (F.pleachref43_put K) (F.pleachref43_Parse.l11111010 K n0) (F.pleachref43_Parse.l111111100 K K) a0 x0 x1 x2 x3 x4 x5 x6 x7 x8 x9 x10 := (F.pleachref43_Parse.in_eq K [1, 1, 1, 1, 1, 0, 1, 0] [n0 + 1] (F.pleachref43_Parse.l11111010.st a0 x0 x1 x2 x3 x4 x5 x6 x7 x8 x9 x10)).trans ((show ∀ H, F.pleachref43_Parse.in K H [1, 1, 1, 1, 1, 0, 1, 0] [n0 + 1] (F.pleachref43_Parse.l11111010.st a0 x0 x1 x2 x3 x4 x5 x6 x7 x8 x9 x10) = F.pleachref43_Parse.l11111010.B (F.pleachref43_put K) (fun a0 x0 x1 x2 x3 x4 x5 x6 x7 x8 x9 x10 => H [1, 1, 1, 1, 1, 0, 1, 0] [n0] (F.pleachref43_Parse.l11111010.st a0 x0 x1 x2 x3 x4 x5 x6 x7 x8 x9 x10)) (fun a0 x0 x1 x2 x3 x4 x5 x6 x7 x8 x9 => H [1, 1, 1, 1, 1, 1, 1, 0, 0] [K] (F.pleachref43_Parse.l111111100.st a0 x0 x1 x2 x3 x4 x5 x6 x7 x8 x9)) a0 x0 x1 x2 x3 x4 x5 x6 x7 x8 x9 x10 from by intro H; kernel_rfl) (F.pleachref43_Parse.at K))
noncomputable def F.pleachref43_Parse.l111111100.B (c0 : Option ((List ByteArray))) (c1 : (List ByteArray) → (ByteArray) → Option (Int)) (c2 : (ByteArray) → (Int) → (List ByteArray) → (Int) → (ByteArray) → (ByteArray) → (ByteArray) → (ByteArray) → (ByteArray) → (ByteArray) → (Int) → (List TOp) → Option (TCall × Bool)) (c3 : (TCall) → Option (ByteArray)) (a0 : ByteArray) (x0 : Int) (x1 : List ByteArray) (x2 : Int) (x3 : ByteArray) (x4 : ByteArray) (x5 : ByteArray) (x6 : ByteArray) (x7 : ByteArray) (x8 : ByteArray) (x9 : List TOp) : Option (TCall × Bool) :=
    (bif (decide ((w64 (x0 + 1)) < (x1.length : Int))) then (guardK (decide (0 ≤ (w64 (x0 + 1))) && decide ((w64 (x0 + 1)) < (x1.length : Int))) (@meet (TCall × Bool) (PD.dec [.agg sCall, .sc .bool]) ((c0).bind fun t8 => (@meet (TCall × Bool) (PD.dec [.agg sCall, .sc .bool]) ((c1 t8 (rd .str x1 ((w64 (x0 + 1)).toNat))).bind fun t9 => (c2 a0 x0 x1 x2 x3 x4 x5 x6 x7 x8 t9 x9)) ((c1 t8 (rd .str x1 ((w64 (x0 + 1)).toNat))).bind fun t10 => (c2 a0 x0 x1 x2 x3 x4 x5 x6 x7 x8 t10 x9)))) ((c0).bind fun t11 => ((c1 t11 (rd .str x1 ((w64 (x0 + 1)).toNat))).bind fun t12 => (c2 a0 x0 x1 x2 x3 x4 x5 x6 x7 x8 t12 x9))))) else ((c3 (x2, x3, x4, x5, x6, x9, x7, x8)).bind fun t13 => (bif (!strEq t13 a0) then (some ((0, (⟨#[]⟩ : ByteArray), (⟨#[]⟩ : ByteArray), (⟨#[]⟩ : ByteArray), (⟨#[]⟩ : ByteArray), [], (⟨#[]⟩ : ByteArray), (⟨#[]⟩ : ByteArray)), false)) else (some ((x2, x3, x4, x5, x6, x9, x7, x8), true)))))
theorem F.pleachref43_Parse.l111111100.eq K n0 a0 x0 x1 x2 x3 x4 x5 x6 x7 x8 x9 : F.pleachref43_Parse.l111111100 K (n0 + 1) a0 x0 x1 x2 x3 x4 x5 x6 x7 x8 x9 = F.pleachref43_Parse.l111111100.B (F.pleachref43_signs K) (F.pleachref43_place K) (F.pleachref43_Parse.j1111111000101 K n0) (F.pleachref43_Show K) a0 x0 x1 x2 x3 x4 x5 x6 x7 x8 x9 := (F.pleachref43_Parse.in_eq K [1, 1, 1, 1, 1, 1, 1, 0, 0] [n0 + 1] (F.pleachref43_Parse.l111111100.st a0 x0 x1 x2 x3 x4 x5 x6 x7 x8 x9)).trans ((show ∀ H, F.pleachref43_Parse.in K H [1, 1, 1, 1, 1, 1, 1, 0, 0] [n0 + 1] (F.pleachref43_Parse.l111111100.st a0 x0 x1 x2 x3 x4 x5 x6 x7 x8 x9) = F.pleachref43_Parse.l111111100.B (F.pleachref43_signs K) (F.pleachref43_place K) (fun a0 x0 x1 x2 x3 x4 x5 x6 x7 x8 x9 x10 => H [1, 1, 1, 1, 1, 1, 1, 0, 0, 0, 1, 0, 1] [n0] (F.pleachref43_Parse.j1111111000101.st a0 x0 x1 x2 x3 x4 x5 x6 x7 x8 x9 x10)) (F.pleachref43_Show K) a0 x0 x1 x2 x3 x4 x5 x6 x7 x8 x9 from by intro H; kernel_rfl) (F.pleachref43_Parse.at K))
noncomputable def F.pleachref43_Parse.j1111111000101.B (c0 : (Int) → Option (ByteArray)) (c1 : (ByteArray) → (Int) → (ByteArray) → (Bool) → (List ByteArray) → (Int) → (ByteArray) → (ByteArray) → (ByteArray) → (ByteArray) → (ByteArray) → (ByteArray) → (Int) → (List TOp) → Option (TCall × Bool)) (a0 : ByteArray) (x0 : Int) (x1 : List ByteArray) (x2 : Int) (x3 : ByteArray) (x4 : ByteArray) (x5 : ByteArray) (x6 : ByteArray) (x7 : ByteArray) (x8 : ByteArray) (x9 : Int) (x10 : List TOp) : Option (TCall × Bool) :=
    ((c0 x9).bind fun t14 => (guardK (decide (0 ≤ x0) && decide (x0 < (x1.length : Int))) (bif (!strEq (rd .str x1 x0.toNat) (⟨#[59]⟩ : ByteArray)) then (c1 a0 x0 t14 true x1 x2 x3 x4 x5 x6 x7 x8 x9 x10) else (bif (strEq t14 (⟨#[63]⟩ : ByteArray)) then (c1 a0 x0 t14 true x1 x2 x3 x4 x5 x6 x7 x8 x9 x10) else (c1 a0 x0 t14 (decide ((w64 ((w64 (x0 + 2)) + (t14.size : Int))) > (x1.length : Int))) x1 x2 x3 x4 x5 x6 x7 x8 x9 x10)))))
theorem F.pleachref43_Parse.j1111111000101.eq K n0 a0 x0 x1 x2 x3 x4 x5 x6 x7 x8 x9 x10 : F.pleachref43_Parse.j1111111000101 K n0 a0 x0 x1 x2 x3 x4 x5 x6 x7 x8 x9 x10 = F.pleachref43_Parse.j1111111000101.B (F.pleachref43_opForm K) (F.pleachref43_Parse.j1111111000101101 K n0) a0 x0 x1 x2 x3 x4 x5 x6 x7 x8 x9 x10 := (F.pleachref43_Parse.in_eq K [1, 1, 1, 1, 1, 1, 1, 0, 0, 0, 1, 0, 1] [n0] (F.pleachref43_Parse.j1111111000101.st a0 x0 x1 x2 x3 x4 x5 x6 x7 x8 x9 x10)).trans ((show ∀ H, F.pleachref43_Parse.in K H [1, 1, 1, 1, 1, 1, 1, 0, 0, 0, 1, 0, 1] [n0] (F.pleachref43_Parse.j1111111000101.st a0 x0 x1 x2 x3 x4 x5 x6 x7 x8 x9 x10) = F.pleachref43_Parse.j1111111000101.B (F.pleachref43_opForm K) (fun a0 x0 x1 x2 x3 x4 x5 x6 x7 x8 x9 x10 x11 x12 => H [1, 1, 1, 1, 1, 1, 1, 0, 0, 0, 1, 0, 1, 1, 0, 1] [n0] (F.pleachref43_Parse.j1111111000101101.st a0 x0 x1 x2 x3 x4 x5 x6 x7 x8 x9 x10 x11 x12)) a0 x0 x1 x2 x3 x4 x5 x6 x7 x8 x9 x10 from by intro H; kernel_rfl) (F.pleachref43_Parse.at K))
noncomputable def F.pleachref43_Parse.j1111111000101101.B (c0 : (ByteArray) → (Int) → (ByteArray) → (List ByteArray) → (Int) → (ByteArray) → (ByteArray) → (ByteArray) → (ByteArray) → (ByteArray) → (ByteArray) → (Int) → (List TOp) → Option (TCall × Bool)) (a0 : ByteArray) (x0 : Int) (x1 : ByteArray) (x2 : Bool) (x3 : List ByteArray) (x4 : Int) (x5 : ByteArray) (x6 : ByteArray) (x7 : ByteArray) (x8 : ByteArray) (x9 : ByteArray) (x10 : ByteArray) (x11 : Int) (x12 : List TOp) : Option (TCall × Bool) :=
    (bif x2 then (some ((0, (⟨#[]⟩ : ByteArray), (⟨#[]⟩ : ByteArray), (⟨#[]⟩ : ByteArray), (⟨#[]⟩ : ByteArray), [], (⟨#[]⟩ : ByteArray), (⟨#[]⟩ : ByteArray)), false)) else (c0 a0 x0 x1 x3 x4 x5 x6 x7 x8 x9 x10 x11 x12))
theorem F.pleachref43_Parse.j1111111000101101.eq K n0 a0 x0 x1 x2 x3 x4 x5 x6 x7 x8 x9 x10 x11 x12 : F.pleachref43_Parse.j1111111000101101 K n0 a0 x0 x1 x2 x3 x4 x5 x6 x7 x8 x9 x10 x11 x12 = F.pleachref43_Parse.j1111111000101101.B (F.pleachref43_Parse.j111111100010111 K n0) a0 x0 x1 x2 x3 x4 x5 x6 x7 x8 x9 x10 x11 x12 := (F.pleachref43_Parse.in_eq K [1, 1, 1, 1, 1, 1, 1, 0, 0, 0, 1, 0, 1, 1, 0, 1] [n0] (F.pleachref43_Parse.j1111111000101101.st a0 x0 x1 x2 x3 x4 x5 x6 x7 x8 x9 x10 x11 x12)).trans ((show ∀ H, F.pleachref43_Parse.in K H [1, 1, 1, 1, 1, 1, 1, 0, 0, 0, 1, 0, 1, 1, 0, 1] [n0] (F.pleachref43_Parse.j1111111000101101.st a0 x0 x1 x2 x3 x4 x5 x6 x7 x8 x9 x10 x11 x12) = F.pleachref43_Parse.j1111111000101101.B (fun a0 x0 x1 x2 x3 x4 x5 x6 x7 x8 x9 x10 x11 => H [1, 1, 1, 1, 1, 1, 1, 0, 0, 0, 1, 0, 1, 1, 1] [n0] (F.pleachref43_Parse.j111111100010111.st a0 x0 x1 x2 x3 x4 x5 x6 x7 x8 x9 x10 x11)) a0 x0 x1 x2 x3 x4 x5 x6 x7 x8 x9 x10 x11 x12 from by intro H; kernel_rfl) (F.pleachref43_Parse.at K))
noncomputable def F.pleachref43_Parse.j111111100010111.B (c0 : (ByteArray) → (Int) → (ByteArray) → (Int) → (List ByteArray) → (Int) → (ByteArray) → (ByteArray) → (ByteArray) → (ByteArray) → (ByteArray) → (ByteArray) → (Int) → (ByteArray) → (ByteArray) → (ByteArray) → (ByteArray) → (Int) → (Int) → (ByteArray) → (List TOp) → Option (TCall × Bool)) (a0 : ByteArray) (x0 : Int) (x1 : ByteArray) (x2 : List ByteArray) (x3 : Int) (x4 : ByteArray) (x5 : ByteArray) (x6 : ByteArray) (x7 : ByteArray) (x8 : ByteArray) (x9 : ByteArray) (x10 : Int) (x11 : List TOp) : Option (TCall × Bool) :=
    (c0 a0 x0 x1 0 x2 x3 x4 x5 x6 x7 x8 x9 x10 (⟨#[]⟩ : ByteArray) (⟨#[]⟩ : ByteArray) (⟨#[]⟩ : ByteArray) (⟨#[]⟩ : ByteArray) 0 0 (⟨#[]⟩ : ByteArray) x11)
theorem F.pleachref43_Parse.j111111100010111.eq K n0 a0 x0 x1 x2 x3 x4 x5 x6 x7 x8 x9 x10 x11 : F.pleachref43_Parse.j111111100010111 K n0 a0 x0 x1 x2 x3 x4 x5 x6 x7 x8 x9 x10 x11 = F.pleachref43_Parse.j111111100010111.B (F.pleachref43_Parse.l111111100010111010 K n0 K) a0 x0 x1 x2 x3 x4 x5 x6 x7 x8 x9 x10 x11 := (F.pleachref43_Parse.in_eq K [1, 1, 1, 1, 1, 1, 1, 0, 0, 0, 1, 0, 1, 1, 1] [n0] (F.pleachref43_Parse.j111111100010111.st a0 x0 x1 x2 x3 x4 x5 x6 x7 x8 x9 x10 x11)).trans ((show ∀ H, F.pleachref43_Parse.in K H [1, 1, 1, 1, 1, 1, 1, 0, 0, 0, 1, 0, 1, 1, 1] [n0] (F.pleachref43_Parse.j111111100010111.st a0 x0 x1 x2 x3 x4 x5 x6 x7 x8 x9 x10 x11) = F.pleachref43_Parse.j111111100010111.B (fun a0 x0 x1 x2 x3 x4 x5 x6 x7 x8 x9 x10 x11 x12 x13 x14 x15 x16 x17 x18 x19 => H [1, 1, 1, 1, 1, 1, 1, 0, 0, 0, 1, 0, 1, 1, 1, 0, 1, 0] [n0, K] (F.pleachref43_Parse.l111111100010111010.st a0 x0 x1 x2 x3 x4 x5 x6 x7 x8 x9 x10 x11 x12 x13 x14 x15 x16 x17 x18 x19)) a0 x0 x1 x2 x3 x4 x5 x6 x7 x8 x9 x10 x11 from by intro H; kernel_rfl) (F.pleachref43_Parse.at K))
noncomputable def F.pleachref43_Parse.l111111100010111010.B (c0 : (TOp) → (Int) → (ByteArray) → Option (TOp)) (c1 : (ByteArray) → (Int) → (ByteArray) → (Int) → (List ByteArray) → (Int) → (ByteArray) → (ByteArray) → (ByteArray) → (ByteArray) → (ByteArray) → (ByteArray) → (Int) → (ByteArray) → (ByteArray) → (ByteArray) → (ByteArray) → (Int) → (Int) → (ByteArray) → (List TOp) → Option (TCall × Bool)) (c2 : (ByteArray) → (Int) → (List ByteArray) → (Int) → (ByteArray) → (ByteArray) → (ByteArray) → (ByteArray) → (ByteArray) → (ByteArray) → (List TOp) → Option (TCall × Bool)) (a0 : ByteArray) (x0 : Int) (x1 : ByteArray) (x2 : Int) (x3 : List ByteArray) (x4 : Int) (x5 : ByteArray) (x6 : ByteArray) (x7 : ByteArray) (x8 : ByteArray) (x9 : ByteArray) (x10 : ByteArray) (x11 : Int) (x12 : ByteArray) (x13 : ByteArray) (x14 : ByteArray) (x15 : ByteArray) (x16 : Int) (x17 : Int) (x18 : ByteArray) (x19 : List TOp) : Option (TCall × Bool) :=
    (bif (decide (x2 < (x1.size : Int))) then (guardK (decide (0 ≤ x2) && decide (x2 < (x1.size : Int))) (guardK (decide (0 ≤ (w64 ((w64 (x0 + 2)) + x2))) && decide ((w64 ((w64 (x0 + 2)) + x2)) < (x3.length : Int))) ((c0 (x11, x12, x13, x14, x15, x16, x17, x18) (byteAt x1 x2) (rd .str x3 ((w64 ((w64 (x0 + 2)) + x2)).toNat))).bind fun t15 => (c1 a0 x0 x1 (w64 (x2 + 1)) x3 x4 x5 x6 x7 x8 x9 x10 t15.1 t15.2.1 t15.2.2.1 t15.2.2.2.1 t15.2.2.2.2.1 t15.2.2.2.2.2.1 t15.2.2.2.2.2.2.1 t15.2.2.2.2.2.2.2 x19)))) else (guardK (decide (x19.length + ([(x11, x12, x13, x14, x15, x16, x17, x18)]).length ≤ nmax)) (c2 a0 (w64 ((w64 (x0 + 2)) + (x1.size : Int))) x3 x4 x5 x6 x7 x8 x9 x10 (x19 ++ [(x11, x12, x13, x14, x15, x16, x17, x18)]))))
theorem F.pleachref43_Parse.l111111100010111010.eq K n0 n1 a0 x0 x1 x2 x3 x4 x5 x6 x7 x8 x9 x10 x11 x12 x13 x14 x15 x16 x17 x18 x19 : F.pleachref43_Parse.l111111100010111010 K n0 (n1 + 1) a0 x0 x1 x2 x3 x4 x5 x6 x7 x8 x9 x10 x11 x12 x13 x14 x15 x16 x17 x18 x19 = F.pleachref43_Parse.l111111100010111010.B (F.pleachref43_opPut K) (F.pleachref43_Parse.l111111100010111010 K n0 n1) (F.pleachref43_Parse.l111111100 K n0) a0 x0 x1 x2 x3 x4 x5 x6 x7 x8 x9 x10 x11 x12 x13 x14 x15 x16 x17 x18 x19 := (F.pleachref43_Parse.in_eq K [1, 1, 1, 1, 1, 1, 1, 0, 0, 0, 1, 0, 1, 1, 1, 0, 1, 0] [n0, n1 + 1] (F.pleachref43_Parse.l111111100010111010.st a0 x0 x1 x2 x3 x4 x5 x6 x7 x8 x9 x10 x11 x12 x13 x14 x15 x16 x17 x18 x19)).trans ((show ∀ H, F.pleachref43_Parse.in K H [1, 1, 1, 1, 1, 1, 1, 0, 0, 0, 1, 0, 1, 1, 1, 0, 1, 0] [n0, n1 + 1] (F.pleachref43_Parse.l111111100010111010.st a0 x0 x1 x2 x3 x4 x5 x6 x7 x8 x9 x10 x11 x12 x13 x14 x15 x16 x17 x18 x19) = F.pleachref43_Parse.l111111100010111010.B (F.pleachref43_opPut K) (fun a0 x0 x1 x2 x3 x4 x5 x6 x7 x8 x9 x10 x11 x12 x13 x14 x15 x16 x17 x18 x19 => H [1, 1, 1, 1, 1, 1, 1, 0, 0, 0, 1, 0, 1, 1, 1, 0, 1, 0] [n0, n1] (F.pleachref43_Parse.l111111100010111010.st a0 x0 x1 x2 x3 x4 x5 x6 x7 x8 x9 x10 x11 x12 x13 x14 x15 x16 x17 x18 x19)) (fun a0 x0 x1 x2 x3 x4 x5 x6 x7 x8 x9 => H [1, 1, 1, 1, 1, 1, 1, 0, 0] [n0] (F.pleachref43_Parse.l111111100.st a0 x0 x1 x2 x3 x4 x5 x6 x7 x8 x9)) a0 x0 x1 x2 x3 x4 x5 x6 x7 x8 x9 x10 x11 x12 x13 x14 x15 x16 x17 x18 x19 from by intro H; kernel_rfl) (F.pleachref43_Parse.at K))
noncomputable def F.pleachref43_Parse.B (c0 : (ByteArray) → Option ((List ByteArray))) (c1 : Option ((List ByteArray))) (c2 : (List ByteArray) → (ByteArray) → Option (Int)) (c3 : (ByteArray) → (List ByteArray) → (Int) → Option (TCall × Bool)) (a0 : ByteArray) : Option (TCall × Bool) :=
    ((c0 a0).bind fun t0 => (guardK (decide (0 < (t0.length : Int))) (@meet (TCall × Bool) (PD.dec [.agg sCall, .sc .bool]) ((c1).bind fun t1 => (@meet (TCall × Bool) (PD.dec [.agg sCall, .sc .bool]) ((c2 t1 (rd .str t0 0)).bind fun t2 => (c3 a0 t0 t2)) ((c2 t1 (rd .str t0 0)).bind fun t3 => (c3 a0 t0 t3)))) ((c1).bind fun t4 => ((c2 t4 (rd .str t0 0)).bind fun t5 => (c3 a0 t0 t5))))))
theorem F.pleachref43_Parse.eq K a0 : F.pleachref43_Parse (K + 1) a0 = F.pleachref43_Parse.B (F.pleachref43_split K) (F.pleachref43_words K) (F.pleachref43_place K) (F.pleachref43_Parse.j111 K) a0 := (F.pleachref43_Parse.in_main K a0).trans ((show ∀ H, F.pleachref43_Parse.in K H [] [] ⟨slots [.sc (.val (.string a0))] 0, []⟩ = F.pleachref43_Parse.B (F.pleachref43_split K) (F.pleachref43_words K) (F.pleachref43_place K) (fun a0 x0 x1 => H [1, 1, 1] [] (F.pleachref43_Parse.j111.st a0 x0 x1)) a0 from by intro H; kernel_rfl) (F.pleachref43_Parse.at K))
noncomputable def V.pleachref43_Parse.j111 (a0 : ByteArray) (x0 : List ByteArray) (x1 : Int) := lim fun v => F.pleachref43_Parse.j111 (v 0) a0 x0 x1
noncomputable def V.pleachref43_Parse.j111101 (a0 : ByteArray) (x0 : ByteArray) (x1 : Bool) (x2 : List ByteArray) (x3 : Int) := lim fun v => F.pleachref43_Parse.j111101 (v 0) a0 x0 x1 x2 x3
noncomputable def V.pleachref43_Parse.j11111 (a0 : ByteArray) (x0 : ByteArray) (x1 : List ByteArray) (x2 : Int) := lim fun v => F.pleachref43_Parse.j11111 (v 0) a0 x0 x1 x2
noncomputable def V.pleachref43_Parse.l11111010 (a0 : ByteArray) (x0 : ByteArray) (x1 : Int) (x2 : List ByteArray) (x3 : Int) (x4 : ByteArray) (x5 : ByteArray) (x6 : ByteArray) (x7 : ByteArray) (x8 : ByteArray) (x9 : ByteArray) (x10 : List TOp) := lim fun v => F.pleachref43_Parse.l11111010 (v 0) (v 1) a0 x0 x1 x2 x3 x4 x5 x6 x7 x8 x9 x10
noncomputable def V.pleachref43_Parse.l111111100 (a0 : ByteArray) (x0 : Int) (x1 : List ByteArray) (x2 : Int) (x3 : ByteArray) (x4 : ByteArray) (x5 : ByteArray) (x6 : ByteArray) (x7 : ByteArray) (x8 : ByteArray) (x9 : List TOp) := lim fun v => F.pleachref43_Parse.l111111100 (v 0) (v 1) a0 x0 x1 x2 x3 x4 x5 x6 x7 x8 x9
noncomputable def V.pleachref43_Parse.j1111111000101 (a0 : ByteArray) (x0 : Int) (x1 : List ByteArray) (x2 : Int) (x3 : ByteArray) (x4 : ByteArray) (x5 : ByteArray) (x6 : ByteArray) (x7 : ByteArray) (x8 : ByteArray) (x9 : Int) (x10 : List TOp) := lim fun v => F.pleachref43_Parse.j1111111000101 (v 0) (v 1) a0 x0 x1 x2 x3 x4 x5 x6 x7 x8 x9 x10
noncomputable def V.pleachref43_Parse.j1111111000101101 (a0 : ByteArray) (x0 : Int) (x1 : ByteArray) (x2 : Bool) (x3 : List ByteArray) (x4 : Int) (x5 : ByteArray) (x6 : ByteArray) (x7 : ByteArray) (x8 : ByteArray) (x9 : ByteArray) (x10 : ByteArray) (x11 : Int) (x12 : List TOp) := lim fun v => F.pleachref43_Parse.j1111111000101101 (v 0) (v 1) a0 x0 x1 x2 x3 x4 x5 x6 x7 x8 x9 x10 x11 x12
noncomputable def V.pleachref43_Parse.j111111100010111 (a0 : ByteArray) (x0 : Int) (x1 : ByteArray) (x2 : List ByteArray) (x3 : Int) (x4 : ByteArray) (x5 : ByteArray) (x6 : ByteArray) (x7 : ByteArray) (x8 : ByteArray) (x9 : ByteArray) (x10 : Int) (x11 : List TOp) := lim fun v => F.pleachref43_Parse.j111111100010111 (v 0) (v 1) a0 x0 x1 x2 x3 x4 x5 x6 x7 x8 x9 x10 x11
noncomputable def V.pleachref43_Parse.l111111100010111010 (a0 : ByteArray) (x0 : Int) (x1 : ByteArray) (x2 : Int) (x3 : List ByteArray) (x4 : Int) (x5 : ByteArray) (x6 : ByteArray) (x7 : ByteArray) (x8 : ByteArray) (x9 : ByteArray) (x10 : ByteArray) (x11 : Int) (x12 : ByteArray) (x13 : ByteArray) (x14 : ByteArray) (x15 : ByteArray) (x16 : Int) (x17 : Int) (x18 : ByteArray) (x19 : List TOp) := lim fun v => F.pleachref43_Parse.l111111100010111010 (v 0) (v 1) (v 2) a0 x0 x1 x2 x3 x4 x5 x6 x7 x8 x9 x10 x11 x12 x13 x14 x15 x16 x17 x18 x19
noncomputable def V.pleachref43_Parse (a0 : ByteArray) := lim fun v => F.pleachref43_Parse (v 0) a0
theorem V.pleachref43_Parse.j111.of a0 x0 x1 {r} (h : F.pleachref43_Parse.j111.B V.pleachref43_form V.pleachref43_Parse.j111101 a0 x0 x1 = some r) : V.pleachref43_Parse.j111 a0 x0 x1 = some r :=
  App.to (App.same (fun v => F.pleachref43_Parse.j111.eq (v 0) a0 x0 x1) (by unfold F.pleachref43_Parse.j111.B; repeat' first | apply App.guard | apply App.cond | exact App.lim | exact App.val | exact App.no | apply App.meet | apply App.ite | refine App.bind ?_ fun _ => ?_)) h
theorem V.pleachref43_Parse.j111101.of a0 x0 x1 x2 x3 {r} (h : F.pleachref43_Parse.j111101.B V.pleachref43_Parse.j11111 a0 x0 x1 x2 x3 = some r) : V.pleachref43_Parse.j111101 a0 x0 x1 x2 x3 = some r :=
  App.to (App.same (fun v => F.pleachref43_Parse.j111101.eq (v 0) a0 x0 x1 x2 x3) (by unfold F.pleachref43_Parse.j111101.B; repeat' first | apply App.guard | apply App.cond | exact App.lim | exact App.val | exact App.no | apply App.meet | apply App.ite | refine App.bind ?_ fun _ => ?_)) h
theorem V.pleachref43_Parse.j11111.of a0 x0 x1 x2 {r} (h : F.pleachref43_Parse.j11111.B V.pleachref43_Parse.l11111010 a0 x0 x1 x2 = some r) : V.pleachref43_Parse.j11111 a0 x0 x1 x2 = some r :=
  App.to (App.same (fun v => F.pleachref43_Parse.j11111.eq (v 0) a0 x0 x1 x2) (by unfold F.pleachref43_Parse.j11111.B; repeat' first | apply App.guard | apply App.cond | exact App.lim | exact (App.enter 1 App.lim) | exact App.val | exact App.no | apply App.meet | apply App.ite | refine App.bind ?_ fun _ => ?_)) h
theorem V.pleachref43_Parse.l11111010.of a0 x0 x1 x2 x3 x4 x5 x6 x7 x8 x9 x10 {r} (h : F.pleachref43_Parse.l11111010.B V.pleachref43_put V.pleachref43_Parse.l11111010 V.pleachref43_Parse.l111111100 a0 x0 x1 x2 x3 x4 x5 x6 x7 x8 x9 x10 = some r) : V.pleachref43_Parse.l11111010 a0 x0 x1 x2 x3 x4 x5 x6 x7 x8 x9 x10 = some r :=
  App.to (App.step 1 (fun v => F.pleachref43_Parse.l11111010.eq (v 0) (v 1) a0 x0 x1 x2 x3 x4 x5 x6 x7 x8 x9 x10) (by unfold F.pleachref43_Parse.l11111010.B; repeat' first | apply App.guard | apply App.cond | exact App.lim | exact (App.enter 1 App.lim) | exact App.val | exact App.no | apply App.meet | apply App.ite | refine App.bind ?_ fun _ => ?_)) h
theorem V.pleachref43_Parse.l111111100.of a0 x0 x1 x2 x3 x4 x5 x6 x7 x8 x9 {r} (h : F.pleachref43_Parse.l111111100.B V.pleachref43_signs V.pleachref43_place V.pleachref43_Parse.j1111111000101 V.pleachref43_Show a0 x0 x1 x2 x3 x4 x5 x6 x7 x8 x9 = some r) : V.pleachref43_Parse.l111111100 a0 x0 x1 x2 x3 x4 x5 x6 x7 x8 x9 = some r :=
  App.to (App.step 1 (fun v => F.pleachref43_Parse.l111111100.eq (v 0) (v 1) a0 x0 x1 x2 x3 x4 x5 x6 x7 x8 x9) (by unfold F.pleachref43_Parse.l111111100.B; repeat' first | apply App.guard | apply App.cond | exact App.lim | exact App.val | exact App.no | apply App.meet | apply App.ite | refine App.bind ?_ fun _ => ?_)) h
theorem V.pleachref43_Parse.j1111111000101.of a0 x0 x1 x2 x3 x4 x5 x6 x7 x8 x9 x10 {r} (h : F.pleachref43_Parse.j1111111000101.B V.pleachref43_opForm V.pleachref43_Parse.j1111111000101101 a0 x0 x1 x2 x3 x4 x5 x6 x7 x8 x9 x10 = some r) : V.pleachref43_Parse.j1111111000101 a0 x0 x1 x2 x3 x4 x5 x6 x7 x8 x9 x10 = some r :=
  App.to (App.same (fun v => F.pleachref43_Parse.j1111111000101.eq (v 0) (v 1) a0 x0 x1 x2 x3 x4 x5 x6 x7 x8 x9 x10) (by unfold F.pleachref43_Parse.j1111111000101.B; repeat' first | apply App.guard | apply App.cond | exact App.lim | exact App.val | exact App.no | apply App.meet | apply App.ite | refine App.bind ?_ fun _ => ?_)) h
theorem V.pleachref43_Parse.j1111111000101101.of a0 x0 x1 x2 x3 x4 x5 x6 x7 x8 x9 x10 x11 x12 {r} (h : F.pleachref43_Parse.j1111111000101101.B V.pleachref43_Parse.j111111100010111 a0 x0 x1 x2 x3 x4 x5 x6 x7 x8 x9 x10 x11 x12 = some r) : V.pleachref43_Parse.j1111111000101101 a0 x0 x1 x2 x3 x4 x5 x6 x7 x8 x9 x10 x11 x12 = some r :=
  App.to (App.same (fun v => F.pleachref43_Parse.j1111111000101101.eq (v 0) (v 1) a0 x0 x1 x2 x3 x4 x5 x6 x7 x8 x9 x10 x11 x12) (by unfold F.pleachref43_Parse.j1111111000101101.B; repeat' first | apply App.guard | apply App.cond | exact App.lim | exact App.val | exact App.no | apply App.meet | apply App.ite | refine App.bind ?_ fun _ => ?_)) h
theorem V.pleachref43_Parse.j111111100010111.of a0 x0 x1 x2 x3 x4 x5 x6 x7 x8 x9 x10 x11 {r} (h : F.pleachref43_Parse.j111111100010111.B V.pleachref43_Parse.l111111100010111010 a0 x0 x1 x2 x3 x4 x5 x6 x7 x8 x9 x10 x11 = some r) : V.pleachref43_Parse.j111111100010111 a0 x0 x1 x2 x3 x4 x5 x6 x7 x8 x9 x10 x11 = some r :=
  App.to (App.same (fun v => F.pleachref43_Parse.j111111100010111.eq (v 0) (v 1) a0 x0 x1 x2 x3 x4 x5 x6 x7 x8 x9 x10 x11) (by unfold F.pleachref43_Parse.j111111100010111.B; repeat' first | apply App.guard | apply App.cond | exact App.lim | exact (App.enter 2 App.lim) | exact App.val | exact App.no | apply App.meet | apply App.ite | refine App.bind ?_ fun _ => ?_)) h
theorem V.pleachref43_Parse.l111111100010111010.of a0 x0 x1 x2 x3 x4 x5 x6 x7 x8 x9 x10 x11 x12 x13 x14 x15 x16 x17 x18 x19 {r} (h : F.pleachref43_Parse.l111111100010111010.B V.pleachref43_opPut V.pleachref43_Parse.l111111100010111010 V.pleachref43_Parse.l111111100 a0 x0 x1 x2 x3 x4 x5 x6 x7 x8 x9 x10 x11 x12 x13 x14 x15 x16 x17 x18 x19 = some r) : V.pleachref43_Parse.l111111100010111010 a0 x0 x1 x2 x3 x4 x5 x6 x7 x8 x9 x10 x11 x12 x13 x14 x15 x16 x17 x18 x19 = some r :=
  App.to (App.step 2 (fun v => F.pleachref43_Parse.l111111100010111010.eq (v 0) (v 1) (v 2) a0 x0 x1 x2 x3 x4 x5 x6 x7 x8 x9 x10 x11 x12 x13 x14 x15 x16 x17 x18 x19) (by unfold F.pleachref43_Parse.l111111100010111010.B; repeat' first | apply App.guard | apply App.cond | exact App.lim | exact App.val | exact App.no | apply App.meet | apply App.ite | refine App.bind ?_ fun _ => ?_)) h
theorem V.pleachref43_Parse.of a0 {r} (h : F.pleachref43_Parse.B V.pleachref43_split V.pleachref43_words V.pleachref43_place V.pleachref43_Parse.j111 a0 = some r) : V.pleachref43_Parse a0 = some r :=
  App.to (App.step 0 (fun v => F.pleachref43_Parse.eq (v 0) a0) (by unfold F.pleachref43_Parse.B; repeat' first | apply App.guard | apply App.cond | exact App.lim | exact App.val | exact App.no | apply App.meet | apply App.ite | refine App.bind ?_ fun _ => ?_)) h
noncomputable def F.pleachref43_Same (K : Nat) (a0 : TCall) (a1 : TCall) : Option (Bool) := evFn Tryz.prog sg K 15 [.agg [.val (.int .i64 a0.1), .val (.string a0.2.1), .val (.string a0.2.2.1), .val (.string a0.2.2.2.1), .val (.string a0.2.2.2.2.1), .list sOp a0.2.2.2.2.2.1 false, .val (.string a0.2.2.2.2.2.2.1), .val (.string a0.2.2.2.2.2.2.2)], .agg [.val (.int .i64 a1.1), .val (.string a1.2.1), .val (.string a1.2.2.1), .val (.string a1.2.2.2.1), .val (.string a1.2.2.2.2.1), .list sOp a1.2.2.2.2.2.1 false, .val (.string a1.2.2.2.2.2.2.1), .val (.string a1.2.2.2.2.2.2.2)]] []
noncomputable def F.pleachref43_Same.at (K : Nat) (p ns : List Nat) (s : St) : Option (Bool) := atFn Tryz.prog sg K 15 0 p ns s
noncomputable def F.pleachref43_Same.in (K : Nat) (H : List Nat → List Nat → St → Option (Bool)) (p ns : List Nat) (s : St) : Option (Bool) := inFn Tryz.prog sg K 15 0 [] H p ns s
theorem F.pleachref43_Same.in_eq K p ns s : F.pleachref43_Same.at K p ns s = F.pleachref43_Same.in K (F.pleachref43_Same.at K) p ns s := atFn_eq (P := Tryz.prog) (sg := sg) (K := K) (f := 15) (m := 0) [] p ns s
theorem F.pleachref43_Same.in_main K a0 a1 : F.pleachref43_Same (K + 1) a0 a1 = F.pleachref43_Same.in K (F.pleachref43_Same.at K) [] [] ⟨slots [.agg [.val (.int .i64 a0.1), .val (.string a0.2.1), .val (.string a0.2.2.1), .val (.string a0.2.2.2.1), .val (.string a0.2.2.2.2.1), .list sOp a0.2.2.2.2.2.1 false, .val (.string a0.2.2.2.2.2.2.1), .val (.string a0.2.2.2.2.2.2.2)], .agg [.val (.int .i64 a1.1), .val (.string a1.2.1), .val (.string a1.2.2.1), .val (.string a1.2.2.2.1), .val (.string a1.2.2.2.2.1), .list sOp a1.2.2.2.2.2.1 false, .val (.string a1.2.2.2.2.2.2.1), .val (.string a1.2.2.2.2.2.2.2)]] 0, []⟩ := evFn_eq (P := Tryz.prog) (sg := sg) (K := K) (f := 15) (args := [.agg [.val (.int .i64 a0.1), .val (.string a0.2.1), .val (.string a0.2.2.1), .val (.string a0.2.2.2.1), .val (.string a0.2.2.2.2.1), .list sOp a0.2.2.2.2.2.1 false, .val (.string a0.2.2.2.2.2.2.1), .val (.string a0.2.2.2.2.2.2.2)], .agg [.val (.int .i64 a1.1), .val (.string a1.2.1), .val (.string a1.2.2.1), .val (.string a1.2.2.2.1), .val (.string a1.2.2.2.2.1), .list sOp a1.2.2.2.2.2.1 false, .val (.string a1.2.2.2.2.2.2.1), .val (.string a1.2.2.2.2.2.2.2)]]) (σ := []) [] (by kernel_rfl)
def F.pleachref43_Same.l11010.st (a0 : TCall) (a1 : TCall) (x0 : Int) : St := ⟨[(2, .one (.sc (.ref 0 0))), (3, .one (.sc (.ref 1 0))), (64, vI (a0.2.2.2.2.2.1.length : Int)), (65, vI x0)], [.cells 24 [.val (.int .i64 a0.1), .val (.string a0.2.1), .val (.string a0.2.2.1), .val (.string a0.2.2.2.1), .val (.string a0.2.2.2.2.1), .list sOp a0.2.2.2.2.2.1 false, .val (.string a0.2.2.2.2.2.2.1), .val (.string a0.2.2.2.2.2.2.2)], .cells 24 [.val (.int .i64 a1.1), .val (.string a1.2.1), .val (.string a1.2.2.1), .val (.string a1.2.2.2.1), .val (.string a1.2.2.2.2.1), .list sOp a1.2.2.2.2.2.1 false, .val (.string a1.2.2.2.2.2.2.1), .val (.string a1.2.2.2.2.2.2.2)]]⟩
noncomputable def F.pleachref43_Same.l11010 (K n0 : Nat) (a0 : TCall) (a1 : TCall) (x0 : Int) := F.pleachref43_Same.at K [1, 1, 0, 1, 0] [n0] (F.pleachref43_Same.l11010.st a0 a1 x0)
noncomputable def F.pleachref43_Same.l11010.B (c0 : (TCall) → (TCall) → (Int) → Option (Bool)) (a0 : TCall) (a1 : TCall) (x0 : Int) : Option (Bool) :=
    (bif (decide (x0 < (a0.2.2.2.2.2.1.length : Int))) then (guardK (decide (0 ≤ x0) && decide (x0 < (a0.2.2.2.2.2.1.length : Int))) (guardK (decide (0 ≤ x0) && decide (x0 < (a1.2.2.2.2.2.1.length : Int))) (bif (!(((rd sOp a0.2.2.2.2.2.1 x0.toNat).1 == (rd sOp a1.2.2.2.2.2.1 x0.toNat).1) && ((strEq (((rd sOp a0.2.2.2.2.2.1 x0.toNat).2).1) (((rd sOp a1.2.2.2.2.2.1 x0.toNat).2).1)) && ((strEq ((((rd sOp a0.2.2.2.2.2.1 x0.toNat).2).2).1) ((((rd sOp a1.2.2.2.2.2.1 x0.toNat).2).2).1)) && ((strEq (((((rd sOp a0.2.2.2.2.2.1 x0.toNat).2).2).2).1) (((((rd sOp a1.2.2.2.2.2.1 x0.toNat).2).2).2).1)) && ((strEq ((((((rd sOp a0.2.2.2.2.2.1 x0.toNat).2).2).2).2).1) ((((((rd sOp a1.2.2.2.2.2.1 x0.toNat).2).2).2).2).1)) && (((((((((rd sOp a0.2.2.2.2.2.1 x0.toNat).2).2).2).2).2).1 == ((((((rd sOp a1.2.2.2.2.2.1 x0.toNat).2).2).2).2).2).1) && (((((((((rd sOp a0.2.2.2.2.2.1 x0.toNat).2).2).2).2).2).2).1 == (((((((rd sOp a1.2.2.2.2.2.1 x0.toNat).2).2).2).2).2).2).1) && ((strEq ((((((((rd sOp a0.2.2.2.2.2.1 x0.toNat).2).2).2).2).2).2).2) ((((((((rd sOp a1.2.2.2.2.2.1 x0.toNat).2).2).2).2).2).2).2)) && true))) && true))))))) then (some false) else (c0 a0 a1 (w64 (x0 + 1)))))) else (some true))
theorem F.pleachref43_Same.l11010.eq K n0 a0 a1 x0 : F.pleachref43_Same.l11010 K (n0 + 1) a0 a1 x0 = F.pleachref43_Same.l11010.B (F.pleachref43_Same.l11010 K n0) a0 a1 x0 := (F.pleachref43_Same.in_eq K [1, 1, 0, 1, 0] [n0 + 1] (F.pleachref43_Same.l11010.st a0 a1 x0)).trans ((show ∀ H, F.pleachref43_Same.in K H [1, 1, 0, 1, 0] [n0 + 1] (F.pleachref43_Same.l11010.st a0 a1 x0) = F.pleachref43_Same.l11010.B (fun a0 a1 x0 => H [1, 1, 0, 1, 0] [n0] (F.pleachref43_Same.l11010.st a0 a1 x0)) a0 a1 x0 from by intro H; kernel_rfl) (F.pleachref43_Same.at K))
noncomputable def F.pleachref43_Same.B (c0 : (TCall) → (TCall) → (Int) → Option (Bool)) (a0 : TCall) (a1 : TCall) : Option (Bool) :=
    (bif (a0.1 != a1.1) then (some false) else (bif (!strEq a0.2.1 a1.2.1) then (some false) else (bif (!strEq a0.2.2.1 a1.2.2.1) then (some false) else (bif (!strEq a0.2.2.2.1 a1.2.2.2.1) then (some false) else (bif (!strEq a0.2.2.2.2.1 a1.2.2.2.2.1) then (some false) else (bif (!strEq a0.2.2.2.2.2.2.1 a1.2.2.2.2.2.2.1) then (some false) else (bif (!strEq a0.2.2.2.2.2.2.2 a1.2.2.2.2.2.2.2) then (some false) else (bif ((a0.2.2.2.2.2.1.length : Int) != (a1.2.2.2.2.2.1.length : Int)) then (some false) else (c0 a0 a1 0)))))))))
theorem F.pleachref43_Same.eq K a0 a1 : F.pleachref43_Same (K + 1) a0 a1 = F.pleachref43_Same.B (F.pleachref43_Same.l11010 K K) a0 a1 := (F.pleachref43_Same.in_main K a0 a1).trans ((show ∀ H, F.pleachref43_Same.in K H [] [] ⟨slots [.agg [.val (.int .i64 a0.1), .val (.string a0.2.1), .val (.string a0.2.2.1), .val (.string a0.2.2.2.1), .val (.string a0.2.2.2.2.1), .list sOp a0.2.2.2.2.2.1 false, .val (.string a0.2.2.2.2.2.2.1), .val (.string a0.2.2.2.2.2.2.2)], .agg [.val (.int .i64 a1.1), .val (.string a1.2.1), .val (.string a1.2.2.1), .val (.string a1.2.2.2.1), .val (.string a1.2.2.2.2.1), .list sOp a1.2.2.2.2.2.1 false, .val (.string a1.2.2.2.2.2.2.1), .val (.string a1.2.2.2.2.2.2.2)]] 0, []⟩ = F.pleachref43_Same.B (fun a0 a1 x0 => H [1, 1, 0, 1, 0] [K] (F.pleachref43_Same.l11010.st a0 a1 x0)) a0 a1 from by intro H; kernel_rfl) (F.pleachref43_Same.at K))
noncomputable def V.pleachref43_Same.l11010 (a0 : TCall) (a1 : TCall) (x0 : Int) := lim fun v => F.pleachref43_Same.l11010 (v 0) (v 1) a0 a1 x0
noncomputable def V.pleachref43_Same (a0 : TCall) (a1 : TCall) := lim fun v => F.pleachref43_Same (v 0) a0 a1
theorem V.pleachref43_Same.l11010.of a0 a1 x0 {r} (h : F.pleachref43_Same.l11010.B V.pleachref43_Same.l11010 a0 a1 x0 = some r) : V.pleachref43_Same.l11010 a0 a1 x0 = some r :=
  App.to (App.step 1 (fun v => F.pleachref43_Same.l11010.eq (v 0) (v 1) a0 a1 x0) (by unfold F.pleachref43_Same.l11010.B; repeat' first | apply App.guard | apply App.cond | exact App.lim | exact App.val | exact App.no | apply App.meet | apply App.ite | refine App.bind ?_ fun _ => ?_)) h
theorem V.pleachref43_Same.of a0 a1 {r} (h : F.pleachref43_Same.B V.pleachref43_Same.l11010 a0 a1 = some r) : V.pleachref43_Same a0 a1 = some r :=
  App.to (App.step 0 (fun v => F.pleachref43_Same.eq (v 0) a0 a1) (by unfold F.pleachref43_Same.B; repeat' first | apply App.guard | apply App.cond | exact App.lim | exact (App.enter 1 App.lim) | exact App.val | exact App.no | apply App.meet | apply App.ite | refine App.bind ?_ fun _ => ?_)) h
noncomputable def F.pleachlaw43_LineParses (K : Nat) (a0 : ByteArray) : Option (Bool) := evFn Tryz.prog sg K 4 [.sc (.val (.string a0))] []
noncomputable def F.pleachlaw43_LineParses.B (c0 : Option (Bool)) (c1 : (ByteArray) → Option (TCall × Int)) (c2 : (ByteArray) → Option (TCall × Bool)) (c3 : (TCall) → (TCall) → Option (Bool)) (a0 : ByteArray) : Option (Bool) :=
    (bif (decide ((a0.size : Int) > 2000)) then ((c0).bind fun t0 => (some t0)) else ((c1 a0).bind fun t1 => ((c2 a0).bind fun t2 => ((c3 (t1.1.1, t1.1.2.1, t1.1.2.2.1, t1.1.2.2.2.1, t1.1.2.2.2.2.1, t1.1.2.2.2.2.2.1, t1.1.2.2.2.2.2.2.1, t1.1.2.2.2.2.2.2.2) (t2.1.1, t2.1.2.1, t2.1.2.2.1, t2.1.2.2.2.1, t2.1.2.2.2.2.1, t2.1.2.2.2.2.2.1, t2.1.2.2.2.2.2.2.1, t2.1.2.2.2.2.2.2.2)).bind fun t3 => (bif t3 then (bif ((t1.2 == 0) == t2.2) then (bif t2.2 then ((c0).bind fun t4 => (some t4)) else (bif (t1.2 == 17) then ((c0).bind fun t5 => (some t5)) else (some false))) else (some false)) else (some false))))))
theorem F.pleachlaw43_LineParses.eq K a0 : F.pleachlaw43_LineParses (K + 1) a0 = F.pleachlaw43_LineParses.B (F.pleachlaw43_awake K) (F.line_Parse K) (F.pleachref43_Parse K) (F.pleachref43_Same K) a0 := by kernel_rfl
noncomputable def V.pleachlaw43_LineParses (a0 : ByteArray) := lim fun v => F.pleachlaw43_LineParses (v 0) a0
theorem V.pleachlaw43_LineParses.of a0 {r} (h : F.pleachlaw43_LineParses.B V.pleachlaw43_awake V.line_Parse V.pleachref43_Parse V.pleachref43_Same a0 = some r) : V.pleachlaw43_LineParses a0 = some r :=
  App.to (App.step 0 (fun v => F.pleachlaw43_LineParses.eq (v 0) a0) (by unfold F.pleachlaw43_LineParses.B; repeat' first | apply App.guard | apply App.cond | exact App.lim | exact App.val | exact App.no | apply App.meet | apply App.ite | refine App.bind ?_ fun _ => ?_)) h

end Go.Proofs.YthbaafcoidjflaaGreatDoor.AE
end
section
set_option linter.unusedVariables false
set_option linter.unusedSimpArgs false
namespace Go.Proofs.YthbaafcoidjflaaGreatDoor.AE
open Go

theorem w64_id {x : Int} (h0 : -9223372036854775808 ≤ x) (h1 : x ≤ 9223372036854775807) : w64 x = x := by
  show IntKind.i64.wrap x = x
  simp [IntKind.wrap, IntKind.bits, IntKind.signed]
  omega
theorem u64_id {x : Int} (h0 : 0 ≤ x) (h1 : x ≤ 18446744073709551615) : IntKind.wrap .u64 x = x := by
  have : IntKind.u64.wrap x = x % 18446744073709551616 := by simp [IntKind.wrap, IntKind.bits, IntKind.signed]
  rw [this]; omega
theorem w64_up {i n : Nat} (h : i < n) (hn : n ≤ 140737488351232) : w64 ((i : Int) + 1) = ((i + 1 : Nat) : Int) := by rw [w64_id (by omega) (by omega)]; omega
theorem guard_tt {α : Type} (a : Option α) : guardK true a = a := rfl
theorem guard_of {α : Type} {g : Bool} {a : Option α} (h : g = true) : guardK g a = a := by rw [h]; rfl
theorem guard_dec {α : Type} {p : Prop} [Decidable p] {a : Option α} (h : p) : guardK (decide p) a = a := guard_of (decide_eq_true h)
/-- Inside a row. -/
theorem guard_in {α : Type} {i n : Nat} {a : Option α} (h : i < n) : guardK (decide (0 ≤ (i : Int)) && decide ((i : Int) < (n : Int))) a = a := guard_of (by simp [h])
theorem if_in {α : Type} {i n : Nat} {a b : α} (h : i < n) : (bif decide ((i : Int) < (n : Int)) then a else b) = a := by simp [h]
theorem if_out {α : Type} {i n : Nat} {a b : α} (h : n ≤ i) : (bif decide ((i : Int) < (n : Int)) then a else b) = b := by simp [Nat.not_lt.2 h]
theorem if_yes {α : Type} {p : Prop} [Decidable p] {a b : α} (h : p) : (bif decide p then a else b) = a := by simp [h]
theorem if_no {α : Type} {p : Prop} [Decidable p] {a b : α} (h : ¬ p) : (bif decide p then a else b) = b := by simp [h]
theorem nat_cast (i : Nat) : ((i : Nat) : Int).toNat = i := rfl
theorem meet_self {α : Type} {inst : DecidableEq α} (a : Option α) : meet a a = a := by unfold meet; simp
theorem data_len (s : ByteArray) : s.data.toList.length = s.size := by rw [Array.length_toList]; rfl
theorem toList_size (s : ByteArray) : s.toList.length = s.size := by rw [ByteArray.toList_eq]; exact data_len s
theorem toList_nil {s : ByteArray} : s.toList = [] ↔ s.size = 0 := by
  rw [← toList_size, List.length_eq_zero_iff]
theorem bytes_ext {s t : ByteArray} (h : s.toList = t.toList) : s = t := by
  rw [ByteArray.toList_eq, ByteArray.toList_eq] at h
  have : s.data = t.data := by rwa [← Array.toList_inj]
  cases s; cases t; simp_all
theorem strEq_iff {s t : ByteArray} : strEq s t = true ↔ s = t := by
  unfold strEq
  rw [beq_iff_eq]
  exact ⟨bytes_ext, fun h => by rw [h]⟩
theorem strEq_self (s : ByteArray) : strEq s s = true := strEq_iff.2 rfl
theorem strEq_no {s t : ByteArray} (h : s ≠ t) : strEq s t = false := by
  cases hb : strEq s t with
  | false => rfl
  | true => exact absurd (strEq_iff.1 hb) h
theorem strEq_dec (s t : ByteArray) : strEq s t = decide (s = t) := by
  by_cases h : s = t
  · rw [h, strEq_self]; simp
  · rw [strEq_no h]; simp [h]
/-! ### The order of texts -/

theorem less_leq : ∀ x y : List UInt8, (Op.bytesLess x y || x == y) = !(Op.bytesLess y x)
  | [], [] => by simp [Op.bytesLess]
  | [], b :: y => by simp [Op.bytesLess]
  | a :: x, [] => by simp [Op.bytesLess]
  | a :: x, b :: y => by
    have ih := less_leq x y
    by_cases h1 : a < b
    · have h2 : ¬ b < a := by simp only [UInt8.lt_iff_toNat_lt] at *; omega
      have h3 : ¬ b = a := by rintro rfl; simp at h1
      simp [Op.bytesLess, h1, h2, h3]
    · by_cases h2 : b < a
      · have h3 : ¬ b = a := by rintro rfl; simp at h2
        have h4 : ¬ a = b := fun h => h3 h.symm
        simp [Op.bytesLess, h1, h2, h4]
      · have h3 : a = b := by
          apply UInt8.toNat_inj.1
          simp only [UInt8.lt_iff_toNat_lt] at *
          omega
        subst h3
        simp [Op.bytesLess, h1] at ih ⊢
        exact ih
theorem less_irr : ∀ x : List UInt8, Op.bytesLess x x = false
  | [] => rfl
  | a :: x => by
    have : ¬ a < a := by simp
    simp [Op.bytesLess, less_irr x, this]
theorem less_trans : ∀ x y z : List UInt8, Op.bytesLess x y = true → Op.bytesLess y z = true → Op.bytesLess x z = true
  | _, [], _, h, _ => by simp [Op.bytesLess] at h
  | _, _ :: _, [], _, h => by simp [Op.bytesLess] at h
  | [], b :: y, c :: z, _, _ => rfl
  | a :: x, b :: y, c :: z, h1, h2 => by
    simp only [Op.bytesLess, Bool.or_eq_true, Bool.and_eq_true, decide_eq_true_eq, beq_iff_eq] at h1 h2 ⊢
    rcases h1 with h1 | ⟨rfl, h1⟩
    · rcases h2 with h2 | ⟨rfl, h2⟩
      · left; simp only [UInt8.lt_iff_toNat_lt] at *; omega
      · exact .inl h1
    · rcases h2 with h2 | ⟨rfl, h2⟩
      · exact .inl h2
      · exact .inr ⟨rfl, less_trans x y z h1 h2⟩
/-- Of two texts one is less, or they are the same. -/
theorem lt_or (a b : ByteArray) : (strLt a b || strEq a b) = !strLt b a := less_leq a.toList b.toList
theorem lt_irr (a : ByteArray) : strLt a a = false := less_irr a.toList
theorem lt_trans {a b c : ByteArray} (h : strLt a b = true) (g : strLt b c = true) : strLt a c = true := less_trans _ _ _ h g
theorem lt_total {a b : ByteArray} (h : strLt a b = false) (hn : a ≠ b) : strLt b a = true := by
  have := lt_or a b
  rw [h, strEq_no hn] at this
  cases hb : strLt b a with
  | true => rfl
  | false => rw [hb] at this; simp at this
theorem size_zero {s : ByteArray} (h : s.size = 0) : s = (⟨#[]⟩ : ByteArray) := by
  apply bytes_ext
  rw [toList_nil.2 h]
  exact (toList_nil.2 rfl).symm
theorem strEq_nil (s : ByteArray) : strEq s (⟨#[]⟩ : ByteArray) = (s.size == 0) := by
  rw [Bool.eq_iff_iff, strEq_iff]
  simp only [beq_iff_eq]
  exact ⟨fun h => by rw [h]; rfl, size_zero⟩
theorem strOfNums_size (xs : List Int) : (bytesOf xs).size = xs.length := by unfold bytesOf; simp [ByteArray.size]
theorem strOfNums_append (xs ys : List Int) : bytesOf (xs ++ ys) = bytesOf xs ++ bytesOf ys := by
  apply ByteArray.ext
  simp [bytesOf]
theorem bt_data (s : ByteArray) (i : Nat) (h : i < s.size) : byteAt s (i : Int) = ((s.data.toList[i]'(by rw [Array.length_toList]; exact h)).toNat : Int) := by
  show (((s.data.toList.getD (i : Int).toNat 0).toNat : Nat) : Int) = _
  rw [nat_cast, List.getD_eq_getElem?_getD, List.getElem?_eq_getElem (by rw [data_len]; exact h)]
  rfl
theorem extract_size (s : ByteArray) (a b : Nat) : (s.extract a b).size ≤ s.size := by
  rw [ByteArray.size_extract]; omega

theorem rd_get {e : Sh} {l : List (den e)} {i : Nat} (h : i < l.length) : rd e l i = l[i] := by
  simp [rd, List.getD_eq_getElem?_getD, List.getElem?_eq_getElem h]
theorem rd_mem {e : Sh} {l : List (den e)} {i : Nat} (h : i < l.length) : rd e l i ∈ l := by rw [rd_get h]; exact List.getElem_mem h
theorem drop_rd {e : Sh} {l : List (den e)} {i : Nat} (h : i < l.length) : l.drop i = rd e l i :: l.drop (i + 1) := by rw [rd_get h]; exact List.drop_eq_getElem_cons h
/-- A loop that ends at the first place at which the step tells something; else what is told at the end. -/
def scanG {α : Type} (step : Nat → Option α) (fin : α) : Nat → Nat → α
  | 0, _ => fin
  | d + 1, i => match step i with
    | some r => r
    | none => scanG step fin d (i + 1)
abbrev scanI (step : Nat → Option Int) : Nat → Nat → Int := scanG step 0
theorem scanG_succ {α : Type} (step : Nat → Option α) (fin : α) (d i : Nat) : scanG step fin (d + 1) i = (step i).getD (scanG step fin d (i + 1)) := by
  show (match step i with | some r => r | none => scanG step fin d (i + 1)) = _
  cases step i <;> rfl
theorem scanI_succ (step : Nat → Option Int) (d i : Nat) : scanI step (d + 1) i = (step i).getD (scanI step d (i + 1)) := scanG_succ step 0 d i
end Go.Proofs.YthbaafcoidjflaaGreatDoor.AE
end
section
set_option linter.unusedVariables false
set_option linter.unusedSimpArgs false
namespace Go.Proofs.YthbaafcoidjflaaGreatDoor.AE
open Go

def okc (c : Int) : Bool := (decide (97 ≤ c) && decide (c ≤ 122)) || (decide (48 ≤ c) && decide (c ≤ 57)) || c == 45
theorem name_fits_ok (c : Int) : V.name_fits c = some (okc c) := by
  refine V.name_fits.of _ ?_
  unfold F.name_fits.B okc
  by_cases a1 : c ≥ 97 <;> by_cases a2 : c ≤ 122 <;> by_cases a3 : c ≥ 48 <;> by_cases a4 : c ≤ 57 <;> simp [Bool.cond_eq_ite, a1, a2, a3, a4] <;> omega
/-- From place i on, d bytes, all fit. -/
def okFrom (s : ByteArray) : Nat → Nat → Bool
  | 0, _ => true
  | d + 1, i => okc (byteAt s i) && okFrom s d (i + 1)
def nameB (s : ByteArray) : Bool := decide (1 ≤ s.size) && decide (s.size ≤ 12) && okFrom s s.size 0

theorem name_Check_l (s : ByteArray) (hs : s.size ≤ 140737488351232) : ∀ d i : Nat, i + d = s.size → V.name_Check.l11010 s (i : Int) = some (if okFrom s d i then 0 else 2)
  | 0, i, h => by
    refine V.name_Check.l11010.of _ _ ?_
    unfold F.name_Check.l11010.B
    rw [if_out (by omega)]
    simp [okFrom]
  | d + 1, i, h => by
    refine V.name_Check.l11010.of _ _ ?_
    unfold F.name_Check.l11010.B
    rw [if_in (by omega), guard_in (by omega), name_fits_ok, Option.bind_some, w64_up (show i < s.size by omega) hs, name_Check_l s hs d (i + 1) (by omega)]
    cases hc : okc (byteAt s (i : Int)) <;> simp [okFrom, hc]
theorem name_Check_ok (s : ByteArray) (hs : s.size ≤ 140737488351232) : V.name_Check s = some (if nameB s then 0 else 2) := by
  refine V.name_Check.of _ ?_
  unfold F.name_Check.B
  rw [strEq_nil]
  have := name_Check_l s hs s.size 0 (by omega)
  rw [show (0 : Int) = ((0 : Nat) : Int) from rfl, this]
  by_cases h0 : s.size = 0
  · simp [Bool.cond_eq_ite, h0, nameB]
  · by_cases h2 : s.size ≤ 12
    · have h1 : 1 ≤ s.size := by omega
      have h3 : ¬ (s.size : Int) > 12 := by omega
      simp [Bool.cond_eq_ite, h0, h1, h2, h3, nameB]
    · have h3 : (s.size : Int) > 12 := by omega
      simp [Bool.cond_eq_ite, h0, h2, h3, nameB]

theorem refIs_l (s : ByteArray) (hs : s.size ≤ 140737488351232) : ∀ d i : Nat, i + d = s.size → V.pleachref05_Is.l1010 s (i : Int) = some (okFrom s d i && (decide (1 ≤ s.size) && decide (s.size ≤ 12)))
  | 0, i, h => by
    refine V.pleachref05_Is.l1010.of _ _ ?_
    unfold F.pleachref05_Is.l1010.B
    rw [if_out (by omega)]
    by_cases h1 : 1 ≤ s.size
    · have h2 : (s.size : Int) ≥ 1 := by omega
      simp [okFrom, h1, h2]
      omega
    · have h2 : ¬ (s.size : Int) ≥ 1 := by omega
      simp [okFrom, h1, h2]
  | d + 1, i, h => by
    refine V.pleachref05_Is.l1010.of _ _ ?_
    unfold F.pleachref05_Is.l1010.B
    rw [if_in (by omega)]
    simp only [guard_in (show i < s.size by omega), w64_up (show i < s.size by omega) hs, refIs_l s hs d (i + 1) (by omega), okFrom, okc]
    generalize byteAt s (i : Int) = c
    generalize okFrom s d (i + 1) = b
    by_cases a1 : c ≥ 97 <;> by_cases a2 : c ≤ 122 <;> by_cases a3 : c ≥ 48 <;> by_cases a4 : c ≤ 57 <;> by_cases a5 : c = 45 <;> simp [Bool.cond_eq_ite, a1, a2, a3, a4, a5] <;> omega
theorem refIs_ok (s : ByteArray) (hs : s.size ≤ 140737488351232) : V.pleachref05_Is s = some (nameB s) := by
  refine V.pleachref05_Is.of _ ?_
  unfold F.pleachref05_Is.B
  rw [show (0 : Int) = ((0 : Nat) : Int) from rfl, refIs_l s hs s.size 0 (by omega), nameB, Bool.and_comm]

def valueB (v : TValue) : Bool := (v.1 == 1 && (v.2.1 == 0 || v.2.1 == 1) && v.2.2.size == 0) || (v.1 == 2 && v.2.2.size == 0) || (v.1 == 3 && v.2.1 == 0 && decide (v.2.2.size ≤ 64))
theorem value_Check_ok (v : TValue) : V.value_Check v = some (if valueB v then 0 else 2) := by
  refine V.value_Check.of _ ?_
  obtain ⟨a, b, s⟩ := v
  unfold F.value_Check.B valueB
  simp only [strEq_nil]
  by_cases a1 : a = 1
  · subst a1
    by_cases b0 : b = 0 <;> by_cases b1 : b = 1 <;> by_cases s0 : s.size = 0 <;> simp [Bool.cond_eq_ite, b0, b1, s0]
  · by_cases a2 : a = 2
    · subst a2
      by_cases s0 : s.size = 0 <;> simp [Bool.cond_eq_ite, s0]
    · by_cases a3 : a = 3
      · subst a3
        by_cases b0 : b = 0 <;> by_cases s0 : s.size ≤ 64 <;> simp [Bool.cond_eq_ite, b0, s0] <;> omega
      · simp [Bool.cond_eq_ite, a1, a2, a3]
theorem refVIs_ok (v : TValue) : V.pleachref06_Is v = some (valueB v) := by
  refine V.pleachref06_Is.of _ ?_
  obtain ⟨a, b, s⟩ := v
  unfold F.pleachref06_Is.B valueB
  simp only [strEq_nil]
  by_cases a1 : a = 1
  · subst a1
    by_cases s0 : s.size = 0 <;> by_cases b0 : b ≥ 0 <;> by_cases b1 : b ≤ 1 <;> simp [Bool.cond_eq_ite, b0, b1, s0] <;> omega
  · by_cases a2 : a = 2
    · subst a2
      by_cases s0 : s.size = 0 <;> simp [Bool.cond_eq_ite, s0]
    · by_cases a3 : a = 3
      · subst a3
        by_cases b0 : b = 0 <;> by_cases s0 : s.size ≤ 64 <;> simp [Bool.cond_eq_ite, b0, s0] <;> omega
      · simp [Bool.cond_eq_ite, a1, a2, a3]

/-! ### Rows that rise -/

def propStep (l : List TProp) (i : Nat) : Option Int :=
  if (nameB (rd sProp l i).1 && valueB (rd sProp l i).2) = false then some 2
  else if 0 < i ∧ strLt (rd sProp l (i - 1)).1 (rd sProp l i).1 = false then some 4 else none
def textStep (l : List ByteArray) (i : Nat) : Option Int :=
  if nameB (rd .str l i) = false then some 2
  else if 0 < i ∧ strLt (rd .str l (i - 1)) (rd .str l i) = false then some 4 else none
def propsN (l : List TProp) : Int := if l.length > 8 then 5 else scanI (propStep l) l.length 0
def rowN (l : List ByteArray) : Int := scanI (textStep l) l.length 0
def restN (labels : List ByteArray) (props : List TProp) : Int := if labels.length > 8 then 5 else if rowN labels = 0 then propsN props else rowN labels

end Go.Proofs.YthbaafcoidjflaaGreatDoor.AE
end
section
set_option linter.unusedVariables false
set_option linter.unusedSimpArgs false
namespace Go.Proofs.YthbaafcoidjflaaGreatDoor.AE
open Go

end Go.Proofs.YthbaafcoidjflaaGreatDoor.AE
end
section
set_option linter.unusedVariables false
set_option linter.unusedSimpArgs false
set_option maxRecDepth 4000
namespace Go.Proofs.YthbaafcoidjflaaGreatDoor.AE
open Go

theorem bt_range (s : ByteArray) (i : Int) : 0 ≤ byteAt s i ∧ byteAt s i < 256 := by
  unfold byteAt
  have := UInt8.toNat_lt (s.data.toList.getD i.toNat 0)
  omega
/-! lists of bytes that are one number's -/
def isBytes (l : List Int) : Prop := ∀ x ∈ l, 0 ≤ x ∧ x < 256
/-- d bytes from place i on. -/
def bl (s : ByteArray) : Nat → Nat → List Int
  | 0, _ => []
  | d + 1, i => byteAt s (i : Int) :: bl s d (i + 1)
theorem bl_snoc (s : ByteArray) : ∀ d i, bl s (d + 1) i = bl s d i ++ [byteAt s ((i + d : Nat) : Int)]
  | 0, i => by simp [bl]
  | d + 1, i => by
    have := bl_snoc s d (i + 1)
    rw [bl, this, bl]
    simp
    congr 1
    omega
theorem bt_of (s : ByteArray) (i : Nat) (h : i < s.size) : UInt8.ofNat (byteAt s (i : Int)).toNat = s.data.toList[i]'(by rw [Array.length_toList]; exact h) := by
  rw [bt_data s i h, Int.toNat_natCast, UInt8.ofNat_toNat]
theorem bytesOf_bl (s : ByteArray) : ∀ d, d ≤ s.size → bytesOf (bl s d 0) = s.extract 0 d
  | 0, _ => by
    apply ByteArray.ext
    simp [bl, bytesOf]
  | d + 1, h => by
    have ih := bytesOf_bl s d (by omega)
    rw [bl_snoc, strOfNums_append, ih, Nat.zero_add]
    apply ByteArray.ext
    apply Array.ext'
    have hl : s.data.toList.length = s.size := by rw [Array.length_toList]; rfl
    simp only [bytesOf, ByteArray.data_append, ByteArray.data_extract, Array.toList_append, Array.toList_extract, List.map_cons, List.map_nil, List.extract_eq_take_drop, List.drop_zero, Nat.sub_zero]
    rw [List.take_succ_eq_append_getElem (by omega), bt_of s d (by omega)]
/-! the reference -/
/-! ### What stands where -/

theorem extract_toList (s : ByteArray) (a b : Nat) : (s.extract a b).data.toList = (s.data.toList.drop a).take (b - a) := by
  rw [ByteArray.data_extract, Array.toList_extract, List.extract_eq_take_drop]
end Go.Proofs.YthbaafcoidjflaaGreatDoor.AE
end
section
set_option linter.unusedVariables false
set_option linter.unusedSimpArgs false
set_option maxRecDepth 4000
namespace Go.Proofs.YthbaafcoidjflaaGreatDoor.AE
open Go

theorem w64_mod (x : Int) : w64 x = (x + 9223372036854775808) % 18446744073709551616 - 9223372036854775808 := by
  show IntKind.i64.wrap x = _
  rw [Go.IntKind.wrap_i64]
end Go.Proofs.YthbaafcoidjflaaGreatDoor.AE
end
section
set_option linter.unusedVariables false
set_option linter.unusedSimpArgs false
set_option maxRecDepth 4000
namespace Go.Proofs.YthbaafcoidjflaaGreatDoor.AE
open Go

theorem bne_ne {e : Int} (he : e ≠ 0) : (e != 0) = true := by simp [he]
end Go.Proofs.YthbaafcoidjflaaGreatDoor.AE
end
section
set_option linter.unusedVariables false
set_option linter.unusedSimpArgs false
namespace Go.Proofs.YthbaafcoidjflaaGreatDoor.AE
open Go

theorem scanI_zero {step : Nat → Option Int} (hs : ∀ i r, step i = some r → r ≠ 0) : ∀ d i, scanI step d i = 0 → ∀ j, i ≤ j → j < i + d → step j = none
  | 0, i, _, j, h1, h2 => by omega
  | d + 1, i, h, j, h1, h2 => by
    rw [scanI_succ] at h
    cases hq : step i with
    | some r => rw [hq] at h; exact absurd h (hs i r hq)
    | none =>
      rw [hq] at h
      by_cases hij : j = i
      · rw [hij]; exact hq
      · exact scanI_zero hs d (i + 1) h j (by omega) (by omega)
theorem propStep_ne (l : List TProp) (i : Nat) (r : Int) (h : propStep l i = some r) : r ≠ 0 := by
  unfold propStep at h
  split at h
  · injection h with h; omega
  · split at h
    · injection h with h; omega
    · cases h
theorem textStep_ne (l : List ByteArray) (i : Nat) (r : Int) (h : textStep l i = some r) : r ≠ 0 := by
  unfold textStep at h
  split at h
  · injection h with h; omega
  · split at h
    · injection h with h; omega
    · cases h
theorem nameB_size {s : ByteArray} (h : nameB s = true) : 1 ≤ s.size ∧ s.size ≤ 12 := by
  unfold nameB at h
  simp at h
  exact ⟨h.1.1, h.1.2⟩
theorem textStep_none {l : List ByteArray} {i : Nat} (h : textStep l i = none) : nameB (rd .str l i) = true ∧ (0 < i → strLt (rd .str l (i - 1)) (rd .str l i) = true) := by
  unfold textStep at h
  split at h
  · cases h
  · rename_i h1
    split at h
    · cases h
    · rename_i h2
      refine ⟨by simpa using h1, fun h0 => ?_⟩
      cases hq : strLt (rd .str l (i - 1)) (rd .str l i) with
      | true => rfl
      | false => exact absurd ⟨h0, hq⟩ h2
theorem propStep_none {l : List TProp} {i : Nat} (h : propStep l i = none) : nameB (rd sProp l i).1 = true ∧ valueB (rd sProp l i).2 = true ∧ (0 < i → strLt (rd sProp l (i - 1)).1 (rd sProp l i).1 = true) := by
  unfold propStep at h
  split at h
  · cases h
  · rename_i h1
    split at h
    · cases h
    · rename_i h2
      have h3 : nameB (rd sProp l i).1 = true ∧ valueB (rd sProp l i).2 = true := by simpa using h1
      refine ⟨h3.1, h3.2, fun h0 => ?_⟩
      cases hq : strLt (rd sProp l (i - 1)).1 (rd sProp l i).1 with
      | true => rfl
      | false => exact absurd ⟨h0, hq⟩ h2
/-- What a row of names, of properties that may be is. -/
theorem rowN_zero {l : List ByteArray} (h : rowN l = 0) {i : Nat} (hi : i < l.length) : nameB (rd .str l i) = true ∧ (0 < i → strLt (rd .str l (i - 1)) (rd .str l i) = true) :=
  textStep_none (scanI_zero (textStep_ne l) l.length 0 h i (by omega) (by omega))
theorem propsN_len {l : List TProp} (h : propsN l = 0) : l.length ≤ 8 := by
  unfold propsN at h
  split at h
  · omega
  · omega
theorem propsN_zero {l : List TProp} (h : propsN l = 0) {i : Nat} (hi : i < l.length) : nameB (rd sProp l i).1 = true ∧ valueB (rd sProp l i).2 = true ∧ (0 < i → strLt (rd sProp l (i - 1)).1 (rd sProp l i).1 = true) := by
  have h8 := propsN_len h
  unfold propsN at h
  rw [if_neg (by omega)] at h
  exact propStep_none (scanI_zero (propStep_ne l) l.length 0 h i (by omega) (by omega))
theorem restN_zero {a : List ByteArray} {l : List TProp} (h : restN a l = 0) : a.length ≤ 8 ∧ rowN a = 0 ∧ propsN l = 0 := by
  unfold restN at h
  split at h
  · omega
  · split at h
    · rename_i h1 h2
      exact ⟨by omega, h2, h⟩
    · rename_i h1 h2
      exact absurd h h2

/-- Labels and properties are as few and short as they may be. -/
structure Short (a : List ByteArray) (l : List TProp) : Prop where
  na : a.length ≤ 8
  nl : l.length ≤ 8
  ta : ∀ i, i < a.length → (rd .str a i).size ≤ 12
  tl : ∀ i, i < l.length → (rd sProp l i).1.size ≤ 12
theorem Short.of {a : List ByteArray} {l : List TProp} (h : restN a l = 0) : Short a l := by
  obtain ⟨h1, h2, h3⟩ := restN_zero h
  exact ⟨h1, propsN_len h3, fun i hi => (nameB_size (rowN_zero h2 hi).1).2, fun i hi => (nameB_size (propsN_zero h3 hi).1).2⟩
end Go.Proofs.YthbaafcoidjflaaGreatDoor.AE
end
section
set_option linter.unusedVariables false
set_option linter.unusedSimpArgs false
namespace Go.Proofs.YthbaafcoidjflaaGreatDoor.AE
open Go

theorem app_nil (s : ByteArray) : s ++ (⟨#[]⟩ : ByteArray) = s := by apply ByteArray.ext; simp
theorem nil_app (s : ByteArray) : (⟨#[]⟩ : ByteArray) ++ s = s := by apply ByteArray.ext; simp
/-! ### Nodes and edges -/

end Go.Proofs.YthbaafcoidjflaaGreatDoor.AE
end
section
set_option linter.unusedVariables false
set_option linter.unusedSimpArgs false
set_option maxRecDepth 4000
namespace Go.Proofs.YthbaafcoidjflaaGreatDoor.AE
open Go

/-! rows of texts, of properties -/
end Go.Proofs.YthbaafcoidjflaaGreatDoor.AE
end
section
set_option linter.unusedVariables false
set_option linter.unusedSimpArgs false
namespace Go.Proofs.YthbaafcoidjflaaGreatDoor.AE
open Go

abbrev hexD : ByteArray := ⟨#[48, 49, 50, 51, 52, 53, 54, 55, 56, 57, 97, 98, 99, 100, 101, 102]⟩
def hexL (s : ByteArray) : Nat → Nat → List Int
  | 0, _ => []
  | d + 1, i => byteAt hexD (byteAt s (i : Int) / 16) :: byteAt hexD (byteAt s (i : Int) % 16) :: hexL s d (i + 1)
def hexB (s : ByteArray) : ByteArray := bytesOf (hexL s s.size 0)
theorem hexL_len (s : ByteArray) : ∀ d i, (hexL s d i).length = 2 * d
  | 0, i => rfl
  | d + 1, i => by simp only [hexL, List.length_cons, hexL_len s d (i + 1)]; omega
theorem hexB_size (s : ByteArray) : (hexB s).size = 2 * s.size := by unfold hexB; rw [strOfNums_size, hexL_len]

theorem byte_fin {p : Int → Prop} (h : ∀ c : Fin 256, p (c.val : Int)) {c : Int} (h0 : 0 ≤ c) (h1 : c < 256) : p c := by
  obtain ⟨n, rfl⟩ := Int.eq_ofNat_of_zero_le h0
  exact h ⟨n, by omega⟩
theorem and15 {c : Int} (h0 : 0 ≤ c) (h1 : c < 256) : IntKind.wrap .u8 ((BitVec.ofInt 8 c &&& BitVec.ofInt 8 15).toNat : Int) = c % 16 :=
  byte_fin (p := fun c => IntKind.wrap .u8 ((BitVec.ofInt 8 c &&& BitVec.ofInt 8 15).toNat : Int) = c % 16) (by decide +kernel) h0 h1
theorem fdiv16 {c : Int} (h0 : 0 ≤ c) (h1 : c < 256) : Int.fdiv c (2 ^ 4) = c / 16 :=
  byte_fin (p := fun c => Int.fdiv c (2 ^ 4) = c / 16) (by decide +kernel) h0 h1
theorem tdiv16 {c : Int} (h0 : 0 ≤ c) (h1 : c < 256) : w64 (Int.tdiv (w64 c) 16) = c / 16 :=
  byte_fin (p := fun c => w64 (Int.tdiv (w64 c) 16) = c / 16) (by decide +kernel) h0 h1
theorem tmod16 {c : Int} (h0 : 0 ≤ c) (h1 : c < 256) : Int.tmod (w64 c) 16 = c % 16 :=
  byte_fin (p := fun c => Int.tmod (w64 c) 16 = c % 16) (by decide +kernel) h0 h1
theorem hexD_size : ((hexD.size : Nat) : Int) = 16 := rfl
theorem hexD_one {k : Nat} (h : k < 16) : hexD.extract k (k + 1) = bytesOf [byteAt hexD (k : Int)] := by
  have : ∀ k : Fin 16, (hexD.extract k.val (k.val + 1)).data = (bytesOf [byteAt hexD (k.val : Int)]).data := by decide +kernel
  exact ByteArray.ext (this ⟨k, h⟩)

theorem sha_Hex_l (s : ByteArray) (hs : s.size ≤ 1000000) : ∀ (d i : Nat) (x : List Int), i + d = s.size → x.length ≤ 2 * i → V.sha_Hex.l11010 s (i : Int) x = some (bytesOf (x ++ hexL s d i))
  | 0, i, x, h, hx => by
    apply V.sha_Hex.l11010.of; unfold F.sha_Hex.l11010.B
    rw [if_out (by omega)]
    simp [hexL]
  | d + 1, i, x, h, hx => by
    obtain ⟨b0, b1⟩ := bt_range s (i : Int)
    apply V.sha_Hex.l11010.of; unfold F.sha_Hex.l11010.B
    rw [if_in (by omega), guard_in (by omega), fdiv16 b0 b1, and15 b0 b1, hexD_size]
    rw [guard_of (by simp only [Bool.and_eq_true, decide_eq_true_eq]; omega), guard_in (by omega), guard_of (by simp only [Bool.and_eq_true, decide_eq_true_eq]; omega)]
    rw [guard_dec (by simp only [List.length_cons, List.length_nil, nmax]; omega), w64_up (n := s.size) (by omega) (by omega)]
    rw [sha_Hex_l s hs d (i + 1) _ (by omega) (by simp only [List.length_append, List.length_cons, List.length_nil]; omega)]
    simp only [hexL, List.append_assoc, List.cons_append, List.nil_append]
theorem sha_Hex_ok (s : ByteArray) (hs : s.size ≤ 1000000) : V.sha_Hex s = some (hexB s) := by
  apply V.sha_Hex.of; unfold F.sha_Hex.B
  rw [w64_id (by omega) (by omega), guard_of (by simp only [Bool.and_eq_true, decide_eq_true_eq]; omega)]
  have := sha_Hex_l s hs s.size 0 [] (by omega) (by simp)
  exact this

theorem bytes_two (a b : Int) : bytesOf [a] ++ bytesOf [b] = bytesOf [a, b] := by rw [← strOfNums_append]; rfl
theorem refHex_l (s : ByteArray) (hs : s.size ≤ 1000000) : ∀ (d i : Nat) (x : ByteArray), i + d = s.size → x.size ≤ 2 * i → V.pleachref03_Hex.l111010 s x (i : Int) = some (x ++ bytesOf (hexL s d i))
  | 0, i, x, h, hx => by
    apply V.pleachref03_Hex.l111010.of; unfold F.pleachref03_Hex.l111010.B
    rw [if_out (by omega)]
    simp only [hexL]
    exact congrArg some (app_nil x).symm
  | d + 1, i, x, h, hx => by
    obtain ⟨b0, b1⟩ := bt_range s (i : Int)
    obtain ⟨k, hk⟩ := Int.eq_ofNat_of_zero_le (show 0 ≤ byteAt s (i : Int) / 16 by omega)
    obtain ⟨m, hm⟩ := Int.eq_ofNat_of_zero_le (show 0 ≤ byteAt s (i : Int) % 16 by omega)
    apply V.pleachref03_Hex.l111010.of; unfold F.pleachref03_Hex.l111010.B
    rw [if_in (by omega), guard_in (by omega), guard_in (by omega), tdiv16 b0 b1, tmod16 b0 b1, hexD_size, hk, hm]
    have k16 : k < 16 := by omega
    have m16 : m < 16 := by omega
    rw [w64_up (n := 16) k16 (by omega), w64_up (n := 16) m16 (by omega)]
    simp only [Int.toNat_natCast]
    rw [guard_of (by simp only [Bool.and_eq_true, decide_eq_true_eq]; omega)]
    rw [guard_dec (by rw [hexD_one k16, strOfNums_size]; simp only [List.length_cons, List.length_nil, i64max]; omega)]
    rw [guard_of (by simp only [Bool.and_eq_true, decide_eq_true_eq]; omega)]
    rw [guard_dec (by rw [hexD_one k16, hexD_one m16, ByteArray.size_append, strOfNums_size, strOfNums_size]; simp only [List.length_cons, List.length_nil, i64max]; omega)]
    rw [hexD_one k16, hexD_one m16]
    rw [w64_up (n := s.size) (by omega) (by omega)]
    rw [refHex_l s hs d (i + 1) _ (by omega) (by rw [ByteArray.size_append, ByteArray.size_append, strOfNums_size, strOfNums_size]; simp only [List.length_cons, List.length_nil]; omega)]
    simp only [hexL, hk, hm]
    rw [show (byteAt hexD (k : Int) :: byteAt hexD (m : Int) :: hexL s d (i + 1)) = [byteAt hexD (k : Int), byteAt hexD (m : Int)] ++ hexL s d (i + 1) from rfl, strOfNums_append, ← bytes_two]
    simp only [ByteArray.append_assoc]
theorem refHex_ok (s : ByteArray) (hs : s.size ≤ 1000000) : V.pleachref03_Hex s = some (hexB s) := by
  apply V.pleachref03_Hex.of; unfold F.pleachref03_Hex.B
  have := refHex_l s hs s.size 0 ⟨#[]⟩ (by omega) (by simp [ByteArray.size])
  rw [nil_app] at this
  exact this

/-! ### Decimal digits -/
def dB (n : Nat) : ByteArray := ⟨(Lib.decDigits n).toArray⟩
def tensB (n : Nat) : ByteArray := if n = 0 then ⟨#[]⟩ else dB n
def oneB (n : Nat) : ByteArray := ⟨#[UInt8.ofNat (48 + n)]⟩
theorem tail_ok {n : Nat} (h : n < 10) : V.pleachref06_tail (n : Int) = some (oneB n) := by
  apply V.pleachref06_tail.of; unfold F.pleachref06_tail.B
  have : ∀ k : Fin 10, (bytesOf [IntKind.wrap .u8 (w64 (48 + (k.val : Int)))]).data = (oneB k.val).data := by decide +kernel
  exact congrArg some (ByteArray.ext (this ⟨n, h⟩))
theorem data_app (a b : List UInt8) : (⟨a.toArray⟩ : ByteArray) ++ ⟨b.toArray⟩ = ⟨(a ++ b).toArray⟩ := by apply ByteArray.ext; simp
theorem tens_one (n : Nat) : tensB (n / 10) ++ oneB (n % 10) = dB n := by
  unfold tensB dB oneB
  by_cases h : n < 10
  · rw [if_pos (by omega), Lib.decDigits_one h, Nat.mod_eq_of_lt h]
    exact nil_app _
  · rw [if_neg (by omega)]
    conv => rhs; rw [Lib.decDigits, dif_neg h]
    exact data_app _ _
theorem oneB_size (n : Nat) : (oneB n).size = 1 := rfl
theorem div10 (n : Nat) : Int.tdiv (n : Int) 10 = ((n / 10 : Nat) : Int) := by rw [Int.tdiv_eq_ediv_of_nonneg (by omega)]; omega
theorem mod10 (n : Nat) : Int.tmod (n : Int) 10 = ((n % 10 : Nat) : Int) := by rw [Int.tmod_eq_emod_of_nonneg (by omega)]; omega
theorem tens_l (a : Int) : ∀ (k n : Nat) (out : ByteArray), n < 10 ^ k → n < 18446744073709551616 → out.size + k ≤ 100 → V.pleachref06_tens.l1100 a (n : Int) out = some (tensB n ++ out)
  | k, 0, out, h, h64, hk => by
    apply V.pleachref06_tens.l1100.of; unfold F.pleachref06_tens.l1100.B
    rw [if_no (by omega)]
    exact congrArg some (nil_app out).symm
  | 0, n + 1, out, h, h64, hk => by simp at h
  | k + 1, n + 1, out, h, h64, hk => by
    have h' : (n + 1) / 10 < 10 ^ k := by rw [Nat.pow_succ] at h; omega
    apply V.pleachref06_tens.l1100.of; unfold F.pleachref06_tens.l1100.B
    rw [if_yes (by omega), mod10, w64_id (by omega) (by omega), tail_ok (by omega), Option.bind_some, guard_dec (by rw [oneB_size]; simp only [i64max]; omega), div10, u64_id (by omega) (by omega)]
    rw [tens_l a k ((n + 1) / 10) _ h' (by omega) (by rw [ByteArray.size_append, oneB_size]; omega), ← ByteArray.append_assoc, tens_one]
    rfl
theorem dB_size : ∀ (k n : Nat), n < 10 ^ (k + 1) → (dB n).size ≤ k + 1
  | 0, n, h => by
    unfold dB; rw [Lib.decDigits_one (by simpa using h)]; simp [ByteArray.size]
  | k + 1, n, h => by
    rw [← tens_one n, ByteArray.size_append, oneB_size]
    unfold tensB
    split
    · simp [ByteArray.size]
    · have := dB_size k (n / 10) (by rw [Nat.pow_succ] at h; omega)
      omega
theorem tensB_size {n : Nat} (h : n < 18446744073709551616) : (tensB n).size ≤ 20 := by
  unfold tensB
  split
  · simp [ByteArray.size]
  · have := dB_size 19 n (by omega)
    omega
theorem tens_ok {n : Nat} (h : n < 18446744073709551616) : V.pleachref06_tens (n : Int) = some (tensB n) := by
  apply V.pleachref06_tens.of; unfold F.pleachref06_tens.B
  rw [tens_l _ 20 n _ (by omega) h (by simp [ByteArray.size]), app_nil]

theorem itoaS_neg {n : Int} (h : n < 0) : itoaS n = (⟨#[45]⟩ : ByteArray) ++ dB n.natAbs := by
  unfold itoaS Lib.itoa dB
  rw [if_pos h]
  exact (data_app [45] _).symm
theorem itoaS_pos {n : Nat} : itoaS (n : Int) = dB n := by
  unfold itoaS Lib.itoa dB
  rw [if_neg (by omega)]; rfl
theorem Digits_ok {a : Int} (h0 : -9223372036854775808 ≤ a) (h1 : a ≤ 9223372036854775807) : V.pleachref06_Digits a = some (itoaS a) := by
  apply V.pleachref06_Digits.of; unfold F.pleachref06_Digits.B
  by_cases hn : a < 0
  · obtain ⟨m, hm⟩ := Int.eq_ofNat_of_zero_le (show 0 ≤ -(a + 1) by omega)
    have e1 : IntKind.wrap .u64 (w64 (0 - (w64 (a + 1)))) = (m : Int) := by
      rw [w64_id (x := a + 1) (by omega) (by omega), w64_id (by omega) (by omega), u64_id (by omega) (by omega)]; omega
    rw [if_yes hn, e1, mod10, div10, w64_id (x := ((m % 10 : Nat) : Int)) (by omega) (by omega), w64_id (by omega) (by omega), u64_id (x := ((m / 10 : Nat) : Int)) (by omega) (by omega), u64_id (by omega) (by omega)]
    rw [itoaS_neg hn, show a.natAbs = m + 1 by omega, ← tens_one (m + 1)]
    by_cases h9 : m % 10 = 9
    · have hc : ((((m % 10 : Nat) : Int) + 1) == 10) = true := by rw [h9]; rfl
      rw [hc, cond_true, show ((m / 10 : Nat) : Int) + 1 = (((m + 1) / 10 : Nat) : Int) by omega, tens_ok (by omega), Option.bind_some]
      have hz := tensB_size (n := (m + 1) / 10) (by omega)
      rw [guard_dec (by simp only [i64max]; show 1 + _ ≤ _; omega), show (0 : Int) = ((0 : Nat) : Int) from rfl, tail_ok (by omega), Option.bind_some, guard_dec (by rw [ByteArray.size_append, oneB_size]; simp only [i64max]; show 1 + _ + _ ≤ _; omega)]
      rw [show (m + 1) % 10 = 0 by omega, ByteArray.append_assoc]
    · have hc : ((((m % 10 : Nat) : Int) + 1) == 10) = false := by
        rw [beq_eq_false_iff_ne]; omega
      rw [hc, cond_false, show ((m / 10 : Nat) : Int) = (((m + 1) / 10 : Nat) : Int) by omega, tens_ok (by omega), Option.bind_some]
      have hz := tensB_size (n := (m + 1) / 10) (by omega)
      rw [guard_dec (by simp only [i64max]; show 1 + _ ≤ _; omega), show ((m % 10 : Nat) : Int) + 1 = (((m + 1) % 10 : Nat) : Int) by omega, tail_ok (by omega), Option.bind_some, guard_dec (by rw [ByteArray.size_append, oneB_size]; simp only [i64max]; show 1 + _ + _ ≤ _; omega)]
      rw [ByteArray.append_assoc]
  · obtain ⟨n, rfl⟩ := Int.eq_ofNat_of_zero_le (show 0 ≤ a by omega)
    rw [if_no hn, u64_id (x := (n : Int)) (by omega) (by omega), div10, u64_id (by omega) (by omega), mod10, tens_ok (by omega), Option.bind_some, tail_ok (by omega), Option.bind_some]
    have hz := tensB_size (n := n / 10) (by omega)
    rw [guard_dec (by rw [oneB_size]; simp only [i64max]; omega), tens_one, itoaS_pos]
theorem itoaS_size {a : Int} (h0 : -9223372036854775808 ≤ a) (h1 : a ≤ 9223372036854775807) : (itoaS a).size ≤ 21 := by
  by_cases hn : a < 0
  · rw [itoaS_neg hn, ByteArray.size_append]
    have := dB_size 19 a.natAbs (by omega)
    show 1 + _ ≤ _; omega
  · obtain ⟨n, rfl⟩ := Int.eq_ofNat_of_zero_le (show 0 ≤ a by omega)
    rw [itoaS_pos]
    have := dB_size 19 n (by omega)
    omega

/-! ### Plain texts -/
def badI (c : Int) : Bool := !(((((decide (c ≥ 97) && decide (c ≤ 122)) || (decide (c ≥ 65) && decide (c ≤ 90))) || (decide (c ≥ 48) && decide (c ≤ 57))) || c == 45) || c == 46 || c == 95)
def okF (s : ByteArray) : Nat → Nat → Bool
  | 0, _ => true
  | d + 1, i => bif badI (byteAt s (i : Int)) then false else okF s d (i + 1)
def plainB (s : ByteArray) : Bool := okF s s.size 0
theorem refPlain_l (s : ByteArray) (hs : s.size ≤ 140737488351232) : ∀ (d i : Nat), i + d = s.size → V.pleachref06_plain.l1010 s (i : Int) = some (okF s d i)
  | 0, i, h => by
    apply V.pleachref06_plain.l1010.of; unfold F.pleachref06_plain.l1010.B
    rw [if_out (by omega)]; rfl
  | d + 1, i, h => by
    apply V.pleachref06_plain.l1010.of; unfold F.pleachref06_plain.l1010.B
    rw [if_in (by omega), guard_in (by omega), w64_up (n := s.size) (by omega) (by omega), refPlain_l s hs d (i + 1) (by omega)]
    simp only [okF, badI, bne]
    generalize byteAt s (i : Int) = c
    generalize okF s d (i + 1) = r
    generalize decide (c ≥ 97) = p1
    generalize decide (c ≤ 122) = p2
    generalize decide (c ≥ 65) = p3
    generalize decide (c ≤ 90) = p4
    generalize decide (c ≥ 48) = p5
    generalize decide (c ≤ 57) = p6
    generalize (c == 45) = p7
    generalize (c == 46) = p8
    generalize (c == 95) = p9
    cases p1 <;> cases p2 <;> cases p3 <;> cases p4 <;> cases p5 <;> cases p6 <;> cases p7 <;> cases p8 <;> cases p9 <;> rfl
theorem refPlain_ok (s : ByteArray) (hs : s.size ≤ 140737488351232) : V.pleachref06_plain s = some (plainB s) := by
  apply V.pleachref06_plain.of; unfold F.pleachref06_plain.B
  exact refPlain_l s hs s.size 0 (by omega)

theorem decode_low {s : ByteArray} {i : Nat} (h : (s.get! i).toNat < 128) : Utf8.decode s i = ((s.get! i).toNat, 1) := by
  unfold Utf8.decode
  simp only [Nat.add_zero]
  rw [if_pos h]
theorem decode_high {s : ByteArray} {i : Nat} (h : 128 ≤ (s.get! i).toNat) : 128 ≤ (Utf8.decode s i).1 := by
  unfold Utf8.decode
  simp only [Nat.add_zero, Utf8.runeError]
  rw [if_neg (by omega)]
  repeat' split
  all_goals first | omega | (rename_i h1; simp only [Bool.and_eq_true, decide_eq_true_eq, ge_iff_le] at h1; omega) | (simp only [ge_iff_le] at *; omega)
theorem bt_get {s : ByteArray} {i : Nat} (h : i < s.size) : byteAt s (i : Int) = ((s.get! i).toNat : Int) := by
  rw [bt_data s i h]
  congr 1
  cases s with
  | mk a => 
    have h' : i < a.size := h
    simp [ByteArray.get!, getElem!_pos, h']
theorem badR_of (n : Nat) : badR n = badI (n : Int) := by
  unfold badR badI
  rw [Bool.eq_iff_iff]
  simp
  omega
theorem badR_high {n : Nat} (h : 128 ≤ n) : badR n = true := by
  unfold badR; simp; omega
theorem idx_plain (s : ByteArray) : ∀ (f d i : Nat), i + d = s.size → d ≤ f → decide (0 ≤ Lib.idxFuncFrom badR true s f i) = !(okF s d i)
  | f, 0, i, h, hf => by
    rw [Lib.idxFuncFrom_end _ _ _ _ _ (by omega)]; rfl
  | 0, d + 1, i, h, hf => by omega
  | f + 1, d + 1, i, h, hf => by
    have hi : i < s.size := by omega
    unfold Lib.idxFuncFrom
    rw [if_pos hi]
    simp only [okF]
    rw [bt_get hi, ← badR_of]
    by_cases hl : (s.get! i).toNat < 128
    · rw [decode_low hl]
      cases hb : badR (s.get! i).toNat
      · rw [if_neg (by simp [hb])]
        exact idx_plain s f d (i + 1) (by omega) (by omega)
      · simp
    · have h1 : badR (s.get! i).toNat = true := badR_high (by omega)
      have h2 : badR (Utf8.decode s i).1 = true := badR_high (decode_high (by omega))
      rw [h1, h2]; simp
theorem hasR_plain (s : ByteArray) : hasR badR s = !(plainB s) := by
  unfold hasR Lib.idxFunc plainB
  exact idx_plain s s.size s.size 0 (by omega) (Nat.le_refl _)
theorem plain_ok (s : ByteArray) : V.value_plain s = some (plainB s) := by
  apply V.value_plain.of; unfold F.value_plain.B
  rw [V.strings_ContainsFunc_by_value_plain_1.of s (r := hasR badR s) rfl, Option.bind_some, hasR_plain, Bool.not_not]

/-! ### A value's word -/
def showB (v : TValue) : ByteArray :=
  if valueB v then (if v.1 = 1 then (if v.2.1 = 1 then ⟨#[116, 114, 117, 101]⟩ else ⟨#[102, 97, 108, 115, 101]⟩) else if v.1 = 2 then itoaS v.2.1 else if plainB v.2.2 then (⟨#[39]⟩ : ByteArray) ++ v.2.2 else (⟨#[35]⟩ : ByteArray) ++ hexB v.2.2) else ⟨#[]⟩
theorem value_kind {v : TValue} (h : valueB v = true) : (v.1 = 1 ∨ v.1 = 2 ∨ v.1 = 3) ∧ v.2.2.size ≤ 64 := by
  unfold valueB at h
  simp only [Bool.or_eq_true, Bool.and_eq_true, beq_iff_eq, decide_eq_true_eq] at h
  omega
theorem one_app (c : UInt8) (s : ByteArray) : ((⟨#[c]⟩ : ByteArray) ++ s).size = 1 + s.size := by rw [ByteArray.size_append]; rfl
theorem Itoa_ok {a : Int} (h0 : -9223372036854775808 ≤ a) (h1 : a ≤ 9223372036854775807) : V.strconv_Itoa a = some (itoaS a) := by
  apply V.strconv_Itoa.of
  show itoaB a = _
  unfold itoaB
  rw [itoaK_eq h0 h1]
  exact guard_of (by simp [h0, h1])
theorem value_Show_ok (v : TValue) (hb : -9223372036854775808 ≤ v.2.1 ∧ v.2.1 ≤ 9223372036854775807) : V.value_Show v = some (showB v) := by
  obtain ⟨k, n, t⟩ := v
  apply V.value_Show.of; unfold F.value_Show.B
  rw [value_Check_ok, Option.bind_some]
  unfold showB
  cases hv : valueB (k, n, t) with
  | false => simp
  | true =>
    obtain ⟨hk, ht⟩ := value_kind hv
    simp only at hk ht hb
    simp only [if_true]
    rw [show ((0 : Int) != 0) = false from rfl, cond_false, Itoa_ok hb.1 hb.2, plain_ok t, sha_Hex_ok t (by omega)]
    simp only [Option.bind_some]
    rw [guard_dec (p := (⟨#[39]⟩ : ByteArray).size + t.size ≤ i64max) (by show 1 + _ ≤ _; simp only [i64max]; omega), guard_dec (p := (⟨#[35]⟩ : ByteArray).size + (hexB t).size ≤ i64max) (by rw [hexB_size]; show 1 + _ ≤ _; simp only [i64max]; omega)]
    rcases hk with rfl | rfl | rfl
    · by_cases h1 : n = 1
      · subst h1; simp
      · rw [show (n == 1) = false from beq_eq_false_iff_ne.2 h1, if_neg (show ¬ ((1, n, t) : TValue).2.1 = 1 from h1)]; rfl
    · simp
    · cases plainB t <;> simp
theorem refShow_ok (v : TValue) (hb : -9223372036854775808 ≤ v.2.1 ∧ v.2.1 ≤ 9223372036854775807) : V.pleachref06_Show v = some (showB v) := by
  obtain ⟨k, n, t⟩ := v
  apply V.pleachref06_Show.of; unfold F.pleachref06_Show.B
  rw [refVIs_ok, Option.bind_some]
  unfold showB
  cases hv : valueB (k, n, t) with
  | false => simp
  | true =>
    obtain ⟨hk, ht⟩ := value_kind hv
    simp only at hk ht hb
    simp only [if_true]
    rw [Digits_ok hb.1 hb.2, refPlain_ok t (by omega), refHex_ok t (by omega)]
    simp only [Option.bind_some]
    rw [guard_dec (p := (⟨#[39]⟩ : ByteArray).size + t.size ≤ i64max) (by show 1 + _ ≤ _; simp only [i64max]; omega), guard_dec (p := (⟨#[35]⟩ : ByteArray).size + (hexB t).size ≤ i64max) (by rw [hexB_size]; show 1 + _ ≤ _; simp only [i64max]; omega)]
    rcases hk with rfl | rfl | rfl
    · by_cases h1 : n = 1
      · subst h1; simp
      · rw [show (n == 1) = false from beq_eq_false_iff_ne.2 h1, if_neg (show ¬ ((1, n, t) : TValue).2.1 = 1 from h1)]; rfl
    · simp
    · cases plainB t <;> simp
end Go.Proofs.YthbaafcoidjflaaGreatDoor.AE
end
section
set_option linter.unusedVariables false
set_option linter.unusedSimpArgs false
namespace Go.Proofs.YthbaafcoidjflaaGreatDoor.AE
open Go

/-! ### A value of bytes -/
end Go.Proofs.YthbaafcoidjflaaGreatDoor.AE
end
section
set_option linter.unusedVariables false
set_option linter.unusedSimpArgs false
namespace Go.Proofs.YthbaafcoidjflaaGreatDoor.AE
open Go

def hv (c : Int) : Int := if 48 ≤ c ∧ c ≤ 57 then c - 48 else if 97 ≤ c ∧ c ≤ 102 then c - 87 else 16
theorem hv_range {c : Int} (h0 : 0 ≤ c) (h1 : c < 256) : 0 ≤ hv c ∧ hv c ≤ 16 := by unfold hv; split <;> (try split) <;> omega
theorem digit_ok {c : Int} (h0 : 0 ≤ c) (h1 : c < 256) : V.sha_digit c = some (hv c) := by
  apply V.sha_digit.of
  exact byte_fin (p := fun c => F.sha_digit.B c = some (hv c)) (by decide +kernel) h0 h1
def plF (c : Int) : Nat → Nat → Int
  | 0, _ => 16
  | d + 1, i => bif byteAt hexD (i : Int) == c then (i : Int) else plF c d (i + 1)
theorem place_l (c : Int) : ∀ d i : Nat, i + d = 16 → V.pleachref03_place.l11010 c (i : Int) = some (plF c d i)
  | 0, i, h => by
    apply V.pleachref03_place.l11010.of; unfold F.pleachref03_place.l11010.B
    rw [if_no (by omega)]; rfl
  | d + 1, i, h => by
    apply V.pleachref03_place.l11010.of; unfold F.pleachref03_place.l11010.B
    rw [if_yes (by omega), hexD_size, guard_of (by simp only [Bool.and_eq_true, decide_eq_true_eq]; omega), w64_up (n := 16) (by omega) (by omega), place_l c d (i + 1) (by omega)]
    simp only [plF]
    cases (byteAt hexD (i : Int) == c) <;> rfl
theorem place_ok {c : Int} (h0 : 0 ≤ c) (h1 : c < 256) : V.pleachref03_place c = some (hv c) := by
  apply V.pleachref03_place.of; unfold F.pleachref03_place.B
  have := place_l c 16 0 (by omega)
  rw [byte_fin (p := fun c => plF c 16 0 = hv c) (by decide +kernel) h0 h1] at this
  exact this
theorem pair_fin {p : Int → Int → Prop} (h : ∀ a b : Fin 16, p (a.val : Int) (b.val : Int)) {a b : Int} (h0 : 0 ≤ a) (h1 : a ≤ 15) (g0 : 0 ≤ b) (g1 : b ≤ 15) : p a b := by
  obtain ⟨n, rfl⟩ := Int.eq_ofNat_of_zero_le h0
  obtain ⟨m, rfl⟩ := Int.eq_ofNat_of_zero_le g0
  exact h ⟨n, by omega⟩ ⟨m, by omega⟩
theorem pairP {a b : Int} (h0 : 0 ≤ a) (h1 : a ≤ 15) (g0 : 0 ≤ b) (g1 : b ≤ 15) : IntKind.wrap .u8 ((BitVec.ofInt 8 (IntKind.wrap .u8 (a * 2 ^ 4)) ||| BitVec.ofInt 8 b).toNat : Int) = 16 * a + b :=
  pair_fin (p := fun a b => IntKind.wrap .u8 ((BitVec.ofInt 8 (IntKind.wrap .u8 (a * 2 ^ 4)) ||| BitVec.ofInt 8 b).toNat : Int) = 16 * a + b) (by decide +kernel) h0 h1 g0 g1
theorem pairR {a b : Int} (h0 : 0 ≤ a) (h1 : a ≤ 15) (g0 : 0 ≤ b) (g1 : b ≤ 15) : IntKind.wrap .u8 (w64 ((w64 (16 * a)) + b)) = 16 * a + b :=
  pair_fin (p := fun a b => IntKind.wrap .u8 (w64 ((w64 (16 * a)) + b)) = 16 * a + b) (by decide +kernel) h0 h1 g0 g1
def uhx (s : ByteArray) : Nat → Nat → Option (List Int)
  | 0, _ => some []
  | d + 1, i => if hv (byteAt s (i : Int)) ≤ 15 ∧ hv (byteAt s ((i + 1 : Nat) : Int)) ≤ 15 then (uhx s d (i + 2)).map fun l => (16 * hv (byteAt s (i : Int)) + hv (byteAt s ((i + 1 : Nat) : Int))) :: l else none
theorem w64_two {i n : Nat} (h : i + 1 < n) (hn : n ≤ 140737488351232) : w64 ((i : Int) + 2) = ((i + 2 : Nat) : Int) := by rw [w64_id (by omega) (by omega)]; omega
theorem sha_Unhex_l (s : ByteArray) (hs : s.size ≤ 1000000) : ∀ (d i : Nat) (x : List Int), i + 2 * d = s.size → x.length ≤ i → V.sha_Unhex.l111010 s (i : Int) x = some (match uhx s d i with | some l => (bytesOf (x ++ l), true) | none => ((⟨#[]⟩ : ByteArray), false))
  | 0, i, x, h, hx => by
    apply V.sha_Unhex.l111010.of; unfold F.sha_Unhex.l111010.B
    rw [if_out (by omega)]
    simp [uhx]
  | d + 1, i, x, h, hx => by
    obtain ⟨b0, b1⟩ := bt_range s (i : Int)
    obtain ⟨c0, c1⟩ := bt_range s ((i + 1 : Nat) : Int)
    have r0 := hv_range b0 b1
    have r1 := hv_range c0 c1
    apply V.sha_Unhex.l111010.of; unfold F.sha_Unhex.l111010.B
    rw [if_in (by omega), guard_in (by omega), w64_up (n := s.size) (by omega) (by omega), guard_in (by omega), digit_ok b0 b1, Option.bind_some, digit_ok c0 c1, Option.bind_some]
    simp only [uhx]
    by_cases h1 : hv (byteAt s (i : Int)) ≤ 15
    · rw [if_no (by omega)]
      by_cases h2 : hv (byteAt s ((i + 1 : Nat) : Int)) ≤ 15
      · rw [if_no (by omega), guard_dec (by simp only [List.length_cons, List.length_nil, nmax]; omega), pairP r0.1 h1 r1.1 h2, w64_two (n := s.size) (by omega) (by omega)]
        rw [sha_Unhex_l s hs d (i + 2) _ (by omega) (by simp only [List.length_append, List.length_cons, List.length_nil]; omega), if_pos ⟨h1, h2⟩]
        cases uhx s d (i + 2) with
        | none => rfl
        | some l => simp
      · rw [if_yes (by omega), if_neg (fun h => h2 h.2)]
    · rw [if_yes (by omega), if_neg (fun h => h1 h.1)]
def unhexV (s : ByteArray) : ByteArray × Bool := if s.size % 2 = 0 then (match uhx s (s.size / 2) 0 with | some l => (bytesOf l, true) | none => ((⟨#[]⟩ : ByteArray), false)) else ((⟨#[]⟩ : ByteArray), false)
theorem tmod2 (n : Nat) : Int.tmod (n : Int) 2 = ((n % 2 : Nat) : Int) := by rw [Int.tmod_eq_emod_of_nonneg (by omega)]; omega
theorem sha_Unhex_ok (s : ByteArray) (hs : s.size ≤ 1000000) : V.sha_Unhex s = some (unhexV s) := by
  apply V.sha_Unhex.of; unfold F.sha_Unhex.B unhexV
  rw [tmod2]
  by_cases h : s.size % 2 = 0
  · rw [h, if_pos rfl]
    have := sha_Unhex_l s hs (s.size / 2) 0 [] (by omega) (by simp)
    exact this
  · rw [if_neg h, show (((s.size % 2 : Nat) : Int) != 0) = true from bne_ne (by omega)]; rfl
theorem refUnhex_l (s : ByteArray) (hs : s.size ≤ 140737488351232) : ∀ (d i : Nat) (x : ByteArray), i + 2 * d + s.size % 2 = s.size → x.size ≤ i → V.pleachref03_Unhex.l11010 s x (i : Int) = some (match uhx s d i with | some l => (if s.size % 2 = 0 then (x ++ bytesOf l, true) else ((⟨#[]⟩ : ByteArray), false)) | none => ((⟨#[]⟩ : ByteArray), false))
  | 0, i, x, h, hx => by
    apply V.pleachref03_Unhex.l11010.of; unfold F.pleachref03_Unhex.l11010.B
    rw [w64_id (by omega) (by omega), if_no (by omega), tmod2]
    simp only [uhx]
    by_cases g : s.size % 2 = 0
    · rw [g, if_pos rfl]
      exact congrArg some (congrArg (fun y => (y, true)) (app_nil x).symm)
    · rw [if_neg g, show (((s.size % 2 : Nat) : Int) != 0) = true from bne_ne (by omega)]; rfl
  | d + 1, i, x, h, hx => by
    obtain ⟨b0, b1⟩ := bt_range s (i : Int)
    obtain ⟨c0, c1⟩ := bt_range s ((i + 1 : Nat) : Int)
    have r0 := hv_range b0 b1
    have r1 := hv_range c0 c1
    apply V.pleachref03_Unhex.l11010.of; unfold F.pleachref03_Unhex.l11010.B
    rw [w64_up (n := s.size) (by omega) (by omega), if_in (by omega), guard_in (by omega), guard_in (by omega), place_ok b0 b1, Option.bind_some, place_ok c0 c1, Option.bind_some]
    simp only [uhx]
    by_cases h1 : hv (byteAt s (i : Int)) ≤ 15
    · rw [if_no (by omega)]
      by_cases h2 : hv (byteAt s ((i + 1 : Nat) : Int)) ≤ 15
      · rw [if_no (by omega), guard_dec (by rw [strOfNums_size]; simp only [List.length_cons, List.length_nil, i64max]; omega), pairR r0.1 h1 r1.1 h2, w64_two (n := s.size) (by omega) (by omega)]
        rw [refUnhex_l s hs d (i + 2) _ (by omega) (by rw [ByteArray.size_append, strOfNums_size]; simp only [List.length_cons, List.length_nil]; omega), if_pos ⟨h1, h2⟩]
        cases uhx s d (i + 2) with
        | none => rfl
        | some l =>
          simp only [Option.map_some]
          rw [show ∀ a : Int, a :: l = [a] ++ l from fun a => rfl, strOfNums_append, ByteArray.append_assoc]
      · rw [if_yes (by omega), if_neg (fun h => h2 h.2)]
    · rw [if_yes (by omega), if_neg (fun h => h1 h.1)]
theorem refUnhex_ok (s : ByteArray) (hs : s.size ≤ 140737488351232) : V.pleachref03_Unhex s = some (unhexV s) := by
  apply V.pleachref03_Unhex.of; unfold F.pleachref03_Unhex.B unhexV
  have := refUnhex_l s hs (s.size / 2) 0 ⟨#[]⟩ (by omega) (by simp [ByteArray.size])
  refine this.trans (congrArg some ?_)
  cases uhx s (s.size / 2) 0 with
  | none => simp
  | some l => simp only [nil_app]
theorem bt_bytesOf {L : List Int} (hL : isBytes L) {j : Nat} (hj : j < L.length) : byteAt (bytesOf L) (j : Int) = L.getD j 0 := by
  have hb := hL _ (List.getElem_mem hj)
  unfold byteAt bytesOf
  simp [List.getD, hj]
  omega
theorem hexD_byte (k : Int) : 0 ≤ byteAt hexD k ∧ byteAt hexD k < 256 := bt_range _ _
theorem hexL_bytes (t : ByteArray) : ∀ d i, isBytes (hexL t d i)
  | 0, i => by intro x hx; cases hx
  | d + 1, i => by
    intro x hx
    simp only [hexL, List.mem_cons] at hx
    rcases hx with rfl | rfl | hx
    · exact hexD_byte _
    · exact hexD_byte _
    · exact hexL_bytes t d (i + 1) x hx
theorem hexL_at (t : ByteArray) : ∀ d i k, k < d → (hexL t d i).getD (2 * k) 0 = byteAt hexD (byteAt t ((i + k : Nat) : Int) / 16) ∧ (hexL t d i).getD (2 * k + 1) 0 = byteAt hexD (byteAt t ((i + k : Nat) : Int) % 16)
  | d + 1, i, 0, h => ⟨rfl, rfl⟩
  | d + 1, i, k + 1, h => by
    have := hexL_at t d (i + 1) k (by omega)
    rw [show i + 1 + k = i + (k + 1) by omega] at this
    exact this
theorem hv_hexD {k : Int} (h0 : 0 ≤ k) (h1 : k ≤ 15) : hv (byteAt hexD k) = k :=
  pair_fin (p := fun a b => hv (byteAt hexD a) = a) (by decide +kernel) h0 h1 (b := 0) (by omega) (by omega)
theorem uhx_hex (s t : ByteArray) : ∀ (d i p : Nat), (∀ k, k < d → byteAt s ((i + 2 * k : Nat) : Int) = byteAt hexD (byteAt t ((p + k : Nat) : Int) / 16) ∧ byteAt s ((i + 2 * k + 1 : Nat) : Int) = byteAt hexD (byteAt t ((p + k : Nat) : Int) % 16)) → uhx s d i = some (bl t d p)
  | 0, i, p, h => rfl
  | d + 1, i, p, h => by
    obtain ⟨h1, h2⟩ := h 0 (by omega)
    obtain ⟨b0, b1⟩ := bt_range t (p : Int)
    simp only [Nat.mul_zero, Nat.add_zero] at h1 h2
    simp only [uhx, bl]
    rw [h1, h2, hv_hexD (by omega) (by omega), hv_hexD (by omega) (by omega), if_pos ⟨by omega, by omega⟩]
    rw [uhx_hex s t d (i + 2) (p + 1) (fun k hk => by
      have := h (k + 1) (by omega)
      rw [show i + 2 * (k + 1) = i + 2 + 2 * k by omega, show p + (k + 1) = p + 1 + k by omega] at this
      exact this)]
    simp only [Option.map_some]
    rw [show 16 * (byteAt t (p : Int) / 16) + byteAt t (p : Int) % 16 = byteAt t (p : Int) by omega]
theorem unhex_hex (t : ByteArray) : unhexV (hexB t) = (t, true) := by
  unfold unhexV
  rw [hexB_size, if_pos (by omega), show 2 * t.size / 2 = t.size by omega]
  rw [uhx_hex (hexB t) t t.size 0 0 (fun k hk => by
    have hl := hexL_len t t.size 0
    have := hexL_at t t.size 0 k hk
    unfold hexB
    rw [show 0 + 2 * k = 2 * k by omega, bt_bytesOf (hexL_bytes t _ _) (by omega), bt_bytesOf (hexL_bytes t _ _) (by omega)]
    exact this)]
  simp only
  rw [bytesOf_bl t t.size (Nat.le_refl _)]
  simp

/-! ### Numbers -/
def in64 (x : Int) : Prop := -9223372036854775808 ≤ x ∧ x ≤ 9223372036854775807
theorem w64_in (x : Int) : in64 (w64 x) := by unfold in64; rw [w64_mod]; omega
theorem bl_ints (s : ByteArray) : ∀ d i, i + d = s.size → bl s d i = (intsOf s).drop i
  | 0, i, h => by
    have : (intsOf s).length = s.size := by unfold intsOf; rw [List.length_map, data_len]
    rw [List.drop_eq_nil_of_le (by omega)]; rfl
  | d + 1, i, h => by
    have hl : (intsOf s).length = s.size := by unfold intsOf; rw [List.length_map, data_len]
    rw [List.drop_eq_getElem_cons (by omega)]
    simp only [bl]
    rw [bl_ints s d (i + 1) (by omega), bt_data s i (by omega)]
    congr 1
    unfold intsOf
    simp
theorem decD_digit : ∀ (n : Nat), ∀ c ∈ Lib.decDigits n, 48 ≤ c.toNat ∧ c.toNat ≤ 57 := by
  intro n
  induction n using Nat.strongRecOn with
  | _ n ih =>
    intro c hc
    by_cases h : n < 10
    · rw [Lib.decDigits_one h] at hc
      simp at hc; subst hc
      simp; omega
    · rw [Lib.decDigits, dif_neg h] at hc
      simp at hc
      rcases hc with hc | hc
      · exact ih (n / 10) (by omega) c hc
      · subst hc; simp; omega
theorem decD_ne (n : Nat) : Lib.decDigits n ≠ [] := by
  rw [Lib.decDigits]; split <;> simp
def foldV (neg : Bool) (x : Int) (l : List Int) : Int := l.foldl (fun x c => bif neg then w64 ((w64 (x * 10)) - (w64 ((w64 c) - 48))) else w64 ((w64 (x * 10)) + (w64 ((w64 c) - 48)))) x
theorem dval {c : Int} (h0 : 48 ≤ c) (h1 : c ≤ 57) : w64 ((w64 c) - 48) = c - 48 := by rw [w64_id (x := c) (by omega) (by omega), w64_id (by omega) (by omega)]
theorem fold_dec (neg : Bool) : ∀ n : Nat, (n : Int) ≤ (bif neg then 9223372036854775808 else 9223372036854775807) → foldV neg 0 ((Lib.decDigits n).map fun b => (b.toNat : Int)) = bif neg then -(n : Int) else (n : Int) := by
  intro n
  induction n using Nat.strongRecOn with
  | _ n ih =>
    intro hn
    by_cases h : n < 10
    · rw [Lib.decDigits_one h]
      have e : ((UInt8.ofNat (48 + n)).toNat : Int) = 48 + n := by simp; omega
      simp only [List.map_cons, List.map_nil, foldV, List.foldl_cons, List.foldl_nil, e]
      rw [dval (by omega) (by omega)]
      cases neg
      · simp only [cond_false]; rw [w64_id (x := 0 * 10) (by omega) (by omega), w64_id (by omega) (by omega)]; omega
      · simp only [cond_true]; rw [w64_id (x := 0 * 10) (by omega) (by omega), w64_id (by omega) (by omega)]; omega
    · have hlt : ((n / 10 : Nat) : Int) ≤ (bif neg then 9223372036854775808 else 9223372036854775807) := by cases neg <;> simp only [cond_true, cond_false] at * <;> omega
      have := ih (n / 10) (by omega) hlt
      rw [Lib.decDigits, dif_neg h, List.map_append]
      unfold foldV at this ⊢
      rw [List.foldl_append, this]
      have e : ((UInt8.ofNat (48 + n % 10)).toNat : Int) = 48 + (n % 10 : Nat) := by simp; omega
      simp only [List.map_cons, List.map_nil, List.foldl_cons, List.foldl_nil, e]
      rw [dval (by omega) (by omega)]
      cases neg
      · simp only [cond_false] at *; rw [w64_id (x := ((n / 10 : Nat) : Int) * 10) (by omega) (by omega), w64_id (by omega) (by omega)]; omega
      · simp only [cond_true] at *; rw [w64_id (x := -((n / 10 : Nat) : Int) * 10) (by omega) (by omega), w64_id (by omega) (by omega)]; omega
theorem number_tot (s : ByteArray) (hs : s.size ≤ 140737488351232) : ∀ (d i : Nat) (x : Int), i + d = s.size → in64 x → ∃ r : Int × Bool, V.pleachref06_number.l1111010 s x (i : Int) = some r ∧ in64 r.1
  | 0, i, x, h, hx => ⟨(x, true), by
      apply V.pleachref06_number.l1111010.of; unfold F.pleachref06_number.l1111010.B
      rw [if_out (by omega)], hx⟩
  | d + 1, i, x, h, hx => by
    obtain ⟨r1, e1, g1⟩ := number_tot s hs d (i + 1) x (by omega) hx
    obtain ⟨r2, e2, g2⟩ := number_tot s hs d (i + 1) (w64 ((w64 (x * 10)) - (w64 ((w64 (byteAt s (i : Int))) - 48)))) (by omega) (w64_in _)
    obtain ⟨r3, e3, g3⟩ := number_tot s hs d (i + 1) (w64 ((w64 (x * 10)) + (w64 ((w64 (byteAt s (i : Int))) - 48)))) (by omega) (w64_in _)
    have z : in64 0 := by unfold in64; omega
    have B := fun {r} => V.pleachref06_number.l1111010.of s x (i : Int) (r := r)
    unfold F.pleachref06_number.l1111010.B at B
    rw [if_in (by omega), w64_up (n := s.size) (by omega) (by omega), e1, e2, e3] at B
    simp only [guard_in (show i < s.size by omega)] at B
    by_cases c1 : ((i : Int) == 0) = true
    · by_cases c2 : (byteAt s 0 == 45) = true
      · exact ⟨r1, B (by rw [c1, c2]; rfl), g1⟩
      · simp only [Bool.not_eq_true] at c2
        by_cases c3 : byteAt s (i : Int) < 48
        · exact ⟨(0, false), B (by rw [c1, c2, if_yes c3]; rfl), z⟩
        · by_cases c4 : byteAt s (i : Int) > 57
          · exact ⟨(0, false), B (by rw [c1, c2, if_no c3, if_yes c4]; rfl), z⟩
          · exact ⟨r3, B (by rw [c1, c2, if_no c3, if_no c4]; rfl), g3⟩
    · simp only [Bool.not_eq_true] at c1
      by_cases c3 : byteAt s (i : Int) < 48
      · exact ⟨(0, false), B (by rw [c1, if_yes c3]; rfl), z⟩
      · by_cases c4 : byteAt s (i : Int) > 57
        · exact ⟨(0, false), B (by rw [c1, if_no c3, if_yes c4]; rfl), z⟩
        · by_cases c2 : (byteAt s 0 == 45) = true
          · exact ⟨r2, B (by rw [c1, c2, if_no c3, if_no c4]; rfl), g2⟩
          · simp only [Bool.not_eq_true] at c2
            exact ⟨r3, B (by rw [c1, c2, if_no c3, if_no c4]; rfl), g3⟩
theorem number_dig (s : ByteArray) (hs : s.size ≤ 140737488351232) : ∀ (d i : Nat) (x : Int), i + d = s.size → (∀ j, i ≤ j → j < s.size → 48 ≤ byteAt s (j : Int) ∧ byteAt s (j : Int) ≤ 57) → (i ≠ 0 ∨ (byteAt s 0 == 45) = false) →
    V.pleachref06_number.l1111010 s x (i : Int) = some (foldV (byteAt s 0 == 45) x (bl s d i), true)
  | 0, i, x, h, hd, hi => by
    apply V.pleachref06_number.l1111010.of; unfold F.pleachref06_number.l1111010.B
    rw [if_out (by omega)]; rfl
  | d + 1, i, x, h, hd, hi => by
    obtain ⟨b0, b1⟩ := hd i (Nat.le_refl _) (by omega)
    have IH := fun x => number_dig s hs d (i + 1) x (by omega) (fun j h1 h2 => hd j (by omega) h2) (.inl (by omega))
    apply V.pleachref06_number.l1111010.of; unfold F.pleachref06_number.l1111010.B
    rw [if_in (by omega), w64_up (n := s.size) (by omega) (by omega), IH, IH, IH]
    simp only [guard_in (show i < s.size by omega)]
    rw [if_no (show ¬ byteAt s (i : Int) < 48 by omega), if_no (show ¬ byteAt s (i : Int) > 57 by omega)]
    have e : foldV (byteAt s 0 == 45) x (bl s (d + 1) i) = foldV (byteAt s 0 == 45) (bif byteAt s 0 == 45 then w64 ((w64 (x * 10)) - (w64 ((w64 (byteAt s (i : Int))) - 48))) else w64 ((w64 (x * 10)) + (w64 ((w64 (byteAt s (i : Int))) - 48)))) (bl s d (i + 1)) := rfl
    rw [e]
    cases hc : (byteAt s 0 == 45) with
    | false => cases ((i : Int) == 0) <;> rfl
    | true =>
      rcases hi with hi | hi
      · rw [show ((i : Int) == 0) = false from beq_eq_false_iff_ne.2 (by omega)]; rfl
      · rw [hc] at hi; cases hi
end Go.Proofs.YthbaafcoidjflaaGreatDoor.AE
end
section
set_option linter.unusedVariables false
set_option linter.unusedSimpArgs false
namespace Go.Proofs.YthbaafcoidjflaaGreatDoor.AE
open Go

theorem ints_dB (n : Nat) : intsOf (dB n) = (Lib.decDigits n).map fun b => (b.toNat : Int) := rfl
theorem byte_list (l : List UInt8) (i : Nat) : byteAt ⟨l.toArray⟩ (i : Int) = ((l.getD i 0).toNat : Int) := rfl
theorem dB_digit {n i : Nat} (h : i < (dB n).size) : 48 ≤ byteAt (dB n) (i : Int) ∧ byteAt (dB n) (i : Int) ≤ 57 := by
  have hl : i < (Lib.decDigits n).length := h
  have := decD_digit n _ (List.getElem_mem hl)
  unfold dB
  rw [byte_list, show (Lib.decDigits n).getD i 0 = (Lib.decDigits n)[i] by simp [List.getD, hl]]
  omega
theorem dB_pos (n : Nat) : 0 < (dB n).size := List.length_pos_iff.2 (decD_ne n)
theorem number_itoa {n : Int} (h : in64 n) : V.pleachref06_number (itoaS n) = some (n, true) := by
  have hz := itoaS_size h.1 h.2
  apply V.pleachref06_number.of; unfold F.pleachref06_number.B
  by_cases hn : n < 0
  · have hs : (itoaS n).size = 1 + (dB n.natAbs).size := by rw [itoaS_neg hn, ByteArray.size_append]; rfl
    have h19 := dB_size 18 n.natAbs (by have := h.1; omega)
    rw [show (((itoaS n).size : Int) == 0) = false from beq_eq_false_iff_ne.2 (by omega), cond_false, if_no (by omega), guard_dec (by omega)]
    have e0 : itoaS n = ⟨(45 :: Lib.decDigits n.natAbs).toArray⟩ := by unfold itoaS Lib.itoa; rw [if_pos hn]
    have b0 : byteAt (itoaS n) 0 = 45 := by rw [e0]; rfl
    have step : V.pleachref06_number.l1111010 (itoaS n) 0 ((0 : Nat) : Int) = V.pleachref06_number.l1111010 (itoaS n) 0 ((1 : Nat) : Int) := by
      have := number_dig (itoaS n) (by omega) (dB n.natAbs).size 1 0 (by omega) (fun j h1 h2 => by
        obtain ⟨k, rfl⟩ : ∃ k, j = k + 1 := ⟨j - 1, by omega⟩
        have := dB_digit (n := n.natAbs) (i := k) (by omega)
        rw [e0, byte_list]
        unfold dB at this
        rw [byte_list] at this
        exact this) (.inl (by omega))
      rw [this]
      apply V.pleachref06_number.l1111010.of; unfold F.pleachref06_number.l1111010.B
      rw [if_in (by omega), b0, show (((0 : Nat) : Int) == 0) = true from rfl, cond_true, show ((45 : Int) == 45) = true from rfl, cond_true, w64_up (n := 5) (by omega) (by omega)]
      rw [b0] at this
      exact this
    have := number_dig (itoaS n) (by omega) (dB n.natAbs).size 1 0 (by omega) (fun j h1 h2 => by
        obtain ⟨k, rfl⟩ : ∃ k, j = k + 1 := ⟨j - 1, by omega⟩
        have := dB_digit (n := n.natAbs) (i := k) (by omega)
        rw [e0, byte_list]
        unfold dB at this
        rw [byte_list] at this
        exact this) (.inl (by omega))
    refine step.trans (this.trans ?_)
    rw [bl_ints _ _ _ (by omega), b0, show ((45 : Int) == 45) = true from rfl]
    rw [show (intsOf (itoaS n)).drop 1 = (Lib.decDigits n.natAbs).map fun b => (b.toNat : Int) by rw [e0]; rfl, fold_dec true _ (by simp only [cond_true]; have := h.1; omega)]
    simp only [cond_true]
    congr 2
    omega
  · obtain ⟨m, rfl⟩ := Int.eq_ofNat_of_zero_le (show 0 ≤ n by omega)
    have hs : (itoaS (m : Int)).size = (dB m).size := by rw [itoaS_pos]
    have h19 := dB_size 18 m (by have := h.2; omega)
    have hp := dB_pos m
    rw [show (((itoaS (m : Int)).size : Int) == 0) = false from beq_eq_false_iff_ne.2 (by omega), cond_false, if_no (by omega), guard_dec (by omega)]
    rw [itoaS_pos]
    have d0 := dB_digit (n := m) (i := 0) hp
    have hc : (byteAt (dB m) 0 == 45) = false := beq_eq_false_iff_ne.2 (by have : byteAt (dB m) ((0 : Nat) : Int) = byteAt (dB m) 0 := rfl; omega)
    have := number_dig (dB m) (by omega) (dB m).size 0 0 (by omega) (fun j h1 h2 => dB_digit h2) (.inr hc)
    refine this.trans ?_
    rw [bl_ints _ _ _ (by omega), List.drop_zero, ints_dB, hc, fold_dec false _ (by simp only [cond_false]; exact h.2)]
    rfl
def andU (x : Lib.NumEnd Nat) (f : Nat → Lib.NumEnd Nat) : Lib.NumEnd Nat := match x with
  | .ok u => f u
  | y => y
theorem parseU_snoc (c : UInt8) : ∀ (l : List UInt8) (acc : Nat), Lib.parseUint10 acc (l ++ [c]) = andU (Lib.parseUint10 acc l) (fun u => Lib.parseUint10 u [c])
  | [], acc => rfl
  | x :: l, acc => by
    simp only [List.cons_append, Lib.parseUint10]
    by_cases h1 : 48 ≤ x.toNat ∧ x.toNat ≤ 57
    · rw [if_pos h1, if_pos h1]
      by_cases h2 : 1844674407370955162 ≤ acc
      · rw [if_pos h2, if_pos h2]; rfl
      · rw [if_neg h2, if_neg h2]
        by_cases h3 : 18446744073709551616 ≤ acc * 10 + (x.toNat - 48)
        · rw [if_pos h3, if_pos h3]; rfl
        · rw [if_neg h3, if_neg h3]
          exact parseU_snoc c l _
    · rw [if_neg h1, if_neg h1]; rfl
theorem parseU_dec : ∀ n : Nat, n < 18446744073709551616 → Lib.parseUint10 0 (Lib.decDigits n) = .ok n := by
  intro n
  induction n using Nat.strongRecOn with
  | _ n ih =>
    intro hn
    by_cases h : n < 10
    · have e : (UInt8.ofNat (48 + n)).toNat = 48 + n := by simp; omega
      rw [Lib.decDigits_one h]
      simp only [Lib.parseUint10, e]
      rw [if_pos (by omega), if_neg (by omega), if_neg (by omega)]
      congr 1; omega
    · have e : (UInt8.ofNat (48 + n % 10)).toNat = 48 + n % 10 := by simp; omega
      rw [Lib.decDigits, dif_neg h, parseU_snoc, ih (n / 10) (by omega) (by omega)]
      simp only [andU, Lib.parseUint10, e]
      rw [if_pos (by omega), if_neg (by omega), if_neg (by omega)]
      congr 1; omega
theorem mag_dec {n : Nat} (h : n < 18446744073709551616) : Lib.parseMag (Lib.decDigits n) = .ok n := by
  unfold Lib.parseMag; rw [if_neg (decD_ne n), parseU_dec n h]
theorem atoi_itoa {n : Int} (h : in64 n) : atoiV (itoaS n) = (n, true) := by
  have key : Lib.atoiAll (Lib.itoa n) = .ok n := by
    unfold Lib.itoa
    by_cases hn : n < 0
    · rw [if_pos hn]
      unfold Lib.atoiAll
      have := h.1
      simp only [show (45 : UInt8).toNat = 45 from rfl]
      rw [if_pos (by simp), mag_dec (by omega)]
      simp
      rw [if_neg (by omega)]
      congr 1; omega
    · rw [if_neg hn]
      have h2 := h.2
      cases hd : Lib.decDigits n.toNat with
      | nil => exact absurd hd (decD_ne _)
      | cons c r =>
        have hc := decD_digit n.toNat c (by rw [hd]; exact List.mem_cons_self)
        unfold Lib.atoiAll
        simp only
        rw [if_neg (by omega), ← hd, mag_dec (by omega)]
        simp only
        rw [if_neg (by omega), if_neg (by omega), if_neg (by omega)]
        congr 1; omega
  unfold atoiV
  rw [show (itoaS n).data.toList = Lib.itoa n from rfl, key]
theorem atoiV_in (s : ByteArray) : in64 (atoiV s).1 := by
  unfold atoiV
  cases h : Lib.atoiAll s.data.toList with
  | ok v =>
    simp only
    unfold Lib.atoiAll at h
    cases hl : s.data.toList with
    | nil => rw [hl] at h; cases h
    | cons c r =>
      rw [hl] at h
      simp only at h
      cases hm : Lib.parseMag (if c.toNat = 43 ∨ c.toNat = 45 then r else c :: r) with
      | ok u =>
        rw [hm] at h
        simp only at h
        split at h
        · cases h
        · split at h
          · cases h
          · injection h with h
            subst h
            unfold in64
            split <;> omega
      | _ => rw [hm] at h; cases h
  | range =>
    simp only
    unfold Lib.atoiSat in64
    split <;> omega
  | _ => simp only; unfold in64; omega
theorem atoiV_nil : (atoiV ⟨#[]⟩).2 = false := rfl
theorem Atoi_ok {s : ByteArray} (hs : s.size ≤ 140737488351232) : V.strconv_Atoi s = some (atoiV s) := by
  apply V.strconv_Atoi.of
  show atoiB s = _
  unfold atoiB
  exact guard_dec (by omega)
noncomputable def numR (s : ByteArray) : Int × Bool := (V.pleachref06_number s).getD (0, false)
theorem number_ok {s : ByteArray} (hs : s.size ≤ 140737488351232) : V.pleachref06_number s = some (numR s) ∧ in64 (numR s).1 := by
  have z : in64 0 := by unfold in64; omega
  obtain ⟨r, h1, h2⟩ := number_tot s hs s.size 0 0 (by omega) z
  have : ∃ r, V.pleachref06_number s = some r ∧ in64 r.1 := by
    have B := fun {r} => V.pleachref06_number.of s (r := r)
    unfold F.pleachref06_number.B at B
    by_cases e0 : s.size = 0
    · exact ⟨(0, false), B (by rw [e0]; rfl), z⟩
    · by_cases e1 : (s.size : Int) > 20
      · exact ⟨(0, false), B (by rw [show ((s.size : Int) == 0) = false from beq_eq_false_iff_ne.2 (by omega), if_yes e1]; rfl), z⟩
      · exact ⟨r, B (by rw [show ((s.size : Int) == 0) = false from beq_eq_false_iff_ne.2 (by omega), cond_false, if_no e1, guard_dec (by omega)]; exact h1), h2⟩
  obtain ⟨r, e1, e2⟩ := this
  unfold numR
  rw [e1]
  exact ⟨rfl, e2⟩
theorem numR_itoa {n : Int} (h : in64 n) : numR (itoaS n) = (n, true) := by unfold numR; rw [number_itoa h]; rfl
theorem numR_nil : (numR ⟨#[]⟩).2 = false := by
  have : V.pleachref06_number (⟨#[]⟩ : ByteArray) = some (0, false) := by
    apply V.pleachref06_number.of; unfold F.pleachref06_number.B; rfl
  unfold numR; rw [this]; rfl

/-! ### What a word is read as -/
abbrev trueS : ByteArray := ⟨#[116, 114, 117, 101]⟩
abbrev falseS : ByteArray := ⟨#[102, 97, 108, 115, 101]⟩
def readF (f : ByteArray → Int × Bool) (s : ByteArray) : TValue × Bool :=
  if s = trueS then ((1, 1, ⟨#[]⟩), true) else if s = falseS then ((1, 0, ⟨#[]⟩), true)
  else if 0 < s.size ∧ byteAt s 0 = 39 then ((3, 0, s.extract 1 s.size), true)
  else if 0 < s.size ∧ byteAt s 0 = 35 then ((3, 0, (unhexV (s.extract 1 s.size)).1), (unhexV (s.extract 1 s.size)).2)
  else ((2, (f s).1, ⟨#[]⟩), (f s).2)
theorem one_byte (c : UInt8) (t : ByteArray) : byteAt ((⟨#[c]⟩ : ByteArray) ++ t) 0 = (c.toNat : Int) := by
  unfold byteAt; simp
theorem one_tail (c : UInt8) (t : ByteArray) : ((⟨#[c]⟩ : ByteArray) ++ t).extract 1 ((⟨#[c]⟩ : ByteArray) ++ t).size = t := by
  apply bytes_ext
  rw [ByteArray.toList_eq, ByteArray.toList_eq, extract_toList]
  simp
  rw [List.take_of_length_le]
  rw [data_len]; show _ ≤ 1 + _ - 1; omega
theorem in_one {a b : ByteArray} (h : byteAt a 0 ≠ byteAt b 0) : a ≠ b := fun e => h (by rw [e])
theorem readF_show {f : ByteArray → Int × Bool} (hf : ∀ n, in64 n → f (itoaS n) = (n, true)) {v : TValue} (hv : valueB v = true) (hb : in64 v.2.1) : readF f (showB v) = (v, true) := by
  obtain ⟨k, n, t⟩ := v
  unfold showB
  rw [if_pos hv]
  unfold valueB at hv
  simp only [Bool.or_eq_true, Bool.and_eq_true, beq_iff_eq, decide_eq_true_eq] at hv
  simp only at hb ⊢
  rcases hv with (⟨⟨rfl, hn⟩, ht⟩ | ⟨rfl, ht⟩) | ⟨⟨rfl, rfl⟩, ht⟩
  · obtain rfl := size_zero ht
    rw [if_pos rfl]
    rcases hn with rfl | rfl
    · rw [if_neg (by decide)]
      unfold readF
      rw [if_neg (by decide), if_pos rfl]
    · rw [if_pos rfl]
      unfold readF
      rw [if_pos rfl]
  · obtain rfl := size_zero ht
    rw [if_neg (by decide), if_pos rfl]
    have hd : byteAt (itoaS n) 0 = 45 ∨ (48 ≤ byteAt (itoaS n) 0 ∧ byteAt (itoaS n) 0 ≤ 57) := by
      by_cases hn : n < 0
      · left; rw [itoaS_neg hn, one_byte]; rfl
      · right
        obtain ⟨m, rfl⟩ := Int.eq_ofNat_of_zero_le (show 0 ≤ n by omega)
        rw [itoaS_pos]
        exact dB_digit (i := 0) (dB_pos m)
    unfold readF
    rw [if_neg (in_one (by rw [show byteAt trueS 0 = 116 from rfl]; omega)), if_neg (in_one (by rw [show byteAt falseS 0 = 102 from rfl]; omega)), if_neg (fun h => by omega), if_neg (fun h => by omega), hf n hb]
  · rw [if_neg (by decide), if_neg (by decide)]
    unfold readF
    by_cases hp : plainB t = true
    · rw [if_pos hp]
      have b0 := one_byte 39 t
      rw [if_neg (in_one (by rw [b0]; decide)), if_neg (in_one (by rw [b0]; decide)), if_pos ⟨by rw [ByteArray.size_append]; show 0 < 1 + _; omega, by rw [b0]; rfl⟩, one_tail]
    · rw [if_neg hp]
      have b0 := one_byte 35 (hexB t)
      rw [if_neg (in_one (by rw [b0]; decide)), if_neg (in_one (by rw [b0]; decide)), if_neg (fun h => by rw [b0] at h; exact absurd h.2 (by decide)), if_pos ⟨by rw [ByteArray.size_append]; show 0 < 1 + _; omega, by rw [b0]; rfl⟩, one_tail, unhex_hex]
theorem readF_nil {f : ByteArray → Int × Bool} (hf : (f ⟨#[]⟩).2 = false) : (readF f ⟨#[]⟩).2 = false := by
  unfold readF
  rw [if_neg (by decide), if_neg (by decide), if_neg (fun h => by exact absurd h.1 (by decide)), if_neg (fun h => by exact absurd h.1 (by decide))]
  exact hf
theorem readF_in {f : ByteArray → Int × Bool} (hf : ∀ s, s.size ≤ 140737488351232 → in64 (f s).1) {s : ByteArray} (hs : s.size ≤ 140737488351232) : in64 (readF f s).1.2.1 := by
  have z : in64 0 := by unfold in64; omega
  have o : in64 1 := by unfold in64; omega
  unfold readF
  split
  · exact o
  · split
    · exact z
    · split
      · exact z
      · split
        · exact z
        · exact hf s hs
theorem HasPrefix_one (s : ByteArray) (c : UInt8) : V.strings_HasPrefix s ⟨#[c]⟩ = some (decide (0 < s.size ∧ byteAt s 0 = (c.toNat : Int))) := by
  apply V.strings_HasPrefix.of; unfold F.strings_HasPrefix.B
  have : V.stringslite_HasPrefix s ⟨#[c]⟩ = some (decide (0 < s.size ∧ byteAt s 0 = (c.toNat : Int))) := by
    apply V.stringslite_HasPrefix.of; unfold F.stringslite_HasPrefix.B
    rw [show (((⟨#[c]⟩ : ByteArray).size : Nat) : Int) = 1 from rfl]
    by_cases h : 0 < s.size
    · rw [if_yes (by omega), guard_of (by simp; omega)]
      refine congrArg some ?_
      rw [strEq_dec]
      have hx : s.extract 0 (1 : Int).toNat = (⟨#[s.get! 0]⟩ : ByteArray) := by
        apply bytes_ext
        rw [ByteArray.toList_eq, ByteArray.toList_eq, extract_toList]
        cases s with
        | mk a =>
          cases a with
          | mk l =>
            cases l with
            | nil => exact absurd h (by decide)
            | cons x l => simp [ByteArray.get!]
      rw [hx, show byteAt s 0 = ((s.get! 0).toNat : Int) from bt_get h]
      rw [Bool.eq_iff_iff]
      simp only [decide_eq_true_eq]
      constructor
      · intro e
        have : s.get! 0 = c := by
          have := congrArg (fun b : ByteArray => b.data[0]!) e
          simpa using this
        exact ⟨h, by rw [this]⟩
      · rintro ⟨_, e⟩
        have : s.get! 0 = c := UInt8.toNat_inj.1 (by omega)
        rw [this]
    · rw [if_no (by omega)]
      rw [decide_eq_false (fun e => h e.1)]
  rw [this, Option.bind_some]
theorem tail_guard {α : Type} {s : ByteArray} {a : Option α} (h : 0 < s.size) : guardK (decide (1 ≤ (s.size : Int)) && decide ((s.size : Int) ≤ (s.size : Int))) a = a := guard_of (by simp; omega)
theorem read_ok {s : ByteArray} (hs : s.size ≤ 1000000) : V.value_read s = some (readF atoiV s) := by
  apply V.value_read.of; unfold F.value_read.B readF
  have hx := extract_size s 1 s.size
  rw [strEq_dec, strEq_dec]
  by_cases h1 : s = trueS
  · rw [if_pos h1, if_yes h1]
  · rw [if_neg h1, if_no h1]
    by_cases h2 : s = falseS
    · rw [if_pos h2, if_yes h2]
    · rw [if_neg h2, if_no h2, HasPrefix_one, Option.bind_some]
      by_cases h3 : 0 < s.size ∧ byteAt s 0 = 39
      · rw [if_pos h3, show decide (0 < s.size ∧ byteAt s 0 = (((39 : UInt8).toNat : Nat) : Int)) = true from decide_eq_true h3, cond_true, tail_guard h3.1, nat_cast]
      · rw [if_neg h3, show decide (0 < s.size ∧ byteAt s 0 = (((39 : UInt8).toNat : Nat) : Int)) = false from decide_eq_false h3, cond_false, HasPrefix_one, Option.bind_some]
        by_cases h4 : 0 < s.size ∧ byteAt s 0 = 35
        · rw [if_pos h4, show decide (0 < s.size ∧ byteAt s 0 = (((35 : UInt8).toNat : Nat) : Int)) = true from decide_eq_true h4, cond_true, tail_guard h4.1, nat_cast, sha_Unhex_ok _ (by omega), Option.bind_some]
        · rw [if_neg h4, show decide (0 < s.size ∧ byteAt s 0 = (((35 : UInt8).toNat : Nat) : Int)) = false from decide_eq_false h4, cond_false, Atoi_ok (by omega), Option.bind_some]
noncomputable def parseF (f : ByteArray → Int × Bool) (s : ByteArray) : Option TValue := if (readF f s).2 = true ∧ showB (readF f s).1 = s then some (readF f s).1 else none
theorem parse_iff {f : ByteArray → Int × Bool} (hf : ∀ n, in64 n → f (itoaS n) = (n, true)) (h0 : (f ⟨#[]⟩).2 = false) (hi : ∀ s, s.size ≤ 140737488351232 → in64 (f s).1) {s : ByteArray} (hs : s.size ≤ 140737488351232) (v : TValue) :
    parseF f s = some v ↔ valueB v = true ∧ in64 v.2.1 ∧ showB v = s := by
  unfold parseF
  constructor
  · intro h
    split at h
    · rename_i hh
      cases h
      refine ⟨?_, readF_in hi hs, hh.2⟩
      cases hv : valueB (readF f s).1 with
      | true => rfl
      | false =>
        have hz := hh.2
        unfold showB at hz
        rw [hv, if_neg (by decide)] at hz
        rw [← hz, readF_nil h0] at hh
        exact absurd hh.1 (by decide)
    · cases h
  · rintro ⟨h1, h2, rfl⟩
    rw [readF_show hf h1 h2, if_pos ⟨rfl, rfl⟩]
theorem parse_same {s : ByteArray} (hs : s.size ≤ 140737488351232) : parseF numR s = parseF atoiV s := by
  have A := parse_iff (f := atoiV) (fun n h => atoi_itoa h) atoiV_nil (fun s _ => atoiV_in s) hs
  have B := parse_iff (f := numR) (fun n h => numR_itoa h) numR_nil (fun s h => (number_ok h).2) hs
  cases h : parseF atoiV s with
  | some v => exact (B v).2 ((A v).1 h)
  | none =>
    cases g : parseF numR s with
    | none => rfl
    | some v => rw [(A v).2 ((B v).1 g)] at h; cases h
theorem Parse_ok {s : ByteArray} (hs : s.size ≤ 1000000) : V.value_Parse s = some (match parseF atoiV s with | some v => (v, 0) | none => ((0, 0, (⟨#[]⟩ : ByteArray)), 3)) := by
  apply V.value_Parse.of; unfold F.value_Parse.B
  have hb := readF_in (f := atoiV) (fun s _ => atoiV_in s) (s := s) (by omega)
  rw [read_ok hs, Option.bind_some]
  unfold parseF
  have E : ∀ v : TValue, (v.1, v.2.1, v.2.2) = v := fun v => rfl
  rw [E, value_Show_ok _ hb, Option.bind_some, strEq_dec]
  cases h : (readF atoiV s).2 with
  | false => simp
  | true =>
    by_cases g : showB (readF atoiV s).1 = s
    · simp [g]
    · simp [g]
theorem refParse_ok {s : ByteArray} (hs : s.size ≤ 140737488351232) : V.pleachref06_Parse s = some (match parseF numR s with | some v => (v, true) | none => ((0, 0, (⟨#[]⟩ : ByteArray)), false)) := by
  apply V.pleachref06_Parse.of; unfold F.pleachref06_Parse.B
  have hb := readF_in (f := numR) (fun s h => (number_ok h).2) hs
  have hx := extract_size s 1 s.size
  obtain ⟨n1, n2⟩ := number_ok hs
  have z : -9223372036854775808 ≤ (0 : Int) ∧ (0 : Int) ≤ 9223372036854775807 := by omega
  have u1 := refUnhex_ok (s.extract 1 s.size) (by omega)
  have s1 := refShow_ok (3, 0, s.extract 1 s.size) z
  have s2 := refShow_ok (3, 0, (unhexV (s.extract 1 s.size)).1) z
  have s3 := refShow_ok (2, (numR s).1, ⟨#[]⟩) n2
  rw [strEq_dec, strEq_dec]
  unfold parseF
  by_cases h1 : s = trueS
  · subst h1; rfl
  · rw [if_no h1]
    by_cases h2 : s = falseS
    · subst h2
      rw [if_yes rfl, if_no (by decide)]
      rfl
    · rw [if_no h2]
      have fin : ∀ (v : TValue) (b : Bool), readF numR s = (v, b) → (bif !b then (some (((0, 0, (⟨#[]⟩ : ByteArray)) : TValue), false)) else (bif !strEq (showB v) s then some (((0, 0, (⟨#[]⟩ : ByteArray)) : TValue), false) else some (v, true))) =
          some (match (if (readF numR s).2 = true ∧ showB (readF numR s).1 = s then some (readF numR s).1 else none : Option TValue) with | some v => (v, true) | none => ((0, 0, (⟨#[]⟩ : ByteArray)), false)) := by
        intro v b e
        rw [e, strEq_dec]
        cases b with
        | false => simp
        | true => by_cases g : showB v = s <;> simp [g]
      have r0 : readF numR s = if 0 < s.size ∧ byteAt s 0 = 39 then ((3, 0, s.extract 1 s.size), true) else if 0 < s.size ∧ byteAt s 0 = 35 then ((3, 0, (unhexV (s.extract 1 s.size)).1), (unhexV (s.extract 1 s.size)).2) else ((2, (numR s).1, ⟨#[]⟩), (numR s).2) := by
        unfold readF; rw [if_neg h1, if_neg h2]
      have num : ((V.pleachref06_number s).bind fun t3 => (bif (!t3.2) then (some (((0, 0, (⟨#[]⟩ : ByteArray)) : TValue), false)) else ((V.pleachref06_Show (2, t3.1, (⟨#[]⟩ : ByteArray))).bind fun t4 => (bif (!strEq t4 s) then (some (((0, 0, (⟨#[]⟩ : ByteArray)) : TValue), false)) else (some ((2, t3.1, (⟨#[]⟩ : ByteArray)), true)))))) =
          (bif !(numR s).2 then (some (((0, 0, (⟨#[]⟩ : ByteArray)) : TValue), false)) else (bif !strEq (showB (2, (numR s).1, ⟨#[]⟩)) s then some (((0, 0, (⟨#[]⟩ : ByteArray)) : TValue), false) else some ((2, (numR s).1, ⟨#[]⟩), true))) := by
        rw [n1, Option.bind_some, s3, Option.bind_some]
      rw [num]
      by_cases h3 : 0 < s.size
      · rw [if_yes (show (s.size : Int) > 0 by omega), guard_dec (by omega), if_yes (show (s.size : Int) > 0 by omega), guard_dec (by omega), tail_guard h3, tail_guard h3, nat_cast, s1, u1, Option.bind_some, Option.bind_some, s2, Option.bind_some]
        by_cases h4 : byteAt s 0 = 39
        · rw [show (byteAt s 0 == 39) = true from beq_iff_eq.2 h4, cond_true]
          rw [← fin (3, 0, s.extract 1 s.size) true (by rw [r0, if_pos ⟨h3, h4⟩])]
          rfl
        · rw [show (byteAt s 0 == 39) = false from beq_eq_false_iff_ne.2 h4, cond_false]
          by_cases h5 : byteAt s 0 = 35
          · rw [show (byteAt s 0 == 35) = true from beq_iff_eq.2 h5, cond_true]
            rw [← fin (3, 0, (unhexV (s.extract 1 s.size)).1) (unhexV (s.extract 1 s.size)).2 (by rw [r0, if_neg (fun h => h4 h.2), if_pos ⟨h3, h5⟩])]
          · rw [show (byteAt s 0 == 35) = false from beq_eq_false_iff_ne.2 h5, cond_false]
            exact fin (2, (numR s).1, ⟨#[]⟩) (numR s).2 (by rw [r0, if_neg (fun h => h4 h.2), if_neg (fun h => h5 h.2)])
      · rw [if_no (show ¬ (s.size : Int) > 0 by omega), if_no (show ¬ (s.size : Int) > 0 by omega)]
        exact fin (2, (numR s).1, ⟨#[]⟩) (numR s).2 (by rw [r0, if_neg (fun h => h3 h.1), if_neg (fun h => h3 h.1)])
end Go.Proofs.YthbaafcoidjflaaGreatDoor.AE
end
section
set_option linter.unusedVariables false
set_option linter.unusedSimpArgs false
namespace Go.Proofs.YthbaafcoidjflaaGreatDoor.AE
open Go

theorem lim_at {α : Type} {a : Nat → Option α} {r : α} (N : Nat) (h : ∀ K, a (K + N) = some r) : AE.lim (fun v => a (v 0)) = some r :=
  lim_some.2 ⟨N, fun v hv => by
    have := hv 0
    obtain ⟨k, hk⟩ : ∃ k, v 0 = k + N := ⟨v 0 - N, by omega⟩
    show a (v 0) = some r
    rw [hk]; exact h k⟩
theorem FewOps_lf (l : List TOp) (hl : l.length ≤ 140737488351232) : ∀ (d i : Nat) (x : Int), i + d = l.length → ∃ b, V.pleachref26_FewOps.l11010 l x (i : Int) = some b
  | 0, i, x, h => by
    have e : V.pleachref26_FewOps.l11010 l x (i : Int) = some (if l.length ≤ 70 then decide (x ≤ 5000) else false) := by
      refine V.pleachref26_FewOps.l11010.of _ _ _ ?_
      unfold F.pleachref26_FewOps.l11010.B
      rw [if_out (by omega)]
      by_cases g : l.length ≤ 70
      · rw [if_yes (by omega), if_pos g]
      · rw [if_no (by omega), if_neg g]
    exact ⟨_, e⟩
  | d + 1, i, x, h => by
    have hi : i < l.length := by omega
    by_cases g : i ≤ 70
    · have key : ∀ y, ∃ b, V.pleachref26_FewOps.l11010 l y ((i + 1 : Nat) : Int) = some b := fun y => FewOps_lf l hl d (i + 1) y (by omega)
      have B := fun {r} => V.pleachref26_FewOps.l11010.of l x (i : Int) (r := r)
      unfold F.pleachref26_FewOps.l11010.B at B
      rw [if_in hi, if_yes (by omega : (i : Int) ≤ 70), guard_in hi, guard_in hi, guard_in hi, guard_in hi, guard_in hi, w64_up hi hl] at B
      obtain ⟨b, hb⟩ := key _
      exact ⟨b, B hb⟩
    · have e : V.pleachref26_FewOps.l11010 l x (i : Int) = some false := by
        refine V.pleachref26_FewOps.l11010.of _ _ _ ?_
        unfold F.pleachref26_FewOps.l11010.B
        rw [if_in hi, if_no (by omega : ¬ (i : Int) ≤ 70), if_no (by omega)]
      exact ⟨_, e⟩
theorem FewOps_f (l : List TOp) (hl : l.length ≤ 140737488351232) : ∃ b, V.pleachref26_FewOps l = some b := by
  obtain ⟨b, h⟩ := FewOps_lf l hl l.length 0 0 (by omega)
  exact ⟨b, V.pleachref26_FewOps.of _ h⟩
theorem Few_one (c : TCall) (hl : ((((((c).2).2).2).2).2).1.length ≤ 140737488351232) : ∃ b, V.pleachref40_Few [c] 1 = some b := by
  have e1 : ∀ x : Int, ∃ b, V.pleachref40_Few.l11010 [c] 1 x 1 = some b := fun x => by
    refine ⟨decide (x ≤ 6000), V.pleachref40_Few.l11010.of _ _ _ _ ?_⟩
    unfold F.pleachref40_Few.l11010.B
    rfl
  have w1 : w64 (0 + 1) = 1 := by rw [w64_id (by omega) (by omega)]; rfl
  have key : ∃ b, V.pleachref40_Few.l11010 [c] 1 0 0 = some b := by
    have B := fun {r} => V.pleachref40_Few.l11010.of [c] 1 0 0 (r := r)
    unfold F.pleachref40_Few.l11010.B at B
    rw [w1] at B
    rw [show (decide ((0 : Int) < (([c] : List TCall).length : Int))) = true from rfl, cond_true, show (decide ((0 : Int) ≤ 1)) = true from rfl, cond_true, show (decide (0 ≤ (0 : Int)) && true) = true from rfl, guard_tt] at B
    rw [show rd sCall ([c] : List TCall) (0 : Int).toNat = c from rfl] at B
    by_cases h : ((((((((c).2).2).2).2).2).1).length : Int) > 70
    · exact ⟨false, B (by rw [if_yes h])⟩
    · obtain ⟨b, hb⟩ := FewOps_f _ hl
      cases b with
      | false => exact ⟨false, B (by rw [if_no h, hb, Option.bind_some]; rfl)⟩
      | true =>
        obtain ⟨b, hb'⟩ := e1 _
        exact ⟨b, B (by rw [if_no h, hb, Option.bind_some, Bool.not_true, cond_false]; exact hb')⟩
  obtain ⟨b, h⟩ := key
  exact ⟨b, V.pleachref40_Few.of _ _ h⟩
end Go.Proofs.YthbaafcoidjflaaGreatDoor.AE
end
section
set_option linter.unusedVariables false
namespace Go.Proofs.YthbaafcoidjflaaGreatDoor.AE
open Go
theorem awake43 : V.pleachlaw43_awake = some true := lim_at 300 fun K => by kernel_rfl
end Go.Proofs.YthbaafcoidjflaaGreatDoor.AE
end
section
set_option linter.unusedVariables false
set_option linter.unusedSimpArgs false
namespace Go.Proofs.YthbaafcoidjflaaGreatDoor.AE
open Go
def nameC (n : Int) : ByteArray := (⟨#[35]⟩ : ByteArray) ++ itoaS n
theorem Name_ok {n : Int} (h : in64 n) : V.model_Name n = some (nameC n) := by
  have := itoaS_size h.1 h.2
  apply V.model_Name.of; unfold F.model_Name.B
  rw [Itoa_ok h.1 h.2, Option.bind_some, guard_dec (by show 1 + _ ≤ _; simp only [i64max]; omega)]; rfl
theorem rName_ok {n : Int} (h : in64 n) : V.pleachref40_Name n = some (nameC n) := by
  have := itoaS_size h.1 h.2
  apply V.pleachref40_Name.of; unfold F.pleachref40_Name.B
  rw [Digits_ok h.1 h.2, Option.bind_some, guard_dec (by show 1 + _ ≤ _; simp only [i64max]; omega)]; rfl
theorem itoa_pos (n : Int) (h : in64 n) : 0 < (itoaS n).size := by
  by_cases hn : n < 0
  · rw [itoaS_neg hn, one_app]; omega
  · obtain ⟨m, rfl⟩ := Int.eq_ofNat_of_zero_le (show 0 ≤ n by omega)
    rw [itoaS_pos]; exact dB_pos m
def progN (s : ByteArray) : Option Int := if s = ⟨#[]⟩ then none else if (atoiV (s.extract 1 s.size)).2 = true ∧ nameC (atoiV (s.extract 1 s.size)).1 = s then some (atoiV (s.extract 1 s.size)).1 else none
theorem progN_iff (s : ByteArray) (n : Int) : progN s = some n ↔ in64 n ∧ nameC n = s := by
  unfold progN
  constructor
  · intro h
    split at h
    · cases h
    · split at h
      · rename_i g; cases h; exact ⟨atoiV_in _, g.2⟩
      · cases h
  · rintro ⟨h, rfl⟩
    have e : (nameC n).extract 1 (nameC n).size = itoaS n := one_tail 35 (itoaS n)
    rw [if_neg (fun e => by
      have := congrArg ByteArray.size e
      unfold nameC at this; rw [one_app] at this
      have z : (⟨#[]⟩ : ByteArray).size = 0 := rfl
      omega), e, atoi_itoa h, if_pos ⟨rfl, rfl⟩]
theorem Number_ok {s : ByteArray} (hs : s.size ≤ 140737488351232) : V.model_Number s = some (match progN s with | some n => (n, true) | none => (0, false)) := by
  have hx := extract_size s 1 s.size
  apply V.model_Number.of; unfold F.model_Number.B progN
  rw [strEq_dec]
  by_cases h : s = ⟨#[]⟩
  · rw [if_yes h, if_pos h]
  · have hp : 0 < s.size := by
      rcases Nat.eq_zero_or_pos s.size with z | z
      · exact absurd (size_zero z) h
      · exact z
    rw [if_no h, if_neg h, tail_guard hp, nat_cast, Atoi_ok (by omega), Option.bind_some]
    cases ha : (atoiV (s.extract 1 s.size)).2 with
    | false => simp
    | true =>
      rw [Name_ok (atoiV_in _), Option.bind_some, strEq_dec]
      by_cases g : nameC (atoiV (s.extract 1 s.size)).1 = s
      · simp [g]
      · simp [g]
noncomputable def refN (s : ByteArray) : Option Int := if 2 ≤ s.size ∧ byteAt s 0 = 35 then (match parseF numR (s.extract 1 s.size) with | some v => if v.1 = 2 ∧ nameC v.2.1 = s then some v.2.1 else none | none => none) else none
theorem refN_iff {s : ByteArray} (hs : s.size ≤ 140737488351232) (n : Int) : refN s = some n ↔ in64 n ∧ nameC n = s := by
  have hx := extract_size s 1 s.size
  have PI := fun v => parse_iff (f := numR) (fun n h => numR_itoa h) numR_nil (fun s h => (number_ok h).2) (s := s.extract 1 s.size) (by omega) v
  unfold refN
  constructor
  · intro h
    split at h
    · split at h
      · rename_i v hv
        split at h
        · rename_i g; cases h; exact ⟨((PI v).1 hv).2.1, g.2⟩
        · cases h
      · cases h
    · cases h
  · rintro ⟨h, rfl⟩
    have e : (nameC n).extract 1 (nameC n).size = itoaS n := one_tail 35 (itoaS n)
    have hp := itoa_pos n h
    rw [if_pos ⟨by unfold nameC; rw [one_app]; omega, one_byte 35 _⟩]
    have hv : valueB (2, n, ⟨#[]⟩) = true := by simp [valueB, ByteArray.size]
    have hw : showB (2, n, ⟨#[]⟩) = itoaS n := by unfold showB; rw [if_pos hv, if_neg (show ¬ ((2 : Int), n, (⟨#[]⟩ : ByteArray)).1 = 1 from (by decide : ¬ (2 : Int) = 1)), if_pos rfl]
    rw [(PI (2, n, ⟨#[]⟩)).2 ⟨hv, h, by rw [hw, e]⟩]
    simp
theorem rNumber_ok {s : ByteArray} (hs : s.size ≤ 140737488351232) : V.pleachref40_Number s = some (match refN s with | some n => (n, true) | none => (0, false)) := by
  have hx := extract_size s 1 s.size
  have PI := fun v => parse_iff (f := numR) (fun n h => numR_itoa h) numR_nil (fun s h => (number_ok h).2) (s := s.extract 1 s.size) (by omega) v
  apply V.pleachref40_Number.of; unfold F.pleachref40_Number.B refN
  by_cases h : s.size < 2
  · rw [if_yes (by omega), if_neg (fun g => by omega)]
  · rw [if_no (by omega), guard_dec (by omega)]
    by_cases g : byteAt s 0 = 35
    · rw [show (byteAt s 0 != 35) = false by simp [g], cond_false, tail_guard (by omega), nat_cast, refParse_ok (by omega), Option.bind_some, if_pos ⟨by omega, g⟩]
      cases hv : parseF numR (s.extract 1 s.size) with
      | none => rfl
      | some v =>
        simp only [Bool.not_true, cond_false]
        by_cases k : v.1 = 2
        · rw [show (v.1 != 2) = false by simp [k], cond_false, rName_ok ((PI v).1 hv).2.1, Option.bind_some, strEq_dec]
          by_cases q : nameC v.2.1 = s
          · simp [q, k]
          · simp [q]
        · rw [show (v.1 != 2) = true by simp [k], cond_true, if_neg (fun q => k q.1)]
    · rw [show (byteAt s 0 != 35) = true by simp [g], cond_true, if_neg (fun q => g q.2)]
theorem N_same {s : ByteArray} (hs : s.size ≤ 140737488351232) : refN s = progN s := by
  cases h : progN s with
  | some n => exact (refN_iff hs n).2 ((progN_iff s n).1 h)
  | none =>
    cases g : refN s with
    | none => rfl
    | some n => rw [(progN_iff s n).2 ((refN_iff hs n).1 g)] at h; cases h
theorem showB_le (v : TValue) (hb : in64 v.2.1) : (showB v).size ≤ 1000 := by
  unfold showB
  split
  · rename_i hv
    obtain ⟨hk, ht⟩ := value_kind hv
    split
    · split <;> (show _ ≤ _; decide)
    · split
      · have := itoaS_size hb.1 hb.2; omega
      · split
        · rw [one_app]; omega
        · rw [one_app, hexB_size]; omega
  · show 0 ≤ 1000; omega
end Go.Proofs.YthbaafcoidjflaaGreatDoor.AE
end
section
set_option linter.unusedVariables false
set_option linter.unusedSimpArgs false
namespace Go.Proofs.YthbaafcoidjflaaGreatDoor.AE
open Go

instance decValue : DecidableEq TValue := instDecidableEqProd
instance decProp : DecidableEq TProp := instDecidableEqProd
instance decNode : DecidableEq TNode := instDecidableEqProd
instance decEdge1 : DecidableEq (ByteArray × TNode) := instDecidableEqProd
instance decEdge : DecidableEq TEdge := instDecidableEqProd
instance decGraph : DecidableEq TGraph := instDecidableEqProd
/-- Two rows from a place on. -/
theorem drop_eq {α : Type} [DecidableEq α] {a b : List α} {i : Nat} (ha : i < a.length) (hb : i < b.length) : decide (a.drop i = b.drop i) = (decide (a[i] = b[i]) && decide (a.drop (i + 1) = b.drop (i + 1))) := by
  rw [List.drop_eq_getElem_cons ha, List.drop_eq_getElem_cons hb]
  rw [Bool.eq_iff_iff]
  simp only [decide_eq_true_eq, Bool.and_eq_true, List.cons.injEq]
end Go.Proofs.YthbaafcoidjflaaGreatDoor.AE
end
section
set_option linter.unusedVariables false
set_option linter.unusedSimpArgs false
set_option maxRecDepth 20000
namespace Go.Proofs.YthbaafcoidjflaaGreatDoor.AE
open Go

/-! ### Copies -/

theorem clone_body {α : Type} {inst : DecidableEq (List α)} (l : List α) (h : l.length ≤ nmax) : (bif l.isEmpty then @meet (List α) inst (some ([])) (guardK (decide (0 + l.length ≤ nmax)) (some ([] ++ l))) else (guardK (decide (0 + l.length ≤ nmax)) (some ([] ++ l)))) = some l := by
  rw [guard_dec (by omega)]
  cases l with
  | nil => exact meet_self _
  | cons a l => rfl
theorem cloneP_ok (l : List TProp) (h : l.length ≤ nmax) : V.slices_Clone_apiPropapiProp l = some l := V.slices_Clone_apiPropapiProp.of l (clone_body l h)

end Go.Proofs.YthbaafcoidjflaaGreatDoor.AE
end
section
set_option linter.unusedVariables false
set_option linter.unusedSimpArgs false
set_option maxRecDepth 20000
namespace Go.Proofs.YthbaafcoidjflaaGreatDoor.AE
open Go

theorem half_nat {lo hi n : Nat} (h : lo < hi) (hn : hi ≤ n) (hb : n ≤ 70368744177616) : w64 (Int.fdiv (IntKind.wrap .u64 (w64 ((lo : Int) + (hi : Int)))) (2 ^ 1)) = (((lo + hi) / 2 : Nat) : Int) := by
  rw [w64_id (x := (lo : Int) + hi) (by omega) (by omega), u64_id (by omega) (by omega), Int.fdiv_eq_ediv_of_nonneg _ (by omega), w64_id (by omega) (by omega)]
  omega

/-- Texts that rise. -/
def Up (ks : List ByteArray) : Prop := ks.Pairwise fun a b => strLt a b = true
/-- How many of them stand ahead of one. -/
def lb (ks : List ByteArray) (x : ByteArray) : Nat := ks.findIdx fun k => !strLt k x

theorem Up.lt {ks : List ByteArray} (hu : Up ks) {i j : Nat} (h : i < j) (hj : j < ks.length) : strLt (ks[i]'(by omega)) ks[j] = true := List.pairwise_iff_getElem.1 hu i j (by omega) hj h
theorem lb_le (ks : List ByteArray) (x : ByteArray) : lb ks x ≤ ks.length := List.findIdx_le_length
theorem lb_lt {ks : List ByteArray} (hu : Up ks) (x : ByteArray) {i : Nat} (hi : i < ks.length) : strLt ks[i] x = true ↔ i < lb ks x := by
  constructor
  · intro h
    refine Nat.lt_of_not_le fun hle => ?_
    have h1 : lb ks x < ks.length := by omega
    have h2 : (!strLt ks[lb ks x] x) = true := List.findIdx_getElem (w := h1)
    rcases Nat.eq_or_lt_of_le hle with e | e
    · have : strLt ks[lb ks x] x = true := by simp only [e]; exact h
      rw [this] at h2; cases h2
    · have := lt_trans (hu.lt e hi) h
      rw [this] at h2; cases h2
  · intro h
    have := List.not_of_lt_findIdx h
    simpa using this
/-- One of rising texts is met where as many as stand ahead of it have gone by. -/
theorem met_iff {ks : List ByteArray} (hu : Up ks) (x : ByteArray) : x ∈ ks ↔ ∃ h : lb ks x < ks.length, ks[lb ks x] = x := by
  constructor
  · intro h
    obtain ⟨i, hi, e⟩ := List.getElem_of_mem h
    have h1 : ¬ i < lb ks x := fun g => by
      have := (lb_lt hu x hi).2 g
      rw [e, lt_irr] at this; cases this
    have h2 : ¬ lb ks x < i := fun g => by
      have := hu.lt g hi
      rw [e] at this
      have := (lb_lt hu x (by omega)).1 this
      omega
    have h3 : lb ks x = i := by omega
    exact ⟨by omega, by simp only [h3]; exact e⟩
  · rintro ⟨h, e⟩
    exact e ▸ List.getElem_mem h

def has (ks : List ByteArray) (x : ByteArray) : Bool := ks.any fun k => strEq k x
theorem has_iff {ks : List ByteArray} {x : ByteArray} : has ks x = true ↔ x ∈ ks := by
  unfold has
  rw [List.any_eq_true]
  exact ⟨fun ⟨k, h, e⟩ => strEq_iff.1 e ▸ h, fun h => ⟨x, h, strEq_self x⟩⟩

theorem search_gen {ks : List ByteArray} {x : ByteArray} (hu : Up ks) (S : Int → Int → Option (Int × Bool))
    (h1 : ∀ (lo hi : Nat) r, (h : lo < hi) → (hh : hi ≤ ks.length) → (if strLt (ks[(lo + hi) / 2]'(by omega)) x = true then S (((lo + hi) / 2 + 1 : Nat) : Int) (hi : Int) else S (lo : Int) (((lo + hi) / 2 : Nat) : Int)) = some r → S (lo : Int) (hi : Int) = some r)
    (h2 : ∀ lo : Nat, lo ≤ ks.length → S (lo : Int) (lo : Int) = some ((lo : Int), decide (ks[lo]? = some x))) :
    S 0 (ks.length : Int) = some ((lb ks x : Int), has ks x) := by
  have main : ∀ d lo hi : Nat, hi - lo ≤ d → lo ≤ lb ks x → lb ks x ≤ hi → hi ≤ ks.length → S (lo : Int) (hi : Int) = some ((lb ks x : Int), has ks x) := by
    intro d
    induction d with
    | zero =>
      intro lo hi h a b c
      have e1 : lo = lb ks x := by omega
      have e2 : hi = lb ks x := by omega
      subst e1; rw [e2]
      rw [h2 _ (lb_le ks x)]
      congr 2
      rw [Bool.eq_iff_iff, decide_eq_true_iff, has_iff, met_iff hu x, List.getElem?_eq_some_iff]
    | succ d ih =>
      intro lo hi h a b c
      rcases Nat.lt_or_ge lo hi with hl | hl
      · refine h1 lo hi _ hl c ?_
        split
        · rename_i g
          exact ih _ _ (by omega) ((lb_lt hu x (by omega)).1 g) b c
        · rename_i g
          exact ih _ _ (by omega) a (by have := mt (lb_lt hu x (by omega)).2 g; omega) (by omega)
      · exact ih lo hi (by omega) a b c
  exact main ks.length 0 ks.length (by omega) (by omega) (lb_le ks x) (Nat.le_refl _)

theorem cmpCompareS_ok (a b : ByteArray) : V.cmp_Compare_string a b = some (cmpS a b) := by
  have nan : ∀ x : ByteArray, V.cmp_isNaN_string x = some false := fun x => V.cmp_isNaN_string.of x (by unfold F.cmp_isNaN_string.B; rw [strEq_self]; rfl)
  refine V.cmp_Compare_string.of a b ?_
  unfold F.cmp_Compare_string.B cmpS
  rw [nan, nan, Option.bind_some, Option.bind_some, lt_or]
  cases strLt a b <;> cases strLt b a <;> rfl
theorem cmpS_neg (a b : ByteArray) : decide (cmpS a b < 0) = strLt a b := by
  unfold cmpS
  cases strLt a b <;> cases strLt b a <;> rfl
theorem cmpS_zero (a b : ByteArray) : (cmpS a b == 0) = decide (a = b) := by
  by_cases h : a = b
  · subst h; simp [cmpS, lt_irr]
  · unfold cmpS
    cases h1 : strLt a b with
    | true => simp [h]
    | false => simp [lt_total h1 h, h]

end Go.Proofs.YthbaafcoidjflaaGreatDoor.AE
end
section
set_option linter.unusedVariables false
set_option linter.unusedSimpArgs false
set_option maxRecDepth 20000
namespace Go.Proofs.YthbaafcoidjflaaGreatDoor.AE
open Go

end Go.Proofs.YthbaafcoidjflaaGreatDoor.AE
end
section
set_option linter.unusedVariables false
set_option linter.unusedSimpArgs false
set_option maxRecDepth 20000
namespace Go.Proofs.YthbaafcoidjflaaGreatDoor.AE
open Go

theorem up_of {ks : List ByteArray} (h : ∀ i (hi : i < ks.length), 0 < i → strLt (ks[i - 1]'(by omega)) ks[i] = true) : Up ks := by
  refine List.pairwise_iff_getElem.2 fun i j hi hj hij => ?_
  have main : ∀ d j (hj : j < ks.length), j = i + 1 + d → strLt ks[i] ks[j] = true := by
    intro d
    induction d with
    | zero =>
      intro j hj e
      have := h j hj (by omega)
      simpa [e] using this
    | succ d ih =>
      intro j hj e
      have h1 := ih (j - 1) (by omega) (by omega)
      exact lt_trans h1 (h j hj (by omega))
  exact main (j - (i + 1)) j hj (by omega)
end Go.Proofs.YthbaafcoidjflaaGreatDoor.AE
end
section
set_option linter.unusedVariables false
set_option linter.unusedSimpArgs false
namespace Go.Proofs.YthbaafcoidjflaaGreatDoor.AE
open Go

end Go.Proofs.YthbaafcoidjflaaGreatDoor.AE
end
section
set_option linter.unusedVariables false
set_option linter.unusedSimpArgs false
set_option maxRecDepth 20000
namespace Go.Proofs.YthbaafcoidjflaaGreatDoor.AE
open Go

theorem rowN_up {l : List ByteArray} (h : rowN l = 0) : Up l := by
  refine up_of fun i hi hp => ?_
  have := (rowN_zero h hi).2 hp
  rw [rd_get (e := .str) hi, rd_get (e := .str) (by omega : i - 1 < l.length)] at this
  exact this
end Go.Proofs.YthbaafcoidjflaaGreatDoor.AE
end
section
set_option linter.unusedVariables false
set_option linter.unusedSimpArgs false
set_option maxRecDepth 20000
namespace Go.Proofs.YthbaafcoidjflaaGreatDoor.AE
open Go

def layL {α : Type} (l : List α) (k : Nat) (x : α) : List α := l.take k ++ ([x] ++ l.drop k)
theorem insB_ok {α : Type} (l : List α) (x : α) {k : Nat} (hk : k ≤ l.length) (hn : l.length < nmax) : insB l (k : Int) [x] = some (layL l k x) := by
  unfold insB
  rw [guard_of (by simp; omega)]
  rfl
theorem insP_ok (l : List TProp) (x : TProp) {k : Nat} (hk : k ≤ l.length) (hn : l.length < nmax) : V.slices_Insert_apiPropapiProp l (k : Int) [x] = some (layL l k x) := V.slices_Insert_apiPropapiProp.of _ _ _ (insB_ok l x hk hn)

/-! ### Rows that rise by a key -/

section
variable {α : Type} {key : α → ByteArray} {l : List α} {x : ByteArray}

end

end Go.Proofs.YthbaafcoidjflaaGreatDoor.AE
end
section
set_option linter.unusedVariables false
set_option linter.unusedSimpArgs false
set_option maxRecDepth 20000
namespace Go.Proofs.YthbaafcoidjflaaGreatDoor.AE
open Go

end Go.Proofs.YthbaafcoidjflaaGreatDoor.AE
end
section
set_option linter.unusedVariables false
set_option linter.unusedSimpArgs false
set_option maxRecDepth 20000
namespace Go.Proofs.YthbaafcoidjflaaGreatDoor.AE
open Go

abbrev pids (l : List TProp) : List ByteArray := l.map fun p => p.1
theorem pids_get {l : List TProp} {i : Nat} (h : i < l.length) : (rd sProp l i).1 = (pids l)[i]'(by simpa using h) := by rw [rd_get (e := sProp) h, List.getElem_map]
theorem propsN_up {l : List TProp} (h : propsN l = 0) : Up (pids l) := by
  refine up_of fun i hi hp => ?_
  have hi' : i < l.length := by simpa using hi
  have := (propsN_zero h hi').2.2 hp
  rw [pids_get (by omega : i - 1 < l.length), pids_get hi'] at this
  exact this

/-- Rows that may be. -/
structure LP (a : List ByteArray) (l : List TProp) : Prop where
  na : a.length ≤ 8
  nl : l.length ≤ 8
  ua : Up a
  ul : Up (pids l)
theorem LP.of {a : List ByteArray} {l : List TProp} (h : restN a l = 0) : LP a l := by
  obtain ⟨h1, h2, h3⟩ := restN_zero h
  exact ⟨h1, propsN_len h3, rowN_up h2, propsN_up h3⟩

def setT (l : List TProp) (key : ByteArray) (v : TValue) : List TProp × Int :=
  if nameB key && valueB v then (if has (pids l) key then (l.set (lb (pids l) key) (key, v), 0) else if l.length ≥ 8 then ([], 5) else (layL l (lb (pids l) key) (key, v), 0)) else ([], 2)
theorem plb_len {l : List TProp} (s : ByteArray) : lb (pids l) s ≤ l.length := by simpa using lb_le (pids l) s
theorem plb_in {l : List TProp} {s : ByteArray} (hu : Up (pids l)) (h : has (pids l) s = true) : lb (pids l) s < l.length := by simpa using lb_in' hu h
where lb_in' {ks : List ByteArray} {x : ByteArray} (hu : Up ks) (h : has ks x = true) : lb ks x < ks.length := ((met_iff hu x).1 (has_iff.1 h)).1
/-! ### The same by the document -/

/-! ### Properties -/

theorem find1_ok (p : TProp) (x : ByteArray) : V.elem_find_1 p x = some (cmpS p.1 x) := by
  refine V.elem_find_1.of _ _ ?_
  unfold F.elem_find_1.B
  rw [cmpCompareS_ok, Option.bind_some]
theorem find_ok (l : List TProp) (x : ByteArray) (hu : Up (pids l)) (hb : l.length ≤ 1000) : V.elem_find l x = some ((lb (pids l) x : Int), has (pids l) x) := by
  refine V.elem_find.of _ _ ?_
  unfold F.elem_find.B
  suffices hS : V.slices_BinarySearchFunc_apiPropapiPropstring_by_elem_find_1 l x = some ((lb (pids l) x : Int), has (pids l) x) by rw [hS, Option.bind_some]
  refine V.slices_BinarySearchFunc_apiPropapiPropstring_by_elem_find_1.of _ _ ?_
  unfold F.slices_BinarySearchFunc_apiPropapiPropstring_by_elem_find_1.B
  have hl : (pids l).length = l.length := by simp
  rw [show (l.length : Int) = ((pids l).length : Int) by simp]
  refine search_gen hu (V.slices_BinarySearchFunc_apiPropapiPropstring_by_elem_find_1.l11100 l x) (fun lo hi r h hh hr => ?_) (fun lo hlo => ?_)
  · refine V.slices_BinarySearchFunc_apiPropapiPropstring_by_elem_find_1.l11100.of _ _ _ _ ?_
    unfold F.slices_BinarySearchFunc_apiPropapiPropstring_by_elem_find_1.l11100.B
    rw [if_in h, half_nat (n := l.length) h (by omega) (by omega), guard_in (by omega), nat_cast, find1_ok, Option.bind_some, cmpS_neg, w64_up (n := l.length) (by omega) (by omega)]
    show (bif strLt (rd sProp l ((lo + hi) / 2)).1 x then _ else _) = _
    rw [pids_get (by omega), ← hr]
    cases strLt ((pids l)[(lo + hi) / 2]'(by omega)) x <;> rfl
  · refine V.slices_BinarySearchFunc_apiPropapiPropstring_by_elem_find_1.l11100.of _ _ _ _ ?_
    unfold F.slices_BinarySearchFunc_apiPropapiPropstring_by_elem_find_1.l11100.B
    rw [if_no (by omega)]
    rcases Nat.lt_or_ge lo l.length with h | h
    · rw [if_in h, guard_in h, nat_cast, find1_ok, Option.bind_some, cmpS_zero]
      show some ((lo : Int), decide ((rd sProp l lo).1 = x)) = _
      rw [pids_get h, List.getElem?_eq_getElem (by omega)]
      simp
    · rw [if_out h, List.getElem?_eq_none (by omega)]; simp
theorem Set_ok (l : List TProp) (key : ByteArray) (v : TValue) (hu : Up (pids l)) (hb : l.length ≤ 1000) (hs : key.size ≤ 140737488351232) : V.elem_Set l key v = some (setT l key v) := by
  refine V.elem_Set.of _ _ _ ?_
  unfold F.elem_Set.B setT
  rw [name_Check_ok key hs, Option.bind_some, show V.value_Check (v.1, v.2.1, v.2.2) = _ from value_Check_ok v, cloneP_ok l (by unfold nmax; omega), find_ok l key hu hb]
  cases nameB key with
  | false => rfl
  | true =>
    cases valueB v with
    | false => rfl
    | true =>
      cases h : has (pids l) key with
      | true =>
        have hk := plb_in hu h
        show guardK (decide (0 ≤ (lb (pids l) key : Int)) && decide ((lb (pids l) key : Int) < (l.length : Int))) (some (l.set (lb (pids l) key) ((rd sProp l (lb (pids l) key)).1, v.1, v.2.1, v.2.2), 0)) = _
        rw [guard_in hk, pids_get hk, ((met_iff hu key).1 (has_iff.1 h)).2]
        rfl
      | false =>
        show (bif decide ((l.length : Int) ≥ 8) then some ([], 5) else ((V.slices_Insert_apiPropapiProp l (lb (pids l) key : Int) [(key, v)]).bind fun t4 => some (t4, 0))) = _
        rw [insP_ok l _ (plb_len key) (by unfold nmax; omega), Option.bind_some]
        by_cases h8 : l.length ≥ 8
        · rw [if_yes (by omega)]; simp [h8]
        · rw [if_no (by omega)]; simp [h8]
end Go.Proofs.YthbaafcoidjflaaGreatDoor.AE
end
section
set_option linter.unusedVariables false
set_option linter.unusedSimpArgs false
set_option maxRecDepth 20000
namespace Go.Proofs.YthbaafcoidjflaaGreatDoor.AE
open Go

end Go.Proofs.YthbaafcoidjflaaGreatDoor.AE
end
section
set_option linter.unusedVariables false
set_option linter.unusedSimpArgs false
set_option maxRecDepth 20000
namespace Go.Proofs.YthbaafcoidjflaaGreatDoor.AE
open Go

theorem up_nil : Up [] := List.Pairwise.nil
end Go.Proofs.YthbaafcoidjflaaGreatDoor.AE
end
section
set_option linter.unusedVariables false
set_option linter.unusedSimpArgs false
set_option maxRecDepth 20000
namespace Go.Proofs.YthbaafcoidjflaaGreatDoor.AE
open Go

/-- The parts of an op. -/
abbrev oKey (o : TOp) : ByteArray := o.2.2.2.2.1
abbrev oVal (o : TOp) : TValue := o.2.2.2.2.2
structure okOp (o : TOp) : Prop where
  id : o.2.1.size ≤ 140737488351232
  fr : o.2.2.1.size ≤ 140737488351232
  to : o.2.2.2.1.size ≤ 140737488351232
  key : (oKey o).size ≤ 140737488351232
  vs : (oVal o).2.2.size ≤ 140737488351232
  vn : -9223372036854775808 ≤ (oVal o).2.1 ∧ (oVal o).2.1 ≤ 9223372036854775807

def rightB (o : TOp) : Bool :=
  nameB o.2.1 && (o.1 == 1 || o.1 == 2 || o.1 == 4 || (o.1 == 3 && (nameB o.2.2.1 && nameB o.2.2.2.1)) || ((o.1 == 5 || o.1 == 6 || o.1 == 7 || o.1 == 8 || o.1 == 10 || o.1 == 12) && nameB (oKey o)) || ((o.1 == 9 || o.1 == 11) && (nameB (oKey o) && valueB (oVal o))))

theorem right_end (o : TOp) (x : Bool) : V.graph_Right.j1111 o x = some (if x then 0 else 2) := by
  refine V.graph_Right.j1111.of _ _ ?_
  unfold F.graph_Right.j1111.B
  rw [V.graph_Right.j11111.of o (r := 0) rfl]
  cases x <;> rfl
theorem setT_nil (key : ByteArray) (v : TValue) : ((setT [] key v).2 == 0) = (nameB key && valueB v) := by
  unfold setT
  cases nameB key <;> cases valueB v <;> rfl
theorem right_3 (o : TOp) (h : okOp o) (x : Bool) : V.graph_Right.j1110101111111 o x = some (if x && (nameB (oKey o) && valueB (oVal o)) then 0 else 2) := by
  refine V.graph_Right.j1110101111111.of _ _ ?_
  unfold F.graph_Right.j1110101111111.B
  cases x with
  | false => exact right_end o false
  | true =>
    rw [show V.elem_Set [] o.2.2.2.2.1 (o.2.2.2.2.2.1, o.2.2.2.2.2.2.1, o.2.2.2.2.2.2.2) = _ from Set_ok [] (oKey o) (oVal o) up_nil (by simp) h.key, Option.bind_some, setT_nil, right_end]
    rfl
theorem right_2 (o : TOp) (h : okOp o) (x : Bool) : V.graph_Right.j11101011111 o x = some (if (x && nameB (oKey o)) || (!x && ((o.1 == 9 || o.1 == 11) && (nameB (oKey o) && valueB (oVal o)))) then 0 else 2) := by
  refine V.graph_Right.j11101011111.of _ _ ?_
  unfold F.graph_Right.j11101011111.B
  cases x with
  | true =>
    rw [name_Check_ok _ h.key, Option.bind_some, right_end]
    cases nameB (oKey o) <;> rfl
  | false =>
    rw [right_3 o h, right_3 o h]
    cases h9 : o.1 == 9 <;> simp
theorem right_1 (o : TOp) (h : okOp o) (x : Bool) : V.graph_Right.j1110101 o x = some (if x || ((o.1 == 3 && (nameB o.2.2.1 && nameB o.2.2.2.1)) || (!(o.1 == 3) && (((o.1 == 5 || o.1 == 6 || o.1 == 7 || o.1 == 8 || o.1 == 10 || o.1 == 12) && nameB (oKey o)) || (!(o.1 == 5 || o.1 == 6 || o.1 == 7 || o.1 == 8 || o.1 == 10 || o.1 == 12) && ((o.1 == 9 || o.1 == 11) && (nameB (oKey o) && valueB (oVal o))))))) then 0 else 2) := by
  refine V.graph_Right.j1110101.of _ _ ?_
  unfold F.graph_Right.j1110101.B
  rw [right_2 o h, right_2 o h, right_2 o h, right_2 o h, right_2 o h, right_2 o h]
  simp only [right_end, name_Check_ok _ h.fr, name_Check_ok _ h.to, Option.bind_some]
  cases x with
  | true => rfl
  | false =>
    cases h3 : o.1 == 3 with
    | true => cases nameB o.2.2.1 <;> cases nameB o.2.2.2.1 <;> rfl
    | false =>
      cases h5 : o.1 == 5 <;> cases h6 : o.1 == 6 <;> cases h7 : o.1 == 7 <;> cases h8 : o.1 == 8 <;> cases h10 : o.1 == 10 <;> simp
theorem Right_ok (o : TOp) (h : okOp o) : V.graph_Right o = some (if rightB o then 0 else 2) := by
  refine V.graph_Right.of _ ?_
  unfold F.graph_Right.B rightB
  rw [name_Check_ok _ h.id, Option.bind_some, right_1 o h, right_1 o h, right_1 o h]
  cases nameB o.2.1 with
  | false => rfl
  | true =>
    by_cases k1 : o.1 = 1
    · simp [k1]
    · by_cases k2 : o.1 = 2
      · simp [k2]
      · by_cases k4 : o.1 = 4
        · simp [k4]
        · by_cases k3 : o.1 = 3
          · simp [k3]
          · have e1 : (o.1 == 1) = false := by simpa using k1
            have e2 : (o.1 == 2) = false := by simpa using k2
            have e3 : (o.1 == 3) = false := by simpa using k3
            have e4 : (o.1 == 4) = false := by simpa using k4
            simp only [e1, e2, e3, e4]
            cases hq : (o.1 == 5 || o.1 == 6 || o.1 == 7 || o.1 == 8 || o.1 == 10 || o.1 == 12) with
            | false => simp
            | true =>
              have : (o.1 == 9 || o.1 == 11) = false := by
                simp only [Bool.or_eq_true, beq_iff_eq] at hq
                simp only [Bool.or_eq_false_iff, beq_eq_false_iff_ne]
                omega
              simp [this]
theorem refRight_ok (o : TOp) (h : okOp o) : V.pleachref26_Right o = some (rightB o) := by
  refine V.pleachref26_Right.of _ ?_
  unfold F.pleachref26_Right.B rightB
  rw [refIs_ok _ h.id, Option.bind_some, refIs_ok _ h.fr, refIs_ok _ h.to, refIs_ok _ h.key, show V.pleachref06_Is (o.2.2.2.2.2.1, o.2.2.2.2.2.2.1, o.2.2.2.2.2.2.2) = _ from refVIs_ok (oVal o)]
  simp only [Option.bind_some]
  cases nameB o.2.1 with
  | false => rfl
  | true =>
    rw [Bool.not_true, cond_false]
    rcases Int.lt_or_le o.1 1 with g | g
    · rw [if_yes g]
      simp only [beq_false_of_ne (show o.1 ≠ 1 by omega), beq_false_of_ne (show o.1 ≠ 2 by omega), beq_false_of_ne (show o.1 ≠ 3 by omega), beq_false_of_ne (show o.1 ≠ 4 by omega), beq_false_of_ne (show o.1 ≠ 5 by omega), beq_false_of_ne (show o.1 ≠ 6 by omega), beq_false_of_ne (show o.1 ≠ 7 by omega), beq_false_of_ne (show o.1 ≠ 8 by omega), beq_false_of_ne (show o.1 ≠ 9 by omega), beq_false_of_ne (show o.1 ≠ 10 by omega), beq_false_of_ne (show o.1 ≠ 11 by omega), beq_false_of_ne (show o.1 ≠ 12 by omega)]
      rfl
    · rw [if_no (by omega)]
      rcases Int.lt_or_le 12 o.1 with g2 | g2
      · rw [if_yes (by omega)]
        simp only [beq_false_of_ne (show o.1 ≠ 1 by omega), beq_false_of_ne (show o.1 ≠ 2 by omega), beq_false_of_ne (show o.1 ≠ 3 by omega), beq_false_of_ne (show o.1 ≠ 4 by omega), beq_false_of_ne (show o.1 ≠ 5 by omega), beq_false_of_ne (show o.1 ≠ 6 by omega), beq_false_of_ne (show o.1 ≠ 7 by omega), beq_false_of_ne (show o.1 ≠ 8 by omega), beq_false_of_ne (show o.1 ≠ 9 by omega), beq_false_of_ne (show o.1 ≠ 10 by omega), beq_false_of_ne (show o.1 ≠ 11 by omega), beq_false_of_ne (show o.1 ≠ 12 by omega)]
        rfl
      · rw [if_no (by omega)]
        have : o.1 = 1 ∨ o.1 = 2 ∨ o.1 = 3 ∨ o.1 = 4 ∨ o.1 = 5 ∨ o.1 = 6 ∨ o.1 = 7 ∨ o.1 = 8 ∨ o.1 = 9 ∨ o.1 = 10 ∨ o.1 = 11 ∨ o.1 = 12 := by omega
        rcases this with e | e | e | e | e | e | e | e | e | e | e | e <;> rw [e] <;> first
          | rfl
          | (cases nameB o.2.2.1 <;> cases nameB o.2.2.2.1 <;> rfl)
          | (cases nameB (oKey o) <;> rfl)
          | (cases nameB (oKey o) <;> cases valueB (oVal o) <;> rfl)

end Go.Proofs.YthbaafcoidjflaaGreatDoor.AE
end
section
set_option linter.unusedVariables false
set_option linter.unusedSimpArgs false
namespace Go.Proofs.YthbaafcoidjflaaGreatDoor.AE
open Go
abbrev eS : ByteArray := ⟨#[]⟩
abbrev noS : ByteArray := ⟨#[45]⟩
abbrev cName (c : TCall) : ByteArray := c.2.1
abbrev cOld (c : TCall) : ByteArray := c.2.2.1
abbrev cHash (c : TCall) : ByteArray := c.2.2.2.1
abbrev cOther (c : TCall) : ByteArray := c.2.2.2.2.1
abbrev cOps (c : TCall) : List TOp := c.2.2.2.2.2.1
abbrev cNote (c : TCall) : ByteArray := c.2.2.2.2.2.2.1
abbrev cId (c : TCall) : ByteArray := c.2.2.2.2.2.2.2
def wordsT : List ByteArray := [(⟨#[]⟩ : ByteArray), (⟨#[99, 111, 109, 109, 105, 116]⟩ : ByteArray), (⟨#[98, 114, 97, 110, 99, 104]⟩ : ByteArray), (⟨#[116, 97, 103]⟩ : ByteArray), (⟨#[109, 111, 118, 101]⟩ : ByteArray), (⟨#[100, 101, 108, 101, 116, 101]⟩ : ByteArray), (⟨#[117, 110, 116, 97, 103]⟩ : ByteArray), (⟨#[99, 104, 101, 99, 107, 111, 117, 116]⟩ : ByteArray), (⟨#[110, 111, 100, 101]⟩ : ByteArray), (⟨#[111, 117, 116]⟩ : ByteArray), (⟨#[105, 110]⟩ : ByteArray), (⟨#[108, 97, 98, 101, 108, 108, 101, 100]⟩ : ByteArray), (⟨#[100, 105, 102, 102]⟩ : ByteArray), (⟨#[109, 101, 114, 103, 101]⟩ : ByteArray), (⟨#[98, 97, 115, 101]⟩ : ByteArray), (⟨#[108, 111, 103]⟩ : ByteArray), (⟨#[114, 101, 102, 115]⟩ : ByteArray), (⟨#[114, 101, 112, 97, 99, 107]⟩ : ByteArray), (⟨#[99, 111, 108, 108, 101, 99, 116]⟩ : ByteArray), (⟨#[115, 116, 97, 116]⟩ : ByteArray)]
def signsT : List ByteArray := [(⟨#[]⟩ : ByteArray), (⟨#[43, 110, 111, 100, 101]⟩ : ByteArray), (⟨#[45, 110, 111, 100, 101]⟩ : ByteArray), (⟨#[43, 101, 100, 103, 101]⟩ : ByteArray), (⟨#[45, 101, 100, 103, 101]⟩ : ByteArray), (⟨#[43, 108, 97, 98, 101, 108]⟩ : ByteArray), (⟨#[45, 108, 97, 98, 101, 108]⟩ : ByteArray), (⟨#[43, 109, 97, 114, 107]⟩ : ByteArray), (⟨#[45, 109, 97, 114, 107]⟩ : ByteArray), (⟨#[43, 112, 114, 111, 112]⟩ : ByteArray), (⟨#[45, 112, 114, 111, 112]⟩ : ByteArray), (⟨#[43, 97, 116, 116, 114]⟩ : ByteArray), (⟨#[45, 97, 116, 116, 114]⟩ : ByteArray)]
def wordV (k : Int) : ByteArray := if 1 ≤ k ∧ k ≤ 19 then rd .str wordsT k.toNat else eS
def signV (k : Int) : ByteArray := if 1 ≤ k ∧ k ≤ 12 then rd .str signsT k.toNat else eS
theorem words_ok (k : Int) : V.line_words k = some (wordV k) := by
  apply V.line_words.of; unfold F.line_words.B wordV
  by_cases h1 : k < 1
  · rw [if_yes h1, if_neg (by omega)]
  · by_cases h2 : k ≥ 20
    · rw [if_no h1, if_yes h2, if_neg (by omega)]
    · rw [if_no h1, if_no h2, if_pos (by omega), guard_of (by simp; omega)]; rfl
theorem signs_ok (k : Int) : V.line_signs k = some (signV k) := by
  apply V.line_signs.of; unfold F.line_signs.B signV
  by_cases h1 : k < 1
  · rw [if_yes h1, if_neg (by omega)]
  · by_cases h2 : k ≥ 13
    · rw [if_no h1, if_yes h2, if_neg (by omega)]
    · rw [if_no h1, if_no h2, if_pos (by omega), guard_of (by simp; omega)]; rfl

def optV (s : ByteArray) : ByteArray := if s = eS then noS else s
def freeV (s : ByteArray) : ByteArray := if s = noS then eS else s
theorem opt_ok (s : ByteArray) : V.line_optional s = some (optV s) := by
  apply V.line_optional.of; unfold F.line_optional.B optV
  rw [strEq_dec]
  by_cases h : s = eS
  · rw [if_yes h, if_pos h]
  · rw [if_no h, if_neg h]
theorem free_ok (s : ByteArray) : V.line_call_1 s = some (freeV s) := by
  apply V.line_call_1.of; unfold F.line_call_1.B freeV
  rw [strEq_dec]
  by_cases h : s = noS
  · rw [if_yes h, if_pos h]
  · rw [if_no h, if_neg h]

/-! ### Fields -/
def fields5 (c : TCall) (b : Bool) : List ByteArray := if b then [cHash c, cOther c] else if c.1 == 13 then [cName c, cOld c, cHash c, optV (cNote c)] else []
def fields4 (c : TCall) (b : Bool) : List ByteArray := if b then [cHash c, cId c] else fields5 c (c.1 == 12 || c.1 == 14)
def fields3 (c : TCall) (b : Bool) : List ByteArray := if b then [cHash c] else fields4 c (c.1 == 8 || c.1 == 9 || c.1 == 10 || c.1 == 11)
def fields2 (c : TCall) (b : Bool) : List ByteArray := if b then [cName c, cOld c] else fields3 c (c.1 == 7 || c.1 == 15)
def fields1 (c : TCall) (b : Bool) : List ByteArray := if b then [cName c, cHash c] else if c.1 == 4 then [cName c, cOld c, cHash c] else fields2 c (c.1 == 5 || c.1 == 6)
def fieldsV (c : TCall) : List ByteArray := if c.1 == 1 then [cName c, optV (cOld c), optV (cNote c)] else fields1 c (c.1 == 2 || c.1 == 3)
theorem f5_ok (c : TCall) (b : Bool) : V.line_fields.j10101111111111111 c b = some (fields5 c b) := by
  apply V.line_fields.j10101111111111111.of; unfold F.line_fields.j10101111111111111.B fields5
  rw [opt_ok, Option.bind_some, V.line_fields.j11.of c rfl]
  cases b <;> cases h : (c.1 == 13) <;> simp [h]
theorem f4_ok (c : TCall) (b : Bool) : V.line_fields.j101011111111111 c b = some (fields4 c b) := by
  apply V.line_fields.j101011111111111.of; unfold F.line_fields.j101011111111111.B fields4
  rw [f5_ok, f5_ok]
  cases b <;> cases h : (c.1 == 12) <;> simp [h]
theorem f3_ok (c : TCall) (b : Bool) : V.line_fields.j1010111111111 c b = some (fields3 c b) := by
  apply V.line_fields.j1010111111111.of; unfold F.line_fields.j1010111111111.B fields3
  simp only [f4_ok]
  cases b <;> cases h : (c.1 == 8) <;> cases h1 : (c.1 == 9) <;> cases h2 : (c.1 == 10) <;> simp [h, h1, h2]
theorem f2_ok (c : TCall) (b : Bool) : V.line_fields.j10101111111 c b = some (fields2 c b) := by
  apply V.line_fields.j10101111111.of; unfold F.line_fields.j10101111111.B fields2
  simp only [f3_ok]
  cases b <;> cases h : (c.1 == 7) <;> simp [h]
theorem f1_ok (c : TCall) (b : Bool) : V.line_fields.j1010111 c b = some (fields1 c b) := by
  apply V.line_fields.j1010111.of; unfold F.line_fields.j1010111.B fields1
  simp only [f2_ok]
  cases b <;> cases h : (c.1 == 4) <;> cases h1 : (c.1 == 5) <;> simp [h, h1]
theorem fields_ok (c : TCall) : V.line_fields c = some (fieldsV c) := by
  apply V.line_fields.of; unfold F.line_fields.B fieldsV
  simp only [f1_ok, opt_ok, Option.bind_some]
  cases h : (c.1 == 1) <;> cases h1 : (c.1 == 2) <;> simp [h, h1]

/-! ### The call of fields -/
def mk (k : Int) (n o h x t i : ByteArray) : TCall × Bool := ((k, n, o, h, x, [], t, i), true)
theorem j5_ok (k : Int) (f : List ByteArray) (n o h x t i : ByteArray) : V.line_call.j11111 k f n o h x t i = some (mk k n o h x t i) := V.line_call.j11111.of _ _ _ _ _ _ _ _ rfl
abbrev at_ (f : List ByteArray) (i : Nat) : ByteArray := rd .str f i
def call5 (k : Int) (f : List ByteArray) (b : Bool) : TCall × Bool := if b then mk k eS eS (at_ f 0) (at_ f 1) eS eS else if k == 13 then mk k (at_ f 0) (at_ f 1) (at_ f 2) eS (freeV (at_ f 3)) eS else mk k eS eS eS eS eS eS
def call4 (k : Int) (f : List ByteArray) (b : Bool) : TCall × Bool := if b then mk k eS eS (at_ f 0) eS eS (at_ f 1) else call5 k f (k == 12 || k == 14)
def call3 (k : Int) (f : List ByteArray) (b : Bool) : TCall × Bool := if b then mk k eS eS (at_ f 0) eS eS eS else call4 k f (k == 8 || k == 9 || k == 10 || k == 11)
def call2 (k : Int) (f : List ByteArray) (b : Bool) : TCall × Bool := if b then mk k (at_ f 0) (at_ f 1) eS eS eS eS else call3 k f (k == 7 || k == 15)
def call1 (k : Int) (f : List ByteArray) (b : Bool) : TCall × Bool := if b then mk k (at_ f 0) eS (at_ f 1) eS eS eS else if k == 4 then mk k (at_ f 0) (at_ f 1) (at_ f 2) eS eS eS else call2 k f (k == 5 || k == 6)
abbrev bareK (k : Int) : TCall := (k, eS, eS, eS, eS, [], eS, eS)
def callV (k : Int) (f : List ByteArray) : TCall × Bool := if f.length ≠ (fieldsV (bareK k)).length then (bareK 0, false) else if k == 1 then mk k (at_ f 0) (freeV (at_ f 1)) eS eS (freeV (at_ f 2)) eS else call1 k f (k == 2 || k == 3)
theorem c5_ok (k : Int) (f : List ByteArray) (b : Bool) (h : f.length = (fields5 (bareK k) b).length) : V.line_call.j11110101111111111111 k f b = some (call5 k f b) := by
  apply V.line_call.j11110101111111111111.of; unfold F.line_call.j11110101111111111111.B call5
  unfold fields5 at h
  simp only [j5_ok, free_ok, Option.bind_some]
  cases b with
  | true => simp at h; simp [h, guard_tt]
  | false => cases h13 : (k == 13) <;> simp [h13] at h ⊢ <;> simp [h, guard_tt]
theorem c4_ok (k : Int) (f : List ByteArray) (b : Bool) (h : f.length = (fields4 (bareK k) b).length) : V.line_call.j111101011111111111 k f b = some (call4 k f b) := by
  apply V.line_call.j111101011111111111.of; unfold F.line_call.j111101011111111111.B call4
  unfold fields4 at h
  simp only [j5_ok]
  cases b with
  | true => simp at h; simp [h, guard_tt]
  | false =>
    simp only [Bool.false_eq_true, if_false, cond_false] at h ⊢
    by_cases h1 : k = 12
    · subst h1; exact c5_ok _ f _ h
    · rw [show (k == 12) = false by simpa using h1] at h ⊢
      exact c5_ok _ f _ h
theorem c3_ok (k : Int) (f : List ByteArray) (b : Bool) (h : f.length = (fields3 (bareK k) b).length) : V.line_call.j1111010111111111 k f b = some (call3 k f b) := by
  apply V.line_call.j1111010111111111.of; unfold F.line_call.j1111010111111111.B call3
  unfold fields3 at h
  simp only [j5_ok]
  cases b with
  | true => simp at h; simp [h, guard_tt]
  | false =>
    simp only [Bool.false_eq_true, if_false, cond_false] at h ⊢
    by_cases h1 : k = 8
    · subst h1; exact c4_ok _ f _ h
    · rw [show (k == 8) = false by simpa using h1] at h ⊢
      by_cases h1 : k = 9
      · subst h1; exact c4_ok _ f _ h
      · rw [show (k == 9) = false by simpa using h1] at h ⊢
        by_cases h1 : k = 10
        · subst h1; exact c4_ok _ f _ h
        · rw [show (k == 10) = false by simpa using h1] at h ⊢
          exact c4_ok _ f _ h
theorem c2_ok (k : Int) (f : List ByteArray) (b : Bool) (h : f.length = (fields2 (bareK k) b).length) : V.line_call.j11110101111111 k f b = some (call2 k f b) := by
  apply V.line_call.j11110101111111.of; unfold F.line_call.j11110101111111.B call2
  unfold fields2 at h
  simp only [j5_ok]
  cases b with
  | true => simp at h; simp [h, guard_tt]
  | false =>
    simp only [Bool.false_eq_true, if_false, cond_false] at h ⊢
    by_cases h1 : k = 7
    · subst h1; exact c3_ok _ f _ h
    · rw [show (k == 7) = false by simpa using h1] at h ⊢
      exact c3_ok _ f _ h
theorem c1_ok (k : Int) (f : List ByteArray) (b : Bool) (h : f.length = (fields1 (bareK k) b).length) : V.line_call.j1111010111 k f b = some (call1 k f b) := by
  apply V.line_call.j1111010111.of; unfold F.line_call.j1111010111.B call1
  unfold fields1 at h
  simp only [j5_ok]
  cases b with
  | true => simp at h; simp [h, guard_tt]
  | false =>
    simp only [Bool.false_eq_true, if_false, cond_false] at h ⊢
    by_cases h4 : k = 4
    · subst h4; simp at h; simp [h, guard_tt]
    · rw [show (k == 4) = false by simpa using h4] at h ⊢
      simp only [Bool.false_eq_true, if_false, cond_false] at h ⊢
      by_cases h1 : k = 5
      · subst h1; exact c2_ok _ f _ h
      · rw [show (k == 5) = false by simpa using h1] at h ⊢
        exact c2_ok _ f _ h
theorem call_ok (k : Int) (f : List ByteArray) (hf : f.length ≤ 1000000) : V.line_call k f = some (callV k f) := by
  apply V.line_call.of; unfold F.line_call.B callV
  rw [show V.line_fields (k, (⟨#[]⟩ : ByteArray), (⟨#[]⟩ : ByteArray), (⟨#[]⟩ : ByteArray), (⟨#[]⟩ : ByteArray), [], (⟨#[]⟩ : ByteArray), (⟨#[]⟩ : ByteArray)) = some (fieldsV (bareK k)) from fields_ok _, Option.bind_some]
  by_cases h : f.length = (fieldsV (bareK k)).length
  · rw [show ((f.length : Int) != ((fieldsV (bareK k)).length : Int)) = false by simp [h], cond_false, if_neg (fun g => g h)]
    unfold fieldsV at h
    by_cases h1 : k = 1
    · subst h1
      simp at h
      simp [h, guard_tt, free_ok, j5_ok]
    · rw [show (k == 1) = false by simpa using h1] at h ⊢
      simp only [Bool.false_eq_true, if_false, cond_false] at h ⊢
      by_cases h2 : k = 2
      · subst h2; exact c1_ok _ f _ h
      · rw [show (k == 2) = false by simpa using h2] at h ⊢
        exact c1_ok _ f _ h
  · rw [show ((f.length : Int) != ((fieldsV (bareK k)).length : Int)) = true by simp; omega, cond_true, if_pos h]

/-! ### May a call's names stand in a line? -/
def comB (s : ByteArray) : Bool := (progN s).isSome
theorem com_ok {s : ByteArray} (hs : s.size ≤ 140737488351232) : V.line_commitName s = some (comB s) := by
  apply V.line_commitName.of; unfold F.line_commitName.B comB
  rw [Number_ok hs, Option.bind_some]
  cases progN s <;> rfl
structure okC (c : TCall) : Prop where
  n : (cName c).size ≤ 140737488351232
  o : (cOld c).size ≤ 140737488351232
  h : (cHash c).size ≤ 140737488351232
  x : (cOther c).size ≤ 140737488351232
  t : (cNote c).size ≤ 140737488351232
  i : (cId c).size ≤ 140737488351232
  l : (cOps c).length ≤ 140737488351232
  ops : ∀ o ∈ cOps c, okOp o
def may6 (c : TCall) (b : Bool) : Bool := if b then comB (cHash c) && comB (cOther c) else true
def may5 (c : TCall) (b : Bool) : Bool := if b then comB (cHash c) && nameB (cId c) else may6 c (c.1 == 12 || c.1 == 14)
def may4 (c : TCall) (b : Bool) : Bool := if b then comB (cHash c) else may5 c (c.1 == 8 || c.1 == 9 || c.1 == 10 || c.1 == 11)
def may3 (c : TCall) (b : Bool) : Bool := if b then nameB (cName c) && comB (cOld c) else may4 c (c.1 == 7 || c.1 == 15)
def may2 (c : TCall) (b : Bool) : Bool := if b then nameB (cName c) && (comB (cOld c) && comB (cHash c)) else may3 c (c.1 == 5 || c.1 == 6)
def may1 (c : TCall) (b : Bool) : Bool := if b then nameB (cName c) && comB (cHash c) else may2 c (c.1 == 4 || c.1 == 13)
def mayV (c : TCall) : Bool := if c.1 == 1 then nameB (cName c) && (decide (cOld c = eS) || comB (cOld c)) else may1 c (c.1 == 2 || c.1 == 3)
theorem check_eq (b : Bool) : ((if b then (0 : Int) else 2) == 0) = b := by cases b <;> rfl
theorem m6_ok (c : TCall) (hc : okC c) (b : Bool) : V.line_mayName.j10101111111111111 c b = some (may6 c b) := by
  apply V.line_mayName.j10101111111111111.of; unfold F.line_mayName.j10101111111111111.B may6
  rw [V.line_mayName.j11.of c rfl, com_ok hc.h, com_ok hc.x]
  cases b <;> cases comB (cHash c) <;> rfl
theorem m5_ok (c : TCall) (hc : okC c) (b : Bool) : V.line_mayName.j101011111111111 c b = some (may5 c b) := by
  apply V.line_mayName.j101011111111111.of; unfold F.line_mayName.j101011111111111.B may5
  simp only [m6_ok c hc, com_ok hc.h, name_Check_ok _ hc.i, Option.bind_some, check_eq]
  cases b <;> cases comB (cHash c) <;> cases h : (c.1 == 12) <;> simp [h]
theorem m4_ok (c : TCall) (hc : okC c) (b : Bool) : V.line_mayName.j1010111111111 c b = some (may4 c b) := by
  apply V.line_mayName.j1010111111111.of; unfold F.line_mayName.j1010111111111.B may4
  simp only [m5_ok c hc, com_ok hc.h, Option.bind_some]
  cases b <;> cases h : (c.1 == 8) <;> cases h1 : (c.1 == 9) <;> cases h2 : (c.1 == 10) <;> simp [h, h1, h2]
theorem m3_ok (c : TCall) (hc : okC c) (b : Bool) : V.line_mayName.j10101111111 c b = some (may3 c b) := by
  apply V.line_mayName.j10101111111.of; unfold F.line_mayName.j10101111111.B may3
  simp only [m4_ok c hc, com_ok hc.o, name_Check_ok _ hc.n, Option.bind_some, check_eq]
  cases b <;> cases nameB (cName c) <;> cases h : (c.1 == 7) <;> simp [h]
theorem m2_ok (c : TCall) (hc : okC c) (b : Bool) : V.line_mayName.j101011111 c b = some (may2 c b) := by
  apply V.line_mayName.j101011111.of; unfold F.line_mayName.j101011111.B may2
  simp only [m3_ok c hc, com_ok hc.o, com_ok hc.h, name_Check_ok _ hc.n, Option.bind_some, check_eq]
  cases b <;> cases nameB (cName c) <;> cases comB (cOld c) <;> cases h : (c.1 == 5) <;> simp [h]
theorem m1_ok (c : TCall) (hc : okC c) (b : Bool) : V.line_mayName.j1010111 c b = some (may1 c b) := by
  apply V.line_mayName.j1010111.of; unfold F.line_mayName.j1010111.B may1
  simp only [m2_ok c hc, com_ok hc.h, name_Check_ok _ hc.n, Option.bind_some, check_eq]
  cases b <;> cases nameB (cName c) <;> cases h : (c.1 == 4) <;> simp [h]
theorem may_ok (c : TCall) (hc : okC c) : V.line_mayName c = some (mayV c) := by
  apply V.line_mayName.of; unfold F.line_mayName.B mayV
  simp only [m1_ok c hc, com_ok hc.o, name_Check_ok _ hc.n, Option.bind_some, check_eq, strEq_dec]
  cases h : (c.1 == 1) <;> cases h1 : (c.1 == 2) <;> cases nameB (cName c) <;> by_cases h2 : cOld c = eS <;> simp [h, h1, h2]
end Go.Proofs.YthbaafcoidjflaaGreatDoor.AE
end
section
set_option linter.unusedVariables false
set_option linter.unusedSimpArgs false
set_option maxRecDepth 20000
namespace Go.Proofs.YthbaafcoidjflaaGreatDoor.AE
open Go

abbrev zOp : TOp := (0, eS, eS, eS, eS, 0, 0, eS)
def six (k : Int) : Bool := k == 5 || k == 6 || k == 7 || k == 8 || k == 10 || k == 12
def opFieldsV (o : TOp) : List ByteArray := if o.1 == 3 then [o.2.1, o.2.2.1, o.2.2.2.1] else if six o.1 then [o.2.1, oKey o] else if o.1 == 9 || o.1 == 11 then [o.2.1, oKey o, showB (oVal o)] else [o.2.1]
theorem opFields_ok (o : TOp) (hb : in64 (oVal o).2.1) : V.line_opFields o = some (opFieldsV o) := by
  apply V.line_opFields.of; unfold F.line_opFields.B opFieldsV six
  rw [show V.value_Show (o.2.2.2.2.2.1, o.2.2.2.2.2.2.1, o.2.2.2.2.2.2.2) = some (showB (oVal o)) from value_Show_ok (oVal o) hb]
  simp only [Option.bind_some]
  cases h3 : (o.1 == 3)
  · cases h5 : (o.1 == 5)
    · cases h6 : (o.1 == 6)
      · cases h7 : (o.1 == 7)
        · cases h8 : (o.1 == 8)
          · cases h10 : (o.1 == 10)
            · cases h12 : (o.1 == 12)
              · cases h9 : (o.1 == 9) <;> cases h11 : (o.1 == 11) <;> rfl
              · rfl
            · rfl
          · rfl
        · rfl
      · rfl
    · rfl
  · rfl
abbrev bareO (k : Int) : TOp := (k, eS, eS, eS, eS, 0, 0, eS)
noncomputable def opV (k : Int) (f : List ByteArray) : TOp × Bool :=
  if k == 0 then (zOp, false) else if f.length ≠ (opFieldsV (bareO k)).length then (zOp, false) else
  if k == 3 then ((k, at_ f 0, at_ f 1, at_ f 2, eS, 0, 0, eS), rightB (k, at_ f 0, at_ f 1, at_ f 2, eS, 0, 0, eS)) else
  if k == 9 || k == 11 then (match parseF atoiV (at_ f 2) with | some v => ((k, at_ f 0, eS, eS, at_ f 1, v), rightB (k, at_ f 0, eS, eS, at_ f 1, v)) | none => (zOp, false)) else
  if f.length = 2 then ((k, at_ f 0, eS, eS, at_ f 1, 0, 0, eS), rightB (k, at_ f 0, eS, eS, at_ f 1, 0, 0, eS)) else
  ((k, at_ f 0, eS, eS, eS, 0, 0, eS), rightB (k, at_ f 0, eS, eS, eS, 0, 0, eS))
theorem atl_le {f : List ByteArray} {B : Nat} (h : ∀ s ∈ f, s.size ≤ B) (i : Nat) : (at_ f i).size ≤ B := by
  by_cases hi : i < f.length
  · exact h _ (rd_mem (e := .str) hi)
  · rw [show at_ f i = eS from by show f.getD i _ = _; simp [List.getD, List.getElem?_eq_none (show f.length ≤ i by omega)]; rfl]
    exact Nat.zero_le _
theorem eS_le (B : Nat) : eS.size ≤ B := Nat.zero_le _
theorem parse_sound {s : ByteArray} (hs : s.size ≤ 1000000) {v : TValue} (h : parseF atoiV s = some v) : valueB v = true ∧ in64 v.2.1 ∧ showB v = s := (parse_iff (f := atoiV) (fun n h => atoi_itoa h) atoiV_nil (fun s _ => atoiV_in s) (by omega) v).1 h
theorem right_of {o : TOp} (h : okOp o) : ∀ {r : Int}, V.graph_Right o = some r → (r == 0) = rightB o := fun {r} hr => by
  rw [Right_ok o h] at hr; cases hr; exact check_eq _
theorem op_ok (k : Int) (f : List ByteArray) (hl : f.length ≤ 1000000) (hs : ∀ s ∈ f, s.size ≤ 1000000) : V.line_op k f = some (opV k f) := by
  apply V.line_op.of; unfold F.line_op.B opV
  have z : in64 (0 : Int) := by unfold in64; omega
  have a0 := atl_le hs 0
  have a1 := atl_le hs 1
  have a2 := atl_le hs 2
  have e0 := eS_le 140737488351232
  have hO : ∀ (x0 x1 x2 x3 : ByteArray) (v : TValue), x0.size ≤ 140737488351232 → x1.size ≤ 140737488351232 → x2.size ≤ 140737488351232 → x3.size ≤ 140737488351232 → v.2.2.size ≤ 140737488351232 → in64 v.2.1 → V.graph_Right (k, x0, x1, x2, x3, v.1, v.2.1, v.2.2) = some (if rightB (k, x0, x1, x2, x3, v.1, v.2.1, v.2.2) then 0 else 2) := fun x0 x1 x2 x3 v h0 h1 h2 h3 h4 h5 => Right_ok _ ⟨h0, h1, h2, h3, h4, h5⟩
  rw [show V.line_opFields (k, (⟨#[]⟩ : ByteArray), (⟨#[]⟩ : ByteArray), (⟨#[]⟩ : ByteArray), (⟨#[]⟩ : ByteArray), 0, 0, (⟨#[]⟩ : ByteArray)) = some (opFieldsV (bareO k)) from opFields_ok _ z, Option.bind_some]
  cases h0 : (k == 0)
  · simp only [cond_false, Bool.false_eq_true, if_false]
    by_cases h : f.length = (opFieldsV (bareO k)).length
    · rw [show ((f.length : Int) != ((opFieldsV (bareO k)).length : Int)) = false by simp [h], cond_false, if_neg (fun g => g h)]
      have hp : 0 < f.length := by rw [h]; unfold opFieldsV; (repeat' split) <;> simp
      rw [guard_dec (show (0 : Int) < (f.length : Int) by omega)]
      unfold opFieldsV at h
      cases h3 : (k == 3)
      · simp only [h3, cond_false, Bool.false_eq_true, if_false] at h ⊢
        have val : (if six k = true then [eS, oKey (bareO k)] else if (k == 9 || k == 11) = true then [eS, oKey (bareO k), showB (oVal (bareO k))] else [eS]).length = f.length := h.symm
        have nine : (k == 9 || k == 11) = true → f.length = 3 := fun g => by
          have : six k = false := by
            simp only [Bool.or_eq_true, beq_iff_eq] at g
            rcases g with rfl | rfl <;> rfl
          rw [this, g] at val
          exact val.symm
        have vv : (k == 9 || k == 11) = true → (guardK (decide (2 < (f.length : Int))) ((V.value_Parse (at_ f 2)).bind fun t2 => (bif (t2.2 != 0) then (some (zOp, false)) else (guardK (decide (1 < (f.length : Int))) ((V.graph_Right (k, at_ f 0, eS, eS, at_ f 1, t2.1.1, t2.1.2.1, t2.1.2.2)).bind fun t3 => (some ((k, at_ f 0, eS, eS, at_ f 1, t2.1.1, t2.1.2.1, t2.1.2.2), (t3 == 0)))))))) = some (match parseF atoiV (at_ f 2) with | some v => ((k, at_ f 0, eS, eS, at_ f 1, v), rightB (k, at_ f 0, eS, eS, at_ f 1, v)) | none => (zOp, false)) := fun g => by
          have hl3 := nine g
          rw [guard_dec (by omega), Parse_ok a2, Option.bind_some]
          cases hv : parseF atoiV (at_ f 2) with
          | none => rfl
          | some v =>
            obtain ⟨v1, v2, v3⟩ := parse_sound a2 hv
            have hvs : v.2.2.size ≤ 140737488351232 := by have := (value_kind v1).2; omega
            simp only []
            rw [show ((0 : Int) != 0) = false from rfl, cond_false, guard_dec (by omega), hO _ _ _ _ v (by omega) e0 e0 (by omega) hvs v2, Option.bind_some, check_eq]
        have two : six k = false → (k == 9 || k == 11) = false → f.length = 1 := fun g1 g2 => by rw [g1, g2] at val; exact val.symm
        have rest : (k == 9 || k == 11) = false → (bif ((f.length : Int) == 2) then (guardK (decide (1 < (f.length : Int))) ((V.graph_Right (k, at_ f 0, eS, eS, at_ f 1, 0, 0, eS)).bind fun t4 => (some (((k, at_ f 0, eS, eS, at_ f 1, 0, 0, eS) : TOp), (t4 == 0))))) else ((V.graph_Right (k, at_ f 0, eS, eS, eS, 0, 0, eS)).bind fun t5 => (some (((k, at_ f 0, eS, eS, eS, 0, 0, eS) : TOp), (t5 == 0))))) = some (if f.length = 2 then ((k, at_ f 0, eS, eS, at_ f 1, 0, 0, eS), rightB (k, at_ f 0, eS, eS, at_ f 1, 0, 0, eS)) else ((k, at_ f 0, eS, eS, eS, 0, 0, eS), rightB (k, at_ f 0, eS, eS, eS, 0, 0, eS))) := fun g => by
          rw [hO (at_ f 0) eS eS (at_ f 1) (0, 0, eS) (by omega) e0 e0 (by omega) e0 z, hO (at_ f 0) eS eS eS (0, 0, eS) (by omega) e0 e0 e0 e0 z]
          simp only [Option.bind_some, check_eq]
          by_cases h2 : f.length = 2
          · rw [show ((f.length : Int) == 2) = true by simp [h2], cond_true, if_pos h2, guard_dec (by omega)]
          · rw [show ((f.length : Int) == 2) = false by simp; omega, cond_false, if_neg h2]
        cases h9 : (k == 9)
        · cases h11 : (k == 11)
          · have := rest (by rw [h9, h11]; rfl)
            simp only [cond_false, Bool.or_self, Bool.false_eq_true, if_false]
            exact this
          · have := vv (by rw [h9, h11]; rfl)
            simp only [cond_false, cond_true, Bool.or_true, if_true]
            exact this
        · have := vv (by rw [h9]; rfl)
          simp only [cond_true, Bool.true_or, if_true]
          exact this
      · simp only [h3, if_true] at h
        have hl3 : f.length = 3 := h
        have := hO (at_ f 0) (at_ f 1) (at_ f 2) eS (0, 0, eS) (by omega) (by omega) (by omega) e0 e0 z
        simp only [cond_true, if_true]
        rw [guard_dec (by omega), guard_dec (by omega), this]
        simp only [Option.bind_some, check_eq]
    · rw [show ((f.length : Int) != ((opFieldsV (bareO k)).length : Int)) = true by simp; omega, cond_true, if_pos h]
  · rfl
noncomputable def bareV (o : TOp) : TOp := (opV o.1 (opFieldsV o)).1
theorem opFieldsV_len (o : TOp) : (opFieldsV o).length ≤ 3 := by unfold opFieldsV; (repeat' split) <;> simp
theorem bare_ok (o : TOp) (hb : in64 (oVal o).2.1) (hs : ∀ s ∈ opFieldsV o, s.size ≤ 1000000) : V.line_bare o = some (bareV o) := by
  apply V.line_bare.of; unfold F.line_bare.B
  have h1 : V.line_opFields (o.1, o.2.1, o.2.2.1, o.2.2.2.1, o.2.2.2.2.1, o.2.2.2.2.2.1, o.2.2.2.2.2.2.1, o.2.2.2.2.2.2.2) = some (opFieldsV o) := opFields_ok o hb
  rw [h1]
  simp only [Option.bind_some]
  rw [op_ok _ _ (by have := opFieldsV_len o; omega) hs]
  simp only [Option.bind_some, meet_self]
  rfl
/-- An op has no part that its kind does not name. -/
def opBareB (o : TOp) : Bool := ((decide (o.2.2.1 = eS) && decide (o.2.2.2.1 = eS)) || o.1 == 3) && ((decide (oKey o = eS) || (six o.1 || o.1 == 9 || o.1 == 11)) && (decide (oVal o = (0, 0, eS)) || (o.1 == 9 || o.1 == 11)))
theorem right_kind {o : TOp} (h : rightB o = true) : 1 ≤ o.1 ∧ o.1 ≤ 12 ∧ nameB o.2.1 = true := by
  unfold rightB at h
  simp only [Bool.and_eq_true, Bool.or_eq_true, beq_iff_eq] at h
  obtain ⟨h0, h⟩ := h
  have : o.1 = 1 ∨ o.1 = 2 ∨ o.1 = 3 ∨ o.1 = 4 ∨ o.1 = 5 ∨ o.1 = 6 ∨ o.1 = 7 ∨ o.1 = 8 ∨ o.1 = 9 ∨ o.1 = 10 ∨ o.1 = 11 ∨ o.1 = 12 := by
    generalize nameB (oKey o) = q at h
    generalize nameB o.2.2.1 = q at h
    generalize nameB o.2.2.2.1 = q at h
    generalize valueB (oVal o) = q at h
    generalize o.1 = k at h ⊢
    rcases h with ((((h | h) | h) | ⟨h, _⟩) | ⟨h, _⟩) | ⟨h, _⟩ <;> omega
  exact ⟨by omega, by omega, h0⟩
theorem bareV_iff (o : TOp) (hb : in64 (oVal o).2.1) (h : rightB o = true) : (bareV o = o) ↔ opBareB o = true := by
  obtain ⟨k1, k2, hn⟩ := right_kind h
  obtain ⟨k, i, fr, to, key, v⟩ := o
  simp only at k1 k2 hn hb
  have hk : k = 1 ∨ k = 2 ∨ k = 3 ∨ k = 4 ∨ k = 5 ∨ k = 6 ∨ k = 7 ∨ k = 8 ∨ k = 9 ∨ k = 10 ∨ k = 11 ∨ k = 12 := by omega
  have pv : valueB v = true → parseF atoiV (showB v) = some v := fun hv => by
    have := (parse_iff (f := atoiV) (fun n h => atoi_itoa h) atoiV_nil (fun s _ => atoiV_in s) (s := showB v) (by have := showB_le v hb; omega) v).2 ⟨hv, hb, rfl⟩
    exact this
  have sym : ∀ (a b : ByteArray), (a = b) = (b = a) := fun a b => propext ⟨Eq.symm, Eq.symm⟩
  rcases hk with rfl | rfl | rfl | rfl | rfl | rfl | rfl | rfl | rfl | rfl | rfl | rfl
  case inr.inr.inr.inr.inr.inr.inr.inr.inl =>
    have hv : valueB v = true := by simp [rightB] at h; exact h.2.2
    have e : bareV (9, i, fr, to, key, v) = (9, i, eS, eS, key, v) := by
      show (match parseF atoiV (showB v) with | some v => (((9, i, eS, eS, key, v) : TOp), rightB (9, i, eS, eS, key, v)) | none => (zOp, false)).1 = _
      rw [pv hv]
    rw [e]; simp [opBareB, six, Prod.ext_iff, sym eS]
  case inr.inr.inr.inr.inr.inr.inr.inr.inr.inr.inl =>
    have hv : valueB v = true := by simp [rightB] at h; exact h.2.2
    have e : bareV (11, i, fr, to, key, v) = (11, i, eS, eS, key, v) := by
      show (match parseF atoiV (showB v) with | some v => (((11, i, eS, eS, key, v) : TOp), rightB (11, i, eS, eS, key, v)) | none => (zOp, false)).1 = _
      rw [pv hv]
    rw [e]; simp [opBareB, six, Prod.ext_iff, sym eS]
  case inr.inr.inl =>
    rw [show bareV (3, i, fr, to, key, v) = (3, i, fr, to, eS, 0, 0, eS) from rfl]
    simp [opBareB, six, Prod.ext_iff, sym eS, eq_comm (a := (0 : Int))]
  case inl => 
    rw [show bareV (1, i, fr, to, key, v) = (1, i, eS, eS, eS, 0, 0, eS) from rfl]
    simp [opBareB, six, Prod.ext_iff, sym eS, eq_comm (a := (0 : Int)), and_assoc]
  case inr.inl => 
    rw [show bareV (2, i, fr, to, key, v) = (2, i, eS, eS, eS, 0, 0, eS) from rfl]
    simp [opBareB, six, Prod.ext_iff, sym eS, eq_comm (a := (0 : Int)), and_assoc]
  case inr.inr.inr.inl => 
    rw [show bareV (4, i, fr, to, key, v) = (4, i, eS, eS, eS, 0, 0, eS) from rfl]
    simp [opBareB, six, Prod.ext_iff, sym eS, eq_comm (a := (0 : Int)), and_assoc]
  all_goals
    (try rw [show bareV (5, i, fr, to, key, v) = (5, i, eS, eS, key, 0, 0, eS) from rfl])
    (try rw [show bareV (6, i, fr, to, key, v) = (6, i, eS, eS, key, 0, 0, eS) from rfl])
    (try rw [show bareV (7, i, fr, to, key, v) = (7, i, eS, eS, key, 0, 0, eS) from rfl])
    (try rw [show bareV (8, i, fr, to, key, v) = (8, i, eS, eS, key, 0, 0, eS) from rfl])
    (try rw [show bareV (10, i, fr, to, key, v) = (10, i, eS, eS, key, 0, 0, eS) from rfl])
    (try rw [show bareV (12, i, fr, to, key, v) = (12, i, eS, eS, key, 0, 0, eS) from rfl])
    simp [opBareB, six, Prod.ext_iff, sym eS, eq_comm (a := (0 : Int)), and_assoc]
end Go.Proofs.YthbaafcoidjflaaGreatDoor.AE
end
