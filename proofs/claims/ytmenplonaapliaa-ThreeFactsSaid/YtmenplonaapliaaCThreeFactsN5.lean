/- The evaluator of the program's form, its soundness, the functions of the given program as it evaluates them, and laws on these. Conditions: as each theorem says. -/
import Derived.Test.YtmenplonaapliaaCThreeFactsN4
import Derived.Test.YtmenplonaapliaaRows
import Derived.Test.YtmenplonaapliaaCThreeFactsN2
import Derived.WalkKit
import Derived.ProofKit
import Derived.OpenShut
import Derived.ShutString
import Derived.ChangeOld
import Derived.Below
import Derived.SizedLaws
section
set_option linter.unusedVariables false
set_option linter.unusedSimpArgs false
set_option maxRecDepth 20000
namespace Go.Proofs.Ytmenplonaapliaa.AE
open Go
theorem Same28_l (l : List TConflict) (hl : l.length ≤ 140737488351232) : ∀ d i : Nat, i + d = l.length → V.pleachref28_Same.l11010 l l (i : Int) = some true
  | 0, i, h => by
    apply V.pleachref28_Same.l11010.of; unfold F.pleachref28_Same.l11010.B
    rw [if_out (by omega)]
  | d + 1, i, h => by
    have hi : i < l.length := by omega
    apply V.pleachref28_Same.l11010.of; unfold F.pleachref28_Same.l11010.B
    rw [if_in hi, guard_in hi, guard_in hi, w64_up hi (by omega)]
    simp only [strEq_self, beq_self_eq_true, Bool.and_true, Bool.not_true, cond_false]
    exact Same28_l l hl d (i + 1) (by omega)
theorem Same28_self (l : List TConflict) (hl : l.length ≤ 140737488351232) : V.pleachref28_Same l l = some true := by
  apply V.pleachref28_Same.of; unfold F.pleachref28_Same.B
  rw [show ((l.length : Int) != (l.length : Int)) = false by simp, cond_false]
  exact Same28_l l hl l.length 0 (by omega)
theorem answer_len (X Y Z : List TFact) (hl : X.length + Y.length + Z.length ≤ 100000) : (answer X Y Z).1.length ≤ 100000 ∧ (answer X Y Z).2.length ≤ 100000 := by
  have h1 := both_len (both X Y) Z
  have h2 := both_len X Y
  have hk : (allK X Y Z).length ≤ 100000 := by show (both (both X Y) Z).length ≤ _; omega
  unfold answer
  split
  · exact ⟨Nat.le_trans (List.length_filterMap_le _ _) hk, Nat.zero_le _⟩
  · exact ⟨Nat.zero_le _, Nat.le_trans (List.length_filterMap_le _ _) hk⟩
theorem okOf {f : TFact} (h : Gd sFact f) : okF f := ⟨h.2.1, h.2.2.2⟩
theorem ThreeFacts_pure (X Y Z : List TFact) (hX : X.length ≤ 140737488351232) (hY : Y.length ≤ 140737488351232) (hZ : Z.length ≤ 140737488351232) (oX : ∀ f ∈ X, okF f) (oY : ∀ f ∈ Y, okF f) (oZ : ∀ f ∈ Z, okF f) : V.pleachlaw28_ThreeFacts X Y Z = some true := by
  obtain ⟨r1, p1, q1⟩ := Few27_ok X hX
  obtain ⟨r2, p2, q2⟩ := Few27_ok Y hY
  obtain ⟨r3, p3, q3⟩ := Few27_ok Z hZ
  apply V.pleachlaw28_ThreeFacts.of; unfold F.pleachlaw28_ThreeFacts.B
  rw [p1, p2, p3, awake28, Rises_ok X hX, Rises_ok Y hY, Rises_ok Z hZ]
  simp only [Option.bind_some]
  cases r1 with
  | false => rfl
  | true =>
  cases r2 with
  | false => rfl
  | true =>
  cases r3 with
  | false => rfl
  | true =>
  have n1 := q1 rfl
  have n2 := q2 rfl
  have n3 := q3 rfl
  cases e1 : rises X with
  | false => rfl
  | true =>
  cases e2 : rises Y with
  | false => rfl
  | true =>
  cases e3 : rises Z with
  | false => rfl
  | true =>
  obtain ⟨a1, a2⟩ := answer_len X Y Z (by omega)
  simp only [Bool.not_true, cond_false]
  rw [Facts_ok X Y Z (by omega) (rises_rsq e1) (rises_rsq e2) (rises_rsq e3) oX oY oZ, Option.bind_some, rFacts_ok X Y Z (by omega) oX oY oZ, Option.bind_some, Same27_self _ (by omega), Option.bind_some, Same28_self _ (by omega)]
  rfl
end Go.Proofs.Ytmenplonaapliaa.AE
end
section
namespace Go.Proofs.Ytmenplonaapliaa.AE
open Go Go.ChangeShapes Go.WideShapes Go.ChangeAt Go.RowKit Go.Lib
variable {W₀ : World}
theorem weights_each {H : Type} {P : Program} {p : Nat → Bool} {ts : List TypeId} {ds : List (DataW H)} (h : (DataW.weightsEach P ts ds).all p = true) {j : Nat} {t : TypeId} {d : DataW H} (ht : ts[j]? = some t) (hd : ds[j]? = some d) : ∀ n ∈ d.weights P t, p n = true :=
  fun n hn => List.all_eq_true.1 h _ (DataW.weights_mem_each ht hd n hn)
theorem own : ownKnob Try.prog.godebug = none := by kernel_rfl
theorem laidOut : laidOutB Try.prog = true := by kernel_rfl
theorem mix : Try.prog.follows .mixedOrders = true := by kernel_rfl
theorem numGoB : (Try.prog.funcs.all fun fn => !(fn.name == "runtime.NumGoroutine")) = true := by kernel_rfl
theorem num (f : FuncId) (fn : Func) (h : Try.prog.funcs[f]? = some fn) : (fn.name == "runtime.NumGoroutine") = false := by
  have := Array.all_eq_true_iff_forall_mem.1 numGoB fn (Array.mem_of_getElem? h)
  simpa using this

theorem handed_shaped {H : Type} {enc : TypeId × Value → H} {a : Assume} {C : Checked} {os : Os} {f : FuncId} {fn : Func} {s : ChangeSpec} {conds : List PathCond} {apart fresh handsOn again : Bool} {X : World → Array Value → Prop}
    (hX : ∀ (w w' : World) (args : Array Value), w.heap = w'.heap → X w args → X w' args)
    (own : ownKnob C.prog.godebug = none) (started : os.Started) (noInit : C.prog.inits.idxOf? f = none) (hfn : C.prog.funcs[f]? = some fn)
    (witness : ∃ (w : World) (tape : Tape) (i : Input), w.os = os ∧ (w.forCall tape i).Shaped C.prog ∧ i.vars = [] ∧ Input.okWide C.prog (w.forCall tape i) .any w.heap.size f i ∧
      ((s.pre enc C.prog fn conds apart (w.forCall tape i).memory i.args ∧ X (w.forCall tape i).memory i.args) ∧ sizedMet enc C.prog fn (OpenSpec.ofChange s) apart (w.forCall tape i).memory i.args) ∧ a.holds C.prog (lone (Frame.enter C.prog f i.args .normal) [] (w.forCall tape i)))
    (contract : ∀ (W : World) (base : Nat) (args : Array Value) (ds gs : List (DataW H)) (before : List MemPlace),
      (∀ (j : Nat) t v, fn.params[j]? = some t → args[j]? = some v → Value.okWide C.prog W .any base t v) →
      DataW.Whole enc C.prog fn.params.toList s.vars apart W args.toList ds gs before →
      conds.all (PathCond.test C.prog ⟨fn.params.toList, ds, s.plain.varTypes C.prog, gs⟩) = true →
      (DataW.weightsEach C.prog (fn.params.toList ++ s.plain.varTypes C.prog) (ds ++ gs)).all (· ≤ reachBytes) = true → X W args ∧ W.ShapedOpen C.prog →
      a.holds C.prog (lone (Frame.enter C.prog f args .normal) [] W) →
      Calls C.prog f args W fun e W' => ∃ v, e = .returned v ∧ s.post enc C.prog fn apart fresh handsOn again W args v W') :
    ReturnsInHanded a C os f .any (fun w args => (s.pre enc C.prog fn conds apart w args ∧ X w args) ∧ sizedMet enc C.prog fn (OpenSpec.ofChange s) apart w args) (s.post enc C.prog fn apart fresh handsOn again) := by
  refine returnsInHanded_of_calls own started noInit witness ?_
  intro w tape i _ hsh _ hok hpre hholds
  obtain ⟨_, _, _, fn', hfn', _, _, _, _, hval⟩ := hok
  have e : fn' = fn := Option.some.inj (hfn'.symm.trans hfn)
  subst e
  obtain ⟨⟨⟨ds, gs, before, hw, hc⟩, hx⟩, hz⟩ := hpre
  have hw' := DataW.Whole.of_heap (w' := w.forCall tape i) (by rfl) hw
  refine (contract (w.forCall tape i) w.heap.size i.args ds gs before hval hw' hc (hz.weights hw) ⟨hX _ _ _ (by rfl) hx, hsh⟩ hholds).mono fun e W' ⟨v, he, hp⟩ => ?_
  subst he
  exact ChangeSpec.post_blind hp
theorem extok : ExtOk W₀ Try.prog sg := .of (show extAll W₀ Try.prog sgT from
  ⟨.nothing rfl rfl,
  ⟨.nothing rfl rfl,
  ⟨.nothing rfl rfl,
  ⟨.nothing rfl rfl,
  ⟨.nothing rfl rfl,
  ⟨.nothing rfl rfl,
  ⟨.nothing rfl rfl,
  ⟨.nothing rfl rfl,
  ⟨.nothing rfl rfl,
  ⟨.nothing rfl rfl,
  ⟨.nothing rfl rfl,
  ⟨.nothing rfl rfl,
  ⟨.nothing rfl rfl,
  ⟨.nothing rfl rfl,
  ⟨.nothing rfl rfl,
  ⟨.nothing rfl rfl,
  ⟨.nothing rfl rfl,
  ⟨.nothing rfl rfl,
  ⟨.nothing rfl rfl,
  ⟨.nothing rfl rfl,
  ⟨.nothing rfl rfl,
  ⟨.nothing rfl rfl,
  ⟨.nothing rfl rfl,
  ⟨.nothing rfl rfl,
  ⟨.nothing rfl rfl,
  ⟨.nothing rfl rfl,
  ⟨.nothing rfl rfl,
  ⟨.nothing rfl rfl,
  ⟨.nothing rfl rfl,
  ⟨.nothing rfl rfl,
  ⟨.nothing rfl rfl,
  ⟨.nothing rfl rfl,
  ⟨.nothing rfl rfl,
  ⟨.nothing rfl rfl,
  ⟨.nothing rfl rfl,
  ⟨.nothing rfl rfl,
  ⟨.nothing rfl rfl,
  ⟨.nothing rfl rfl,
  ⟨.nothing rfl rfl,
  ⟨.nothing rfl rfl,
  ⟨.nothing rfl rfl,
  ⟨.nothing rfl rfl,
  ⟨.nothing rfl rfl,
  ⟨.nothing rfl rfl,
  ⟨.nothing rfl rfl,
  ⟨.nothing rfl rfl,
  ⟨.nothing rfl rfl,
  ⟨.nothing rfl rfl,
  ⟨.nothing rfl rfl,
  ⟨.nothing rfl rfl,
  ⟨.nothing rfl rfl,
  ⟨.nothing rfl rfl,
  ⟨.nothing rfl rfl,
  ⟨.nothing rfl rfl,
  ⟨.nothing rfl rfl,
  ⟨.nothing rfl rfl,
  ⟨.nothing rfl rfl,
  ⟨.nothing rfl rfl,
  ⟨.nothing rfl rfl,
  ⟨.nothing rfl rfl,
  ⟨.nothing rfl rfl,
  ⟨.nothing rfl rfl,
  ⟨.nothing rfl rfl,
  ⟨.nothing rfl rfl,
  ⟨.ofOp rfl rfl (opCompare_ok Try.func89 (by kernel_rfl) (by kernel_rfl) (by kernel_rfl) (by kernel_rfl)),
  ⟨.nothing rfl rfl,
  ⟨.nothing rfl rfl,
  ⟨.nothing rfl rfl,
  ⟨.nothing rfl rfl,
  ⟨.nothing rfl rfl,
  ⟨.nothing rfl rfl,
  ⟨.nothing rfl rfl,
  ⟨.nothing rfl rfl,
  ⟨.nothing rfl rfl,
  ⟨.nothing rfl rfl,
  ⟨.nothing rfl rfl,
  ⟨.nothing rfl rfl,
  ⟨.nothing rfl rfl,
  ⟨.nothing rfl rfl,
  ⟨.ofOp rfl rfl (opIndexByte_ok Try.func120 (by kernel_rfl) (by kernel_rfl) (by kernel_rfl) (by kernel_rfl)),
  trivial⟩⟩⟩⟩⟩⟩⟩⟩⟩⟩⟩⟩⟩⟩⟩⟩⟩⟩⟩⟩⟩⟩⟩⟩⟩⟩⟩⟩⟩⟩⟩⟩⟩⟩⟩⟩⟩⟩⟩⟩⟩⟩⟩⟩⟩⟩⟩⟩⟩⟩⟩⟩⟩⟩⟩⟩⟩⟩⟩⟩⟩⟩⟩⟩⟩⟩⟩⟩⟩⟩⟩⟩⟩⟩⟩⟩⟩⟩⟩⟩)
end Go.Proofs.Ytmenplonaapliaa.AE
end
section
namespace Go.Proofs.Ytmenplonaapliaa.AE.threeFacts
open Go Go.ChangeShapes Go.WideShapes Go.ChangeAt Go.RowKit
open Go.ChangeMaps (open_string shut_string)
set_option linter.unusedVariables false
def Pure : Prop := ∀ (x0 : den ((.list (.prod (.int .i64) (.prod .str (.prod .str .str)))))) (x1 : den ((.list (.prod (.int .i64) (.prod .str (.prod .str .str)))))) (x2 : den ((.list (.prod (.int .i64) (.prod .str (.prod .str .str)))))), Gd ((.list (.prod (.int .i64) (.prod .str (.prod .str .str))))) x0 → Gd ((.list (.prod (.int .i64) (.prod .str (.prod .str .str))))) x1 → Gd ((.list (.prod (.int .i64) (.prod .str (.prod .str .str))))) x2 → ∃ K, F.pleachlaw28_ThreeFacts K x0 x1 x2 = some true
set_option maxRecDepth 100000 in
theorem lifted (pure : Pure) (os : Os) (started : os.Started) (H : Type) (enc : TypeId × Value → H) :
    ReturnsInHanded {} Try.checked os 4 .any (Rows.threeFactsSpec.pre6 enc Try.prog Try.f4 Rows.threeFactsRow.domain false) (Rows.threeFactsSpec.post enc Try.prog Try.f4 false true false false) := by
  refine returnsInHanded_of_change_sized (C := Try.checked) own started (by kernel_rfl) Try.func4
    (ChangeSpec.witness6 (enc := enc) (C := Try.checked) false ⟨#[], #[.slice none 0 0, .slice none 0 0, .slice none 0 0], []⟩ 8 (by kernel_rfl) (by kernel_rfl) (by kernel_rfl) (by kernel_rfl)) ?_
  intro W base args ds gs before hval0 hW hcnd hsz0 _
  have hsz : (DataW.weightsEach Try.prog (Try.f4.params.toList ++ Rows.threeFactsSpec.plain.varTypes Try.prog) (ds ++ gs)).all (· ≤ reachBytes) = true := hsz0
  have hval : ∀ (j : Nat) t v, Try.f4.params[j]? = some t → args[j]? = some v → Value.okWide Try.prog W .any base t v := hval0
  have hW' := hW
  obtain ⟨p, q, hA0, hV, rfl, hfz, hnd⟩ := hW
  have hA : DataW.TrodAll enc Try.prog W 0 (fun _ => true) true Try.f4.params.toList args.toList ds p := hA0
  rw [Try.params4] at hA hval hsz
  obtain ⟨v0, vs0, d0, ds0, p0, q0, hargs, rfl, rfl, h0, r0⟩ := trodAll_cons hA
  obtain ⟨v1, vs1, d1, ds1, p1, q1, rfl, rfl, rfl, h1, r1⟩ := trodAll_cons r0
  obtain ⟨v2, vs2, d2, ds2, p2, q2, rfl, rfl, rfl, h2, r2⟩ := trodAll_cons r1
  obtain ⟨rfl, rfl, rfl⟩ := trodAll_nil r2
  obtain rfl : args = #[v0, v1, v2] := by cases args; simp_all
  obtain ⟨rfl, rfl⟩ := trodVars_none hV
  have k0 := h0
  have lt0 : ∀ x ∈ p0, x.block < W.heap.size := by obtain ⟨m, hm⟩ := k0; exact DataW.trod_lt m _ _ _ hm
  obtain ⟨a0, len0, cap0, rfl⟩ := okWide_slice Try.underlying29 (hval 0 29 v0 rfl rfl)
  obtain ⟨fuel0, hf0⟩ := h0
  obtain ⟨x0, S0, G0⟩ := fitT_ok (O := OX (NoX (W₀ := W)) [] []) (fun b => own_none) 20 29 ((.list (.prod (.int .i64) (.prod .str (.prod .str .str))))) (by kernel_rfl) fuel0 _ _ hf0 (fun m hm => by have hq := weights_each hsz (j := 0) (t := 29) rfl rfl m hm; exact of_decide_eq_true hq)
  have k1 := h1
  have lt1 : ∀ x ∈ p1, x.block < W.heap.size := by obtain ⟨m, hm⟩ := k1; exact DataW.trod_lt m _ _ _ hm
  obtain ⟨a1, len1, cap1, rfl⟩ := okWide_slice Try.underlying29 (hval 1 29 v1 rfl rfl)
  obtain ⟨fuel1, hf1⟩ := h1
  obtain ⟨x1, S1, G1⟩ := fitT_ok (O := OX (NoX (W₀ := W)) [] []) (fun b => own_none) 20 29 ((.list (.prod (.int .i64) (.prod .str (.prod .str .str))))) (by kernel_rfl) fuel1 _ _ hf1 (fun m hm => by have hq := weights_each hsz (j := 1) (t := 29) rfl rfl m hm; exact of_decide_eq_true hq)
  have k2 := h2
  have lt2 : ∀ x ∈ p2, x.block < W.heap.size := by obtain ⟨m, hm⟩ := k2; exact DataW.trod_lt m _ _ _ hm
  obtain ⟨a2, len2, cap2, rfl⟩ := okWide_slice Try.underlying29 (hval 2 29 v2 rfl rfl)
  obtain ⟨fuel2, hf2⟩ := h2
  obtain ⟨x2, S2, G2⟩ := fitT_ok (O := OX (NoX (W₀ := W)) [] []) (fun b => own_none) 20 29 ((.list (.prod (.int .i64) (.prod .str (.prod .str .str))))) (by kernel_rfl) fuel2 _ _ hf2 (fun m hm => by have hq := weights_each hsz (j := 2) (t := 29) rfl rfl m hm; exact of_decide_eq_true hq)
  obtain ⟨K, hk⟩ := pure x0 x1 x2 G0 G1 G2
  have ha : AV1sR (OX (NoX (W₀ := W)) [] []) W [] [.sc (.list ((.prod (.int .i64) (.prod .str (.prod .str .str)))) x0 false), .sc (.list ((.prod (.int .i64) (.prod .str (.prod .str .str)))) x1 false), .sc (.list ((.prod (.int .i64) (.prod .str (.prod .str .str)))) x2 false)] (#[.slice a0 len0 cap0, .slice a1 len1 cap1, .slice a2 len2 cap2] : Array Value).toList := .cons (arg_sc S0 rfl) (.cons (arg_sc S1 rfl) (.cons (arg_sc S2 rfl) ⟨rfl, by simp⟩))
  refine (law_calls (good Try.prog sg extok mix num K) (f := 4) (t := (true : Bool)) (b := true) hk rfl (fun O w ρ vals σ v h hv => bool_of h hv) ha).mono fun e W' ⟨he, hd⟩ => ?_
  have bel : Below W.heap.size W W' := hd
  subst he
  exact ⟨_, rfl, _, _, _, [], _, [], hW', trodAll_mk1 (shut_bool Try.underlying4 _), (trodAll_cons_mk (Below.trod laidOut (by kernel_rfl) (of_decide_eq_true (by kernel_rfl)) k0 bel lt0) (trodAll_cons_mk (Below.trod laidOut (by kernel_rfl) (of_decide_eq_true (by kernel_rfl)) k1 bel lt1) (trodAll_cons_mk (Below.trod laidOut (by kernel_rfl) (of_decide_eq_true (by kernel_rfl)) k2 bel lt2) trodAll_mk0))), rfl, bel.frame _, fun h => by cases h⟩
theorem over (pure : Pure) : Rows.threeFactsRow.holds Try.pinned (OpenSpec.ofChange Rows.threeFactsSpec) :=
  OpenClaim.holds_of_wide 4 Try.f4 rfl rfl rfl rfl rfl rfl rfl ⟨rfl, rfl, rfl, rfl, rfl⟩ rfl rfl rfl rfl rfl (by kernel_rfl) Try.func4 (by kernel_rfl)
    (of_decide_eq_true (by kernel_rfl)) (by unfold Func.isWrapper; first | (rw [if_pos (by decide +kernel)]; kernel_rfl) | (rw [if_neg (by decide +kernel)]; exact ⟨rfl, rfl⟩))
    (fun os started H enc _ => lifted pure os started H enc)
theorem proved (pure : Pure) : Rows.ThreeFactsSaid := over pure
end Go.Proofs.Ytmenplonaapliaa.AE.threeFacts
end
