/- The evaluator of the program's form, its soundness, the functions of the given program as it evaluates them, and laws on these. Conditions: as each theorem says. -/
import Derived.Test.YtdblhdpnllckhaaCKeysLayN4
import Derived.Sort.AssemblyPlain
import Derived.Test.YtdblhdpnllckhaaRows
import Derived.Test.YtdblhdpnllckhaaCKeysLayN2
import Derived.WalkKit
import Derived.ProofKit
import Derived.OpenShut
import Derived.ShutString
import Derived.ChangeOld
import Derived.Below
import Derived.SizedLaws
section
set_option linter.unusedVariables false
set_option linter.unusedSimpArgs false
set_option maxRecDepth 20000
namespace Go.Proofs.Ytdblhdpnllckhaa.AE
open Go

theorem filt_rd {e : Sh} (l : List (den e)) (p : den e → Bool) {i : Nat} (h : i < l.length) : (l.drop i).filter p = bif p (rd e l i) then rd e l i :: (l.drop (i + 1)).filter p else (l.drop (i + 1)).filter p := by
  rw [drop_rd h, List.filter_cons]
  cases p (rd e l i) <;> rfl
end Go.Proofs.Ytdblhdpnllckhaa.AE
end
section
set_option linter.unusedVariables false
set_option linter.unusedSimpArgs false
namespace Go.Proofs.Ytdblhdpnllckhaa.AE
open Go

/-- An order in which some may stand alike. -/
structure Weak {α : Type} (lt : α → α → Bool) : Prop where
  irr : ∀ a, lt a a = false
  trans : ∀ a b c, lt a b = true → lt b c = true → lt a c = true
  comp : ∀ a b c, lt a c = true → lt a b = true ∨ lt b c = true

section
variable {α : Type} {lt : α → α → Bool}

/-- No one stands ahead of an earlier one. -/
def Srt (lt : α → α → Bool) (l : List α) : Prop := l.Pairwise fun a b => lt b a = false

theorem Weak.asymm (w : Weak lt) {a b : α} (h : lt a b = true) : lt b a = false := by
  cases hb : lt b a with
  | false => rfl
  | true => have := w.trans a b a h hb; rw [w.irr] at this; cases this
/-- Not behind, and not behind: not behind. -/
theorem Weak.le_trans (w : Weak lt) {a b c : α} (h : lt b a = false) (g : lt c b = false) : lt c a = false := by
  cases hb : lt c a with
  | false => rfl
  | true =>
    rcases w.comp c b a hb with k | k
    · rw [g] at k; cases k
    · rw [h] at k; cases k

theorem srt_app {x y : List α} : Srt lt (x ++ y) ↔ Srt lt x ∧ Srt lt y ∧ ∀ a ∈ x, ∀ b ∈ y, lt b a = false := List.pairwise_append
theorem srt_nil : Srt lt ([] : List α) := List.Pairwise.nil
theorem srt_one (a : α) : Srt lt [a] := List.pairwise_singleton _ _
theorem srt_cons {a : α} {y : List α} : Srt lt (a :: y) ↔ (∀ b ∈ y, lt b a = false) ∧ Srt lt y := List.pairwise_cons
/-- All are at most the last one; at least the first one. -/
theorem srt_last (w : Weak lt) {x : List α} {u : α} (h : Srt lt (x ++ [u])) : ∀ a ∈ x ++ [u], lt u a = false := by
  intro a ha
  rw [List.mem_append, List.mem_singleton] at ha
  rcases ha with ha | rfl
  · exact (srt_app.1 h).2.2 a ha u (by simp)
  · exact w.irr _
theorem srt_first (w : Weak lt) {y : List α} {v : α} (h : Srt lt (v :: y)) : ∀ b ∈ v :: y, lt b v = false := by
  intro b hb
  rcases List.mem_cons.1 hb with rfl | hb
  · exact w.irr _
  · exact (srt_cons.1 h).1 b hb

/-- Two sorted rows of the same ones, no two of which stand alike, are the same row. -/
theorem srt_unique (w : Weak lt) : ∀ {x y : List α}, x.Perm y → Srt lt x → (y.Pairwise fun a b => lt a b = true) → x = y
  | [], y, h, _, _ => (List.nil_perm.1 h).symm
  | a :: x, [], h, _, _ => absurd h.symm (by simp)
  | a :: x, b :: y, h, hx, hy => by
    have hab : a = b := by
      have ha : a ∈ b :: y := h.subset (by simp)
      rcases List.mem_cons.1 ha with e | ha
      · exact e
      · have hb : b ∈ a :: x := h.symm.subset (by simp)
        rcases List.mem_cons.1 hb with e | hb
        · exact e.symm
        · have h1 := (srt_cons.1 hx).1 b hb
          have h2 := (List.pairwise_cons.1 hy).1 a ha
          rw [h2] at h1; cases h1
    subst hab
    rw [srt_unique w ((List.perm_cons a).1 h) (srt_cons.1 hx).2 (List.pairwise_cons.1 hy).2]

/-! ### Two places change over -/

/-- What is behind a first part. -/
theorem app_at {x y : List α} {i : Nat} (d : α) (h : i = x.length) (a : α) : (x ++ a :: y).getD i d = a := by
  subst h
  simp [List.getD_eq_getElem?_getD]
theorem set_at {x y : List α} {i : Nat} (h : i = x.length) (a b : α) : (x ++ a :: y).set i b = x ++ b :: y := by
  subst h
  simp
theorem swap_at {x y z : List α} {i j : Nat} (u v : α) (hi : i = x.length) (hj : j = x.length + (1 + y.length)) : ((x ++ u :: (y ++ v :: z)).set i v).set j u = x ++ v :: (y ++ u :: z) := by
  rw [set_at hi]
  have e : x ++ v :: (y ++ v :: z) = (x ++ v :: y) ++ v :: z := by simp
  rw [e, set_at (by simp; omega)]
  simp

/-! ### Merging -/

/-- The heart of the merge by halves: X1 X2 and Y1 Y2 are sorted; cut so, X1 Y1 stand ahead of X2 Y2. -/
theorem halves (w : Weak lt) {x1 x2 y1 y2 : List α} (hx : Srt lt (x1 ++ x2)) (hy : Srt lt (y1 ++ y2))
    (h1 : x1 = [] ∨ y2 = [] ∨ ∃ u x v y, x1 = x ++ [u] ∧ y2 = v :: y ∧ lt v u = false)
    (h2 : y1 = [] ∨ x2 = [] ∨ ∃ u y v x, y1 = y ++ [u] ∧ x2 = v :: x ∧ lt u v = true) :
    ∀ a ∈ x1 ++ y1, ∀ b ∈ x2 ++ y2, lt b a = false := by
  intro a ha b hb
  obtain ⟨sx1, sx2, cx⟩ := srt_app.1 hx
  obtain ⟨sy1, sy2, cy⟩ := srt_app.1 hy
  rw [List.mem_append] at ha hb
  rcases ha with ha | ha <;> rcases hb with hb | hb
  · exact cx a ha b hb
  · rcases h1 with rfl | rfl | ⟨u, x, v, y, rfl, rfl, h⟩
    · cases ha
    · cases hb
    · exact w.le_trans (srt_last w sx1 a ha) (w.le_trans h (srt_first w sy2 b hb))
  · rcases h2 with rfl | rfl | ⟨u, y, v, x, rfl, rfl, h⟩
    · cases ha
    · cases hb
    · exact w.le_trans (srt_last w sy1 a ha) (w.le_trans (w.asymm h) (srt_first w sx2 b hb))
  · exact cy a ha b hb
/-- One that goes into its place in a sorted row, from ahead of it. -/
theorem insert_up (w : Weak lt) {y1 y2 : List α} {x : α} (hy : Srt lt (y1 ++ y2)) (h1 : y1 = [] ∨ ∃ y u, y1 = y ++ [u] ∧ lt u x = true) (h2 : y2 = [] ∨ ∃ v y, y2 = v :: y ∧ lt v x = false) : Srt lt (y1 ++ x :: y2) := by
  obtain ⟨s1, s2, c⟩ := srt_app.1 hy
  have g1 : ∀ a ∈ y1, lt x a = false := by
    intro a ha
    rcases h1 with rfl | ⟨y, u, rfl, h⟩
    · cases ha
    · exact w.le_trans (srt_last w s1 a ha) (w.asymm h)
  have g2 : ∀ b ∈ y2, lt b x = false := by
    intro b hb
    rcases h2 with rfl | ⟨v, y, rfl, h⟩
    · cases hb
    · exact w.le_trans h (srt_first w s2 b hb)
  refine srt_app.2 ⟨s1, srt_cons.2 ⟨g2, s2⟩, fun a ha b hb => ?_⟩
  rcases List.mem_cons.1 hb with rfl | hb
  · exact g1 a ha
  · exact c a ha b hb
/-- .. from behind it. -/
theorem insert_down (w : Weak lt) {x1 x2 : List α} {y : α} (hx : Srt lt (x1 ++ x2)) (h1 : x1 = [] ∨ ∃ x u, x1 = x ++ [u] ∧ lt y u = false) (h2 : x2 = [] ∨ ∃ v x, x2 = v :: x ∧ lt y v = true) : Srt lt (x1 ++ y :: x2) := by
  obtain ⟨s1, s2, c⟩ := srt_app.1 hx
  have g1 : ∀ a ∈ x1, lt y a = false := by
    intro a ha
    rcases h1 with rfl | ⟨x, u, rfl, h⟩
    · cases ha
    · exact w.le_trans (srt_last w s1 a ha) h
  have g2 : ∀ b ∈ x2, lt b y = false := by
    intro b hb
    rcases h2 with rfl | ⟨v, x, rfl, h⟩
    · cases hb
    · exact w.le_trans (w.asymm h) (srt_first w s2 b hb)
  refine srt_app.2 ⟨s1, srt_cons.2 ⟨g2, s2⟩, fun a ha b hb => ?_⟩
  rcases List.mem_cons.1 hb with rfl | hb
  · exact g1 a ha
  · exact c a ha b hb

/-! ### Blocks -/

/-- From a place on, all blocks of k are sorted. -/
def Blk' (lt : α → α → Bool) (k : Nat) (l : List α) (p : Nat → Prop) : Prop := ∀ j, p (j * k) → Srt lt ((l.drop (j * k)).take k)
theorem srt_take {l : List α} (h : Srt lt l) (n : Nat) : Srt lt (l.take n) := List.Pairwise.sublist (List.take_sublist n l) h
theorem srt_drop {l : List α} (h : Srt lt l) (n : Nat) : Srt lt (l.drop n) := List.Pairwise.sublist (List.drop_sublist n l) h

/-- Behind a change of the part from a to b. -/
structure Done (lt : α → α → Bool) (a b : Nat) (l l' : List α) : Prop where
  ex : ∃ z, l' = l.take a ++ z ++ l.drop b ∧ z.Perm ((l.take b).drop a) ∧ Srt lt z
theorem seg_split (l : List α) {a b : Nat} (h : a ≤ b) : l = l.take a ++ (l.take b).drop a ++ l.drop b := by
  have e1 : l.take a = (l.take b).take a := by rw [List.take_take, Nat.min_eq_left h]
  rw [e1, List.take_append_drop, List.take_append_drop]
theorem Done.perm {a b : Nat} {l l' : List α} (h : a ≤ b) (d : Done lt a b l l') : l'.Perm l := by
  obtain ⟨z, rfl, hp, _⟩ := d.ex
  conv => rhs; rw [seg_split l h]
  exact ((List.Perm.refl _).append hp).append_right _
theorem Done.len {a b : Nat} {l l' : List α} (h : a ≤ b) (d : Done lt a b l l') : l'.length = l.length := (d.perm h).length_eq
theorem Done.drop {a b : Nat} {l l' : List α} (h : a ≤ b) (hb : b ≤ l.length) (d : Done lt a b l l') {c : Nat} (hc : b ≤ c) : l'.drop c = l.drop c := by
  have hl := d.len h
  obtain ⟨z, rfl, hp, _⟩ := d.ex
  have hz : (l.take a ++ z).length = b := by
    have := hp.length_eq
    simp at this ⊢
    omega
  rw [List.drop_append, hz, List.drop_eq_nil_of_le (by omega), List.nil_append, List.drop_drop]
  congr 1; omega
theorem Done.take {a b : Nat} {l l' : List α} (h : a ≤ b) (hb : b ≤ l.length) (d : Done lt a b l l') {c : Nat} (hc : c ≤ a) : l'.take c = l.take c := by
  obtain ⟨z, rfl, hp, _⟩ := d.ex
  rw [List.append_assoc, List.take_append_of_le_length (by rw [List.length_take]; omega), List.take_take, Nat.min_eq_left hc]
theorem Done.mid {a b : Nat} {l l' : List α} (h : a ≤ b) (hb : b ≤ l.length) (d : Done lt a b l l') : Srt lt ((l'.take b).drop a) := by
  obtain ⟨z, rfl, hp, hs⟩ := d.ex
  have hl : (l.take a).length = a := by rw [List.length_take]; omega
  have hz : (l.take a ++ z).length = b := by
    have := hp.length_eq
    simp at this ⊢
    omega
  rw [List.take_left' hz, List.drop_left' hl]
  exact hs
end
end Go.Proofs.Ytdblhdpnllckhaa.AE
end
section
set_option linter.unusedVariables false
set_option linter.unusedSimpArgs false
set_option maxRecDepth 20000
namespace Go.Proofs.Ytdblhdpnllckhaa.AE
open Go

def ltE (x y : TEntry) : Bool := strLt x.1 y.1
theorem rd_arr (d : Array TEntry) {i : Nat} (h : i < d.size) : rd sEntry d.toList i = d[i]! := by
  rw [rd_get (e := sEntry) (by simpa using h), getElem!_pos d i h, Array.getElem_toList]
theorem set_arr (d : Array TEntry) {i j : Nat} (hi : i < d.size) (hj : j < d.size) : (d.toList.set i (rd sEntry d.toList j)).set j (rd sEntry d.toList i) = (Sort.swp d i j).toList := by
  rw [rd_arr d hi, rd_arr d hj]
  simp [Sort.swp]
theorem row1_ok (x y : TEntry) : V.keys_row_1 x y = some (cmpS x.1 y.1) := by
  refine V.keys_row_1.of _ _ ?_
  unfold F.keys_row_1.B
  rw [cmpCompareS_ok, Option.bind_some]
theorem cmpK {β : Type} (d : Array TEntry) (i j : Nat) (hi : i < d.size) (hj : j < d.size) (k : Int → Option β) :
    guardK (decide (0 ≤ (i : Int)) && decide ((i : Int) < (d.toList.length : Int))) (guardK (decide (0 ≤ (j : Int)) && decide ((j : Int) < (d.toList.length : Int)))
      ((V.keys_row_1 ((rd sEntry d.toList (i : Int).toNat).1, (rd sEntry d.toList (i : Int).toNat).2) ((rd sEntry d.toList (j : Int).toNat).1, (rd sEntry d.toList (j : Int).toNat).2)).bind k)) = k (cmpS d[i]!.1 d[j]!.1) := by
  have hl : d.toList.length = d.size := Array.length_toList
  rw [guard_in (by omega), guard_in (by omega), nat_cast, nat_cast]
  show (V.keys_row_1 (rd sEntry d.toList i) (rd sEntry d.toList j)).bind k = _
  rw [row1_ok, Option.bind_some, rd_arr d hi, rd_arr d hj]
theorem cmp_lt (x y : TEntry) : decide (cmpS x.1 y.1 < 0) = ltE x y := cmpS_neg x.1 y.1
theorem swapK {β : Type} (d : Array TEntry) (i j : Nat) (hi : i < d.size) (hj : j < d.size) (k : List TEntry → Option β) :
    guardK (decide (0 ≤ (j : Int)) && decide ((j : Int) < (d.toList.length : Int))) (guardK (decide (0 ≤ (i : Int)) && decide ((i : Int) < (d.toList.length : Int)))
      (meet (guardK (decide (0 ≤ (i : Int)) && decide ((i : Int) < (d.toList.length : Int))) (guardK (decide (0 ≤ (j : Int)) && decide ((j : Int) < ((d.toList.set (i : Int).toNat ((rd sEntry d.toList (j : Int).toNat).1, (rd sEntry d.toList (j : Int).toNat).2)).length : Int)))
          (k ((d.toList.set (i : Int).toNat ((rd sEntry d.toList (j : Int).toNat).1, (rd sEntry d.toList (j : Int).toNat).2)).set (j : Int).toNat ((rd sEntry d.toList (i : Int).toNat).1, (rd sEntry d.toList (i : Int).toNat).2)))))
        (guardK (decide (0 ≤ (i : Int)) && decide ((i : Int) < (d.toList.length : Int))) (guardK (decide (0 ≤ (j : Int)) && decide ((j : Int) < ((d.toList.set (i : Int).toNat ((rd sEntry d.toList (j : Int).toNat).1, (rd sEntry d.toList (j : Int).toNat).2)).length : Int)))
          (k ((d.toList.set (i : Int).toNat ((rd sEntry d.toList (j : Int).toNat).1, (rd sEntry d.toList (j : Int).toNat).2)).set (j : Int).toNat ((rd sEntry d.toList (i : Int).toNat).1, (rd sEntry d.toList (i : Int).toNat).2))))))) = k (Sort.swp d i j).toList := by
  have hl : d.toList.length = d.size := Array.length_toList
  rw [meet_self, guard_in (by omega), guard_in (by omega), guard_in (by omega), guard_in (by rw [List.length_set]; omega), nat_cast, nat_cast]
  show k ((d.toList.set i (rd sEntry d.toList j)).set j (rd sEntry d.toList i)) = _
  rw [set_arr d hi hj]
theorem swp_sz (d : Array TEntry) (i j : Nat) : (Sort.swp d i j).size = d.size := Sort.size_swp d i j
theorem up1 {x : Nat} (h : x ≤ 100000) : w64 ((x : Int) + 1) = ((x + 1 : Nat) : Int) := by rw [w64_id (by omega) (by omega)]; omega
theorem dn1 {x : Nat} (h : x ≤ 100000) : w64 (((x + 1 : Nat) : Int) - 1) = (x : Int) := by rw [w64_id (by omega) (by omega)]; omega
theorem dn1' {x : Nat} (h : x ≤ 100000) (h0 : 0 < x) : w64 ((x : Int) - 1) = ((x - 1 : Nat) : Int) := by rw [w64_id (by omega) (by omega)]; omega
theorem addw {x y : Nat} (h : x + y ≤ 1000000) : w64 ((x : Int) + (y : Int)) = ((x + y : Nat) : Int) := by rw [w64_id (by omega) (by omega)]; omega
theorem subw {x y : Nat} (h : y ≤ x) (hb : x ≤ 1000000) : w64 ((x : Int) - (y : Int)) = ((x - y : Nat) : Int) := by rw [w64_id (by omega) (by omega)]; omega

/-! ### Insertions -/

theorem insE_in (a0 : List TEntry) (a2 : Int) (a x : Nat) (hx : x ≤ 10000) (r : List TEntry) : ∀ (j : Nat) (d : Array TEntry), j < d.size → d.size ≤ 10000 → V.slices_insertionSortCmpFunc_apiEntry_by_keys_row_1.l10 a0 (a : Int) a2 ((x + 1 : Nat) : Int) (Sort.insInner ltE a j d).toList = some r →
    V.slices_insertionSortCmpFunc_apiEntry_by_keys_row_1.l10010010 a0 (a : Int) a2 (x : Int) (j : Int) d.toList = some r
  | 0, d, hj, hb, h => by
    refine V.slices_insertionSortCmpFunc_apiEntry_by_keys_row_1.l10010010.of _ _ _ _ _ _ ?_
    unfold F.slices_insertionSortCmpFunc_apiEntry_by_keys_row_1.l10010010.B
    rw [if_no (by omega), up1 (by omega)]
    exact h
  | j + 1, d, hj, hb, h => by
    refine V.slices_insertionSortCmpFunc_apiEntry_by_keys_row_1.l10010010.of _ _ _ _ _ _ ?_
    unfold F.slices_insertionSortCmpFunc_apiEntry_by_keys_row_1.l10010010.B
    unfold Sort.insInner at h
    by_cases ha : j + 1 > a
    · rw [if_yes (by omega), dn1 (by omega), up1 (by omega)]
      refine (cmpK d (j + 1) j hj (by omega) _).trans ?_
      rw [cmp_lt]
      cases hc : ltE d[j + 1]! d[j]! with
      | true =>
        rw [cond_true]
        refine (swapK d (j + 1) j hj (by omega) (fun L => V.slices_insertionSortCmpFunc_apiEntry_by_keys_row_1.l10010010 a0 (a : Int) a2 (x : Int) (j : Int) L)).trans ?_
        exact insE_in a0 a2 a x hx r j _ (by rw [swp_sz]; omega) (by rw [swp_sz]; exact hb) (by simpa [ha, hc] using h)
      | false => exact (by simpa [ha, hc] using h)
    · rw [if_no (by omega), up1 (by omega)]
      simpa [ha] using h
theorem insE_out (a0 : List TEntry) (a b : Nat) : ∀ (k x : Nat) (d : Array TEntry), x + k = b → b ≤ d.size → d.size ≤ 10000 →
    V.slices_insertionSortCmpFunc_apiEntry_by_keys_row_1.l10 a0 (a : Int) (b : Int) (x : Int) d.toList = some (Sort.insOuter ltE a b x d).toList
  | 0, x, d, hx, hb, hs => by
    refine V.slices_insertionSortCmpFunc_apiEntry_by_keys_row_1.l10.of _ _ _ _ _ ?_
    unfold F.slices_insertionSortCmpFunc_apiEntry_by_keys_row_1.l10.B Sort.insOuter
    rw [if_no (by omega), if_neg (by omega)]
  | k + 1, x, d, hx, hb, hs => by
    refine V.slices_insertionSortCmpFunc_apiEntry_by_keys_row_1.l10.of _ _ _ _ _ ?_
    unfold F.slices_insertionSortCmpFunc_apiEntry_by_keys_row_1.l10.B Sort.insOuter
    rw [if_yes (by omega), if_pos (by omega)]
    have hz : (Sort.insInner ltE a x d).size = d.size := insInner_sz a x d
    exact insE_in a0 _ a x (by omega) _ x d (by omega) hs (insE_out a0 a b k (x + 1) _ (by omega) (by omega) (by omega))
where insInner_sz (a : Nat) : ∀ (j : Nat) (d : Array TEntry), (Sort.insInner ltE a j d).size = d.size
  | 0, d => rfl
  | j + 1, d => by
    unfold Sort.insInner
    split
    · rw [insInner_sz a j, swp_sz]
    · rfl
theorem insE_ok (d : Array TEntry) (a b : Nat) (hab : a < b) (hb : b ≤ d.size) (hs : d.size ≤ 10000) : V.slices_insertionSortCmpFunc_apiEntry_by_keys_row_1 d.toList (a : Int) (b : Int) = some (Sort.insertionSort ltE d a b).toList := by
  refine V.slices_insertionSortCmpFunc_apiEntry_by_keys_row_1.of _ _ _ ?_
  unfold F.slices_insertionSortCmpFunc_apiEntry_by_keys_row_1.B
  rw [up1 (by omega)]
  exact insE_out _ a b (b - (a + 1)) (a + 1) d (by omega) hb hs

end Go.Proofs.Ytdblhdpnllckhaa.AE
end
section
set_option linter.unusedVariables false
set_option linter.unusedSimpArgs false
set_option maxRecDepth 20000
namespace Go.Proofs.Ytdblhdpnllckhaa.AE
open Go

/-! ### The heap -/

theorem siftE_sz (hi first : Nat) : ∀ (n root : Nat) (d : Array TEntry), hi - root ≤ n → (Sort.siftDown ltE hi first root d).size = d.size
  | 0, root, d, h => by
    unfold Sort.siftDown
    rw [dif_pos (by omega)]
  | n + 1, root, d, h => by
    unfold Sort.siftDown
    split
    · rfl
    · split
      · split
        · rfl
        · split
          · rw [siftE_sz hi first n _ _ (by omega), swp_sz]
          · rfl
      · split
        · rfl
        · rw [siftE_sz hi first n _ _ (by omega), swp_sz]
/-- The step below: a child was chosen. -/
theorem siftE_go (a0 : List TEntry) (a1 : Int) (hi first root c : Nat) (d : Array TEntry) (r : List TEntry) (hc : c < hi) (hrc : root < c) (hb : first + hi ≤ d.size) (hs : d.size ≤ 10000)
    (h : if ltE d[first + root]! d[first + c]! then V.slices_siftDownCmpFunc_apiEntry_by_keys_row_1.l10 a0 a1 (hi : Int) (first : Int) (c : Int) (Sort.swp d (first + root) (first + c)).toList = some r else d.toList = r) :
    V.slices_siftDownCmpFunc_apiEntry_by_keys_row_1.j1000111 a0 a1 (hi : Int) (first : Int) (root : Int) (c : Int) d.toList = some r := by
  refine V.slices_siftDownCmpFunc_apiEntry_by_keys_row_1.j1000111.of _ _ _ _ _ _ _ ?_
  unfold F.slices_siftDownCmpFunc_apiEntry_by_keys_row_1.j1000111.B
  rw [addw (by omega), addw (by omega)]
  refine (cmpK d (first + root) (first + c) (by omega) (by omega) _).trans ?_
  rw [cmp_lt]
  refine V.slices_siftDownCmpFunc_apiEntry_by_keys_row_1.j100011101.of _ _ _ _ _ _ _ _ ?_
  unfold F.slices_siftDownCmpFunc_apiEntry_by_keys_row_1.j100011101.B
  cases hl : ltE d[first + root]! d[first + c]! with
  | false =>
    rw [hl] at h
    rw [Bool.not_false, cond_true]
    exact congrArg some h
  | true =>
    rw [hl, if_pos rfl] at h
    rw [Bool.not_true, cond_false]
    refine V.slices_siftDownCmpFunc_apiEntry_by_keys_row_1.j10001111.of _ _ _ _ _ _ _ ?_
    unfold F.slices_siftDownCmpFunc_apiEntry_by_keys_row_1.j10001111.B
    rw [addw (by omega), addw (by omega)]
    refine (swapK d (first + root) (first + c) (by omega) (by omega) (fun L => V.slices_siftDownCmpFunc_apiEntry_by_keys_row_1.j100011111 a0 a1 (hi : Int) (first : Int) (c : Int) L)).trans ?_
    refine V.slices_siftDownCmpFunc_apiEntry_by_keys_row_1.j100011111.of _ _ _ _ _ _ ?_
    unfold F.slices_siftDownCmpFunc_apiEntry_by_keys_row_1.j100011111.B
    exact h
theorem siftE_l (a0 : List TEntry) (a1 : Int) (hi first : Nat) : ∀ (n root : Nat) (d : Array TEntry), hi - root ≤ n → root ≤ 10000 → first + hi ≤ d.size → d.size ≤ 10000 →
    V.slices_siftDownCmpFunc_apiEntry_by_keys_row_1.l10 a0 a1 (hi : Int) (first : Int) (root : Int) d.toList = some (Sort.siftDown ltE hi first root d).toList
  | n, root, d, h, h0, hb, hs => by
    refine V.slices_siftDownCmpFunc_apiEntry_by_keys_row_1.l10.of _ _ _ _ _ _ ?_
    unfold F.slices_siftDownCmpFunc_apiEntry_by_keys_row_1.l10.B Sort.siftDown
    have e2 : w64 (2 * (root : Int)) = ((2 * root : Nat) : Int) := by rw [w64_id (by omega) (by omega)]; omega
    rw [e2, up1 (by omega)]
    by_cases g : 2 * root + 1 ≥ hi
    · rw [if_yes (by omega), dif_pos g]
    · rw [if_no (by omega), dif_neg g, up1 (by omega)]
      cases n with
      | zero => omega
      | succ n =>
      by_cases g2 : 2 * root + 1 + 1 < hi
      · rw [if_yes (by omega), addw (by omega), up1 (by omega)]
        refine (cmpK d (first + (2 * root + 1)) (first + (2 * root + 1) + 1) (by omega) (by omega) _).trans ?_
        rw [cmp_lt]
        refine V.slices_siftDownCmpFunc_apiEntry_by_keys_row_1.j10001101.of _ _ _ _ _ _ _ _ ?_
        unfold F.slices_siftDownCmpFunc_apiEntry_by_keys_row_1.j10001101.B
        rw [up1 (by omega)]
        cases hl : ltE d[first + (2 * root + 1)]! d[first + (2 * root + 1) + 1]! with
        | true =>
          rw [cond_true, if_pos (by simp [g2])]
          refine siftE_go a0 a1 hi first root (2 * root + 1 + 1) d _ (by omega) (by omega) hb hs ?_
          cases hq : ltE d[first + root]! d[first + (2 * root + 1 + 1)]! with
          | true =>
            rw [if_pos rfl, if_neg (by simp [hq]), dif_pos (by omega)]
            exact siftE_l a0 a1 hi first n _ _ (by omega) (by omega) (by rw [swp_sz]; omega) (by rw [swp_sz]; exact hs)
          | false => rw [if_neg (by simp), if_pos (by simp [hq])]
        | false =>
          rw [cond_false, if_neg (by simp)]
          refine siftE_go a0 a1 hi first root (2 * root + 1) d _ (by omega) (by omega) hb hs ?_
          cases hq : ltE d[first + root]! d[first + (2 * root + 1)]! with
          | true =>
            rw [if_pos rfl, if_neg (by simp)]
            exact siftE_l a0 a1 hi first n _ _ (by omega) (by omega) (by rw [swp_sz]; omega) (by rw [swp_sz]; exact hs)
          | false => rw [if_neg (by simp), if_pos (by simp)]
      · rw [if_no (by omega), if_neg (by simp [g2])]
        refine V.slices_siftDownCmpFunc_apiEntry_by_keys_row_1.j10001101.of _ _ _ _ _ _ _ _ ?_
        unfold F.slices_siftDownCmpFunc_apiEntry_by_keys_row_1.j10001101.B
        rw [cond_false]
        refine siftE_go a0 a1 hi first root (2 * root + 1) d _ (by omega) (by omega) hb hs ?_
        cases hq : ltE d[first + root]! d[first + (2 * root + 1)]! with
        | true =>
          rw [if_pos rfl, if_neg (by simp)]
          exact siftE_l a0 a1 hi first n _ _ (by omega) (by omega) (by rw [swp_sz]; omega) (by rw [swp_sz]; exact hs)
        | false => rw [if_neg (by simp), if_pos (by simp)]
theorem siftE_ok (d : Array TEntry) (lo hi first : Nat) (h0 : lo ≤ 10000) (hb : first + hi ≤ d.size) (hs : d.size ≤ 10000) :
    V.slices_siftDownCmpFunc_apiEntry_by_keys_row_1 d.toList (lo : Int) (hi : Int) (first : Int) = some (Sort.siftDown ltE hi first lo d).toList := by
  refine V.slices_siftDownCmpFunc_apiEntry_by_keys_row_1.of _ _ _ _ ?_
  unfold F.slices_siftDownCmpFunc_apiEntry_by_keys_row_1.B
  exact siftE_l _ _ hi first (hi - lo) lo d (Nat.le_refl _) h0 hb hs
theorem heapE_pop (a0 : List TEntry) (a2 : Int) (a : Nat) : ∀ (k : Nat) (d : Array TEntry), a + k ≤ d.size → d.size ≤ 10000 →
    V.slices_heapSortCmpFunc_apiEntry_by_keys_row_1.l111110 a0 (a : Int) a2 ((k : Int) - 1) d.toList = some (Sort.heapPop ltE a k d).toList
  | 0, d, hb, hs => by
    refine V.slices_heapSortCmpFunc_apiEntry_by_keys_row_1.l111110.of _ _ _ _ _ ?_
    unfold F.slices_heapSortCmpFunc_apiEntry_by_keys_row_1.l111110.B Sort.heapPop
    rw [if_no (by omega)]
  | k + 1, d, hb, hs => by
    refine V.slices_heapSortCmpFunc_apiEntry_by_keys_row_1.l111110.of _ _ _ _ _ ?_
    unfold F.slices_heapSortCmpFunc_apiEntry_by_keys_row_1.l111110.B Sort.heapPop
    rw [if_yes (by omega), show (((k + 1 : Nat) : Int) - 1) = (k : Int) by omega, addw (by omega), show w64 ((k : Int) - 1) = (k : Int) - 1 from w64_id (by omega) (by omega)]
    refine (swapK d a (a + k) (by omega) (by omega) (fun L => (V.slices_siftDownCmpFunc_apiEntry_by_keys_row_1 L 0 (k : Int) (a : Int)).bind fun t => V.slices_heapSortCmpFunc_apiEntry_by_keys_row_1.l111110 a0 (a : Int) a2 ((k : Int) - 1) t)).trans ?_
    have := siftE_ok (Sort.swp d a (a + k)) 0 k a (by omega) (by rw [swp_sz]; omega) (by rw [swp_sz]; exact hs)
    show (V.slices_siftDownCmpFunc_apiEntry_by_keys_row_1 (Sort.swp d a (a + k)).toList ((0 : Nat) : Int) (k : Int) (a : Int)).bind _ = _
    rw [this, Option.bind_some]
    have hz : (Sort.siftDown ltE k a 0 (Sort.swp d a (a + k))).size = d.size := by rw [siftE_sz k a _ _ _ (Nat.le_refl _), swp_sz]
    exact heapE_pop a0 a2 a k _ (by omega) (by omega)
theorem heapE_build (a0 : List TEntry) (a b : Nat) (hab : a ≤ b) (r : List TEntry) : ∀ (k : Nat) (d : Array TEntry), k ≤ 10000 → b ≤ d.size → d.size ≤ 10000 → V.slices_heapSortCmpFunc_apiEntry_by_keys_row_1.l111110 a0 (a : Int) (b : Int) (((b - a : Nat) : Int) - 1) (Sort.heapBuild ltE (b - a) a k d).toList = some r →
    V.slices_heapSortCmpFunc_apiEntry_by_keys_row_1.l111010 a0 (a : Int) (b : Int) ((k : Int) - 1) d.toList = some r
  | 0, d, hk, hb, hs, h => by
    refine V.slices_heapSortCmpFunc_apiEntry_by_keys_row_1.l111010.of _ _ _ _ _ ?_
    unfold F.slices_heapSortCmpFunc_apiEntry_by_keys_row_1.l111010.B
    rw [if_no (by omega), subw hab (by omega), show w64 (((b - a : Nat) : Int) - 1) = ((b - a : Nat) : Int) - 1 from w64_id (by omega) (by omega)]
    exact h
  | k + 1, d, hk, hb, hs, h => by
    refine V.slices_heapSortCmpFunc_apiEntry_by_keys_row_1.l111010.of _ _ _ _ _ ?_
    unfold F.slices_heapSortCmpFunc_apiEntry_by_keys_row_1.l111010.B
    rw [if_yes (by omega), show (((k + 1 : Nat) : Int) - 1) = (k : Int) by omega, subw hab (by omega), siftE_ok d k (b - a) a (by omega) (by omega) hs, Option.bind_some, show w64 ((k : Int) - 1) = (k : Int) - 1 from w64_id (by omega) (by omega)]
    have hz : (Sort.siftDown ltE (b - a) a k d).size = d.size := siftE_sz _ a _ _ _ (Nat.le_refl _)
    exact heapE_build a0 a b hab r k _ (by omega) (by omega) (by omega) h
theorem heapBuild_sz (hi first : Nat) : ∀ (k : Nat) (d : Array TEntry), (Sort.heapBuild ltE hi first k d).size = d.size
  | 0, d => rfl
  | k + 1, d => by unfold Sort.heapBuild; rw [heapBuild_sz hi first k, siftE_sz hi first _ _ _ (Nat.le_refl _)]
theorem heapE_ok (d : Array TEntry) (a b : Nat) (hab : a < b) (hb : b ≤ d.size) (hs : d.size ≤ 10000) : V.slices_heapSortCmpFunc_apiEntry_by_keys_row_1 d.toList (a : Int) (b : Int) = some (Sort.heapSort ltE d a b).toList := by
  refine V.slices_heapSortCmpFunc_apiEntry_by_keys_row_1.of _ _ _ ?_
  unfold F.slices_heapSortCmpFunc_apiEntry_by_keys_row_1.B Sort.heapSort
  have e : w64 (Int.tdiv (((b - a - 1 : Nat) : Int)) 2) = (((b - a - 1) / 2 + 1 : Nat) : Int) - 1 := by
    rw [Int.tdiv_eq_ediv_of_nonneg (by omega), w64_id (by omega) (by omega)]; omega
  rw [subw (by omega) (by omega), dn1' (by omega) (by omega), e]
  refine heapE_build _ a b (by omega) _ _ d (by omega) hb hs ?_
  exact heapE_pop _ _ a (b - a) _ (by rw [heapBuild_sz]; omega) (by rw [heapBuild_sz]; exact hs)

/-! ### A range turned round -/

theorem revE_l (a0 : List TEntry) (a1 a2 : Int) : ∀ (n i j : Nat) (d : Array TEntry), j - i ≤ n → j < d.size → d.size ≤ 10000 → V.slices_reverseRangeCmpFunc_apiEntry_by_keys_row_1.l110 a0 a1 a2 (i : Int) (j : Int) d.toList = some (Sort.reverseLoop i j d).toList
  | n, i, j, d, h, hj, hs => by
    refine V.slices_reverseRangeCmpFunc_apiEntry_by_keys_row_1.l110.of _ _ _ _ _ _ ?_
    unfold F.slices_reverseRangeCmpFunc_apiEntry_by_keys_row_1.l110.B Sort.reverseLoop
    by_cases g : i < j
    · rw [if_yes (by omega), if_pos g, up1 (by omega), dn1' (by omega) (by omega)]
      refine (swapK d i j (by omega) hj (fun L => V.slices_reverseRangeCmpFunc_apiEntry_by_keys_row_1.l110 a0 a1 a2 ((i + 1 : Nat) : Int) ((j - 1 : Nat) : Int) L)).trans ?_
      cases n with
      | zero => omega
      | succ n => exact revE_l a0 a1 a2 n (i + 1) (j - 1) _ (by omega) (by rw [swp_sz]; omega) (by rw [swp_sz]; exact hs)
    · rw [if_no (by omega), if_neg g]
theorem revE_ok (d : Array TEntry) (a b : Nat) (hab : a < b) (hb : b ≤ d.size) (hs : d.size ≤ 10000) : V.slices_reverseRangeCmpFunc_apiEntry_by_keys_row_1 d.toList (a : Int) (b : Int) = some (Sort.reverseRange d a b).toList := by
  refine V.slices_reverseRangeCmpFunc_apiEntry_by_keys_row_1.of _ _ _ ?_
  unfold F.slices_reverseRangeCmpFunc_apiEntry_by_keys_row_1.B
  rw [dn1' (by omega) (by omega)]
  exact revE_l _ _ _ _ a (b - 1) d (Nat.le_refl _) (by omega) hs

/-! ### The pivot: one of the range (rows of fewer than 64) -/

theorem order2E (d : Array TEntry) (i j : Nat) (s : Int) (hi : i < d.size) (hj : j < d.size) : ∃ (p q : Nat) (s' : Int), V.slices_order2CmpFunc_apiEntry_by_keys_row_1 d.toList (i : Int) (j : Int) s = some ((p : Int), (q : Int), d.toList, s') ∧ ((p = i ∧ q = j) ∨ (p = j ∧ q = i)) := by
  cases hl : ltE d[j]! d[i]! with
  | true =>
    refine ⟨j, i, w64 (s + 1), V.slices_order2CmpFunc_apiEntry_by_keys_row_1.of _ _ _ _ ?_, .inr ⟨rfl, rfl⟩⟩
    unfold F.slices_order2CmpFunc_apiEntry_by_keys_row_1.B
    refine (cmpK d j i hj hi _).trans ?_
    rw [cmp_lt, hl, cond_true]
  | false =>
    refine ⟨i, j, s, V.slices_order2CmpFunc_apiEntry_by_keys_row_1.of _ _ _ _ ?_, .inl ⟨rfl, rfl⟩⟩
    unfold F.slices_order2CmpFunc_apiEntry_by_keys_row_1.B
    refine (cmpK d j i hj hi _).trans ?_
    rw [cmp_lt, hl, cond_false]
theorem medianE (d : Array TEntry) (i j k : Nat) (s : Int) (hi : i < d.size) (hj : j < d.size) (hk : k < d.size) : ∃ (p : Nat) (s' : Int), V.slices_medianCmpFunc_apiEntry_by_keys_row_1 d.toList (i : Int) (j : Int) (k : Int) s = some ((p : Int), d.toList, s') ∧ (p = i ∨ p = j ∨ p = k) := by
  obtain ⟨p1, q1, s1, h1, g1⟩ := order2E d i j s hi hj
  obtain ⟨p2, q2, s2, h2, g2⟩ := order2E d q1 k s1 (by omega) hk
  obtain ⟨p3, q3, s3, h3, g3⟩ := order2E d p1 p2 s2 (by omega) (by omega)
  refine ⟨q3, s3, V.slices_medianCmpFunc_apiEntry_by_keys_row_1.of _ _ _ _ _ ?_, by omega⟩
  unfold F.slices_medianCmpFunc_apiEntry_by_keys_row_1.B
  rw [h1, Option.bind_some]
  dsimp only
  rw [h2, Option.bind_some]
  dsimp only
  rw [h3, Option.bind_some]
theorem adjE (d : Array TEntry) (i : Nat) (s : Int) (h0 : 0 < i) (hi : i + 1 < d.size) (hs : d.size ≤ 10000) : ∃ (p : Nat) (s' : Int), V.slices_medianAdjacentCmpFunc_apiEntry_by_keys_row_1 d.toList (i : Int) s = some ((p : Int), d.toList, s') ∧ i - 1 ≤ p ∧ p ≤ i + 1 := by
  obtain ⟨p, s', h1, h2⟩ := medianE d (i - 1) i (i + 1) s (by omega) (by omega) hi
  refine ⟨p, s', ?_, by omega, by omega⟩
  apply V.slices_medianAdjacentCmpFunc_apiEntry_by_keys_row_1.of
  unfold F.slices_medianAdjacentCmpFunc_apiEntry_by_keys_row_1.B
  rw [dn1' (by omega) h0, up1 (by omega), h1, Option.bind_some]
theorem pivotE (d : Array TEntry) (a b : Nat) (h8 : 8 ≤ b - a) (h64 : b - a < 64) (hb : b ≤ d.size) (hs : d.size ≤ 10000) : ∃ (p : Nat) (t : Int), V.slices_choosePivotCmpFunc_apiEntry_by_keys_row_1 d.toList (a : Int) (b : Int) = some ((p : Int), t, d.toList) ∧ a ≤ p ∧ p < b := by
  have q : ∀ n : Nat, n ≤ 3 → w64 ((a : Int) + w64 (w64 (Int.tdiv ((b - a : Nat) : Int) 4) * (n : Int))) = ((a + (b - a) / 4 * n : Nat) : Int) := fun n hn => by
    have e1 : w64 (Int.tdiv ((b - a : Nat) : Int) 4) = (((b - a) / 4 : Nat) : Int) := by
      rw [Int.tdiv_eq_ediv_of_nonneg (by omega), w64_id (by omega) (by omega)]; omega
    have hm : (b - a) / 4 * n ≤ 15 * 3 := Nat.mul_le_mul (by omega) hn
    rw [e1, show ((((b - a) / 4 : Nat) : Int) * (n : Int)) = (((b - a) / 4 * n : Nat) : Int) by push_cast; rfl, w64_id (x := (((b - a) / 4 * n : Nat) : Int)) (by omega) (by omega), addw (by omega)]
  have key : ∃ (p : Nat) (t : Int), F.slices_choosePivotCmpFunc_apiEntry_by_keys_row_1.B V.slices_medianAdjacentCmpFunc_apiEntry_by_keys_row_1 V.slices_medianCmpFunc_apiEntry_by_keys_row_1 d.toList (a : Int) (b : Int) = some ((p : Int), t, d.toList) ∧ a ≤ p ∧ p < b := by
    unfold F.slices_choosePivotCmpFunc_apiEntry_by_keys_row_1.B
    rw [subw (by omega) (by omega), if_yes (by omega)]
    rw [show w64 ((a : Int) + w64 (w64 (Int.tdiv ((b - a : Nat) : Int) 4) * 1)) = _ from q 1 (by omega), show w64 ((a : Int) + w64 (w64 (Int.tdiv ((b - a : Nat) : Int) 4) * 2)) = _ from q 2 (by omega), show w64 ((a : Int) + w64 (w64 (Int.tdiv ((b - a : Nat) : Int) 4) * 3)) = _ from q 3 (by omega)]
    have fin : ∀ (p : Nat) (s : Int), a ≤ p → p < b → ∃ (p' : Nat) (t : Int), (bif (s == 0) then (some ((p : Int), (1 : Int), d.toList)) else (bif (s == 12) then (some ((p : Int), 2, d.toList)) else (some ((p : Int), 0, d.toList)))) = some ((p' : Int), t, d.toList) ∧ a ≤ p' ∧ p' < b := fun p s h1 h2 => by
      cases h3 : (s == 0) with
      | true => exact ⟨p, 1, by simp, h1, h2⟩
      | false =>
        cases h4 : (s == 12) with
        | true => exact ⟨p, 2, by simp, h1, h2⟩
        | false => exact ⟨p, 0, by simp, h1, h2⟩
    by_cases g : b - a ≥ 50
    · obtain ⟨p1, s1, e1, f1, f1'⟩ := adjE d (a + (b - a) / 4 * 1) 0 (by omega) (by omega) hs
      obtain ⟨p2, s2, e2, f2, f2'⟩ := adjE d (a + (b - a) / 4 * 2) s1 (by omega) (by omega) hs
      obtain ⟨p3, s3, e3, f3, f3'⟩ := adjE d (a + (b - a) / 4 * 3) s2 (by omega) (by omega) hs
      obtain ⟨p, s, h1, h2⟩ := medianE d p1 p2 p3 s3 (by omega) (by omega) (by omega)
      rw [if_yes (by omega), e1, Option.bind_some]
      dsimp only
      rw [e2, Option.bind_some]
      dsimp only
      rw [e3, Option.bind_some]
      dsimp only
      rw [h1, Option.bind_some]
      dsimp only
      exact fin p s (by omega) (by omega)
    · obtain ⟨p, s, h1, h2⟩ := medianE d (a + (b - a) / 4 * 1) (a + (b - a) / 4 * 2) (a + (b - a) / 4 * 3) 0 (by omega) (by omega) (by omega)
      rw [if_no (by omega), h1, Option.bind_some]
      dsimp only
      exact fin p s (by omega) (by omega)
  obtain ⟨p, t, ht, h1, h2⟩ := key
  refine ⟨p, t, V.slices_choosePivotCmpFunc_apiEntry_by_keys_row_1.of _ _ _ ht, h1, h2⟩

end Go.Proofs.Ytdblhdpnllckhaa.AE
end
section
set_option linter.unusedVariables false
set_option linter.unusedSimpArgs false
set_option maxRecDepth 20000
namespace Go.Proofs.Ytdblhdpnllckhaa.AE
open Go

theorem swoE : Sort.SWO ltE where
  irrefl := fun x => lt_irr x.1
  trans := fun x y z h g => lt_trans h g
  ntrans := fun x y z h g => by
    cases hc : ltE x z with
    | false => rfl
    | true =>
      exfalso
      by_cases e : x.1 = y.1
      · rw [show ltE x z = strLt x.1 z.1 from rfl, e] at hc
        rw [show ltE y z = strLt y.1 z.1 from rfl, hc] at g; cases g
      · have h1 : strLt y.1 x.1 = true := lt_total h e
        have h2 : strLt y.1 z.1 = true := lt_trans h1 hc
        rw [show ltE y z = strLt y.1 z.1 from rfl, h2] at g; cases g

/-! ### The insertion that gives up -/

theorem partialE_scan (a0 : List TEntry) (a1 : Int) (b : Nat) (x1 : Int) (d : Array TEntry) (r : Bool × List TEntry) (hb : b ≤ d.size) (hs : d.size ≤ 10000) : ∀ (k x : Nat), x + k = b → 0 < x → V.slices_partialInsertionSortCmpFunc_apiEntry_by_keys_row_1.j1101001001 a0 a1 (b : Int) ((Sort.scanSorted ltE d b x : Nat) : Int) x1 d.toList = some r →
    V.slices_partialInsertionSortCmpFunc_apiEntry_by_keys_row_1.l11010010000 a0 a1 (b : Int) (x : Int) x1 d.toList = some r
  | k, x, hx, h0, h => by
    apply V.slices_partialInsertionSortCmpFunc_apiEntry_by_keys_row_1.l11010010000.of
    unfold F.slices_partialInsertionSortCmpFunc_apiEntry_by_keys_row_1.l11010010000.B
    rw [Sort.scanSorted] at h
    by_cases g : x < b
    · rw [if_yes (by omega), dn1' (by omega) h0]
      refine (cmpK d x (x - 1) (by omega) (by omega) _).trans ?_
      rw [cmp_lt]
      apply V.slices_partialInsertionSortCmpFunc_apiEntry_by_keys_row_1.j11010010000001.of
      unfold F.slices_partialInsertionSortCmpFunc_apiEntry_by_keys_row_1.j11010010000001.B
      cases hl : ltE d[x]! d[x - 1]! with
      | true =>
        rw [Bool.not_true, cond_false]
        rw [if_neg (by simp [hl])] at h
        exact h
      | false =>
        rw [Bool.not_false, cond_true, up1 (by omega)]
        rw [if_pos (by simp [hl, g])] at h
        cases k with
        | zero => omega
        | succ k => exact partialE_scan a0 a1 b x1 d r hb hs k (x + 1) (by omega) (by omega) h
    · rw [if_no (by omega)]
      rw [if_neg (by simp [g])] at h
      apply V.slices_partialInsertionSortCmpFunc_apiEntry_by_keys_row_1.j11010010000001.of
      unfold F.slices_partialInsertionSortCmpFunc_apiEntry_by_keys_row_1.j11010010000001.B
      exact h
theorem scanS_in (b : Nat) (d : Array TEntry) : ∀ (k x : Nat), x + k = b → x ≤ Sort.scanSorted ltE d b x ∧ Sort.scanSorted ltE d b x ≤ b
  | k, x, hx => by
    rw [Sort.scanSorted]
    split
    · rename_i g
      simp only [Bool.and_eq_true, decide_eq_true_eq] at g
      cases k with
      | zero => omega
      | succ k => have := scanS_in b d k (x + 1) (by omega); omega
    · omega
theorem shDn_sz : ∀ (j : Nat) (d : Array TEntry), (Sort.shiftDown ltE j d).size = d.size
  | 0, d => rfl
  | j + 1, d => by
    unfold Sort.shiftDown
    split
    · rfl
    · rw [shDn_sz j, swp_sz]
theorem shUp_sz (b : Nat) : ∀ (k j : Nat) (d : Array TEntry), b - j ≤ k → (Sort.shiftUp ltE b j d).size = d.size
  | k, j, d, h => by
    rw [Sort.shiftUp]
    split
    · split
      · rfl
      · cases k with
        | zero => omega
        | succ k => rw [shUp_sz b k (j + 1) _ (by omega), swp_sz]
    · rfl
theorem shDnE (a0 : List TEntry) (a1 a2 x0 x1 : Int) (r : Bool × List TEntry) : ∀ (j : Nat) (d : Array TEntry), j < d.size → d.size ≤ 10000 → V.slices_partialInsertionSortCmpFunc_apiEntry_by_keys_row_1.j11010010011111 a0 a1 a2 x0 x1 (Sort.shiftDown ltE j d).toList = some r →
    V.slices_partialInsertionSortCmpFunc_apiEntry_by_keys_row_1.l110100100111101010 a0 a1 a2 x0 x1 (j : Int) d.toList = some r
  | 0, d, hj, hs, h => by
    apply V.slices_partialInsertionSortCmpFunc_apiEntry_by_keys_row_1.l110100100111101010.of
    unfold F.slices_partialInsertionSortCmpFunc_apiEntry_by_keys_row_1.l110100100111101010.B
    rw [if_no (by omega)]
    exact h
  | j + 1, d, hj, hs, h => by
    apply V.slices_partialInsertionSortCmpFunc_apiEntry_by_keys_row_1.l110100100111101010.of
    unfold F.slices_partialInsertionSortCmpFunc_apiEntry_by_keys_row_1.l110100100111101010.B
    unfold Sort.shiftDown at h
    rw [if_yes (by omega), dn1 (by omega)]
    refine (cmpK d (j + 1) j hj (by omega) _).trans ?_
    rw [cmp_lt]
    cases hl : ltE d[j + 1]! d[j]! with
    | false =>
      rw [hl] at h
      rw [Bool.not_false, cond_true]
      exact h
    | true =>
      rw [hl] at h
      rw [Bool.not_true, cond_false]
      refine (swapK d (j + 1) j hj (by omega) (fun L => V.slices_partialInsertionSortCmpFunc_apiEntry_by_keys_row_1.j110100100111101010011 a0 a1 a2 x0 x1 ((j + 1 : Nat) : Int) L)).trans ?_
      apply V.slices_partialInsertionSortCmpFunc_apiEntry_by_keys_row_1.j110100100111101010011.of
      unfold F.slices_partialInsertionSortCmpFunc_apiEntry_by_keys_row_1.j110100100111101010011.B
      rw [dn1 (by omega)]
      exact shDnE a0 a1 a2 x0 x1 r j _ (by rw [swp_sz]; omega) (by rw [swp_sz]; exact hs) h
theorem shUpE (a0 : List TEntry) (a1 x0 x1 : Int) (b : Nat) (r : Bool × List TEntry) : ∀ (k j : Nat) (d : Array TEntry), b - j ≤ k → 0 < j → j ≤ 20000 → b ≤ d.size → d.size ≤ 10000 → V.slices_partialInsertionSortCmpFunc_apiEntry_by_keys_row_1.j11010011 a0 a1 (b : Int) x0 x1 (Sort.shiftUp ltE b j d).toList = some r →
    V.slices_partialInsertionSortCmpFunc_apiEntry_by_keys_row_1.l110100100111111010 a0 a1 (b : Int) x0 x1 (j : Int) d.toList = some r
  | k, j, d, hk, h0, hj, hb, hs, h => by
    apply V.slices_partialInsertionSortCmpFunc_apiEntry_by_keys_row_1.l110100100111111010.of
    unfold F.slices_partialInsertionSortCmpFunc_apiEntry_by_keys_row_1.l110100100111111010.B
    rw [Sort.shiftUp] at h
    by_cases g : j < b
    · rw [if_pos g] at h
      rw [if_yes (by omega), dn1' (by omega) h0]
      refine (cmpK d j (j - 1) (by omega) (by omega) _).trans ?_
      rw [cmp_lt]
      cases hl : ltE d[j]! d[j - 1]! with
      | false =>
        rw [hl] at h
        rw [Bool.not_false, cond_true]
        exact h
      | true =>
        rw [hl] at h
        rw [Bool.not_true, cond_false]
        refine (swapK d j (j - 1) (by omega) (by omega) (fun L => V.slices_partialInsertionSortCmpFunc_apiEntry_by_keys_row_1.j110100100111111010011 a0 a1 (b : Int) x0 x1 (j : Int) L)).trans ?_
        apply V.slices_partialInsertionSortCmpFunc_apiEntry_by_keys_row_1.j110100100111111010011.of
        unfold F.slices_partialInsertionSortCmpFunc_apiEntry_by_keys_row_1.j110100100111111010011.B
        rw [up1 (by omega)]
        cases k with
        | zero => omega
        | succ k => exact shUpE a0 a1 x0 x1 b r k (j + 1) _ (by omega) (by omega) (by omega) (by rw [swp_sz]; exact hb) (by rw [swp_sz]; exact hs) h
    · rw [if_neg g] at h
      rw [if_no (by omega)]
      exact h
theorem partialE_l (a0 : List TEntry) (a b : Nat) (hb' : b ≤ 10000) : ∀ (s x1 i : Nat) (d : Array TEntry), x1 + s = 5 → a < i → i ≤ b → b ≤ d.size → d.size ≤ 10000 →
    V.slices_partialInsertionSortCmpFunc_apiEntry_by_keys_row_1.l11010 a0 (a : Int) (b : Int) (i : Int) (x1 : Int) d.toList = some ((Sort.partialIns ltE a b s i d).2, (Sort.partialIns ltE a b s i d).1.toList)
  | 0, x1, i, d, hx, hai, hib, hb, hs => by
    apply V.slices_partialInsertionSortCmpFunc_apiEntry_by_keys_row_1.l11010.of
    unfold F.slices_partialInsertionSortCmpFunc_apiEntry_by_keys_row_1.l11010.B
    rw [if_no (by omega)]
    rfl
  | s + 1, x1, i, d, hx, hai, hib, hb, hs => by
    have sc := scanS_in b d (b - i) i (by omega)
    apply V.slices_partialInsertionSortCmpFunc_apiEntry_by_keys_row_1.l11010.of
    unfold F.slices_partialInsertionSortCmpFunc_apiEntry_by_keys_row_1.l11010.B
    rw [if_yes (by omega)]
    refine partialE_scan a0 _ b _ d _ hb hs (b - i) i (by omega) (by omega) ?_
    rw [Sort.partialIns_succ]
    generalize Sort.scanSorted ltE d b i = c at sc ⊢
    apply V.slices_partialInsertionSortCmpFunc_apiEntry_by_keys_row_1.j1101001001.of
    unfold F.slices_partialInsertionSortCmpFunc_apiEntry_by_keys_row_1.j1101001001.B
    by_cases g : c = b
    · rw [if_pos g, show ((c : Int) == (b : Int)) = true by simp [g], cond_true]
    · rw [if_neg g, show ((c : Int) == (b : Int)) = false by simp; omega, cond_false]
      apply V.slices_partialInsertionSortCmpFunc_apiEntry_by_keys_row_1.j11010010011.of
      unfold F.slices_partialInsertionSortCmpFunc_apiEntry_by_keys_row_1.j11010010011.B
      rw [subw (by omega) (by omega)]
      by_cases g5 : b - a < 50
      · rw [if_pos g5, if_yes (by omega)]
      · rw [if_neg g5, if_no (by omega)]
        apply V.slices_partialInsertionSortCmpFunc_apiEntry_by_keys_row_1.j110100100111.of
        unfold F.slices_partialInsertionSortCmpFunc_apiEntry_by_keys_row_1.j110100100111.B
        rw [dn1' (by omega) (by omega)]
        refine (swapK d c (c - 1) (by omega) (by omega) (fun L => V.slices_partialInsertionSortCmpFunc_apiEntry_by_keys_row_1.j1101001001111 a0 (a : Int) (b : Int) (c : Int) (x1 : Int) L)).trans ?_
        have z1 : (Sort.swp d c (c - 1)).size = d.size := swp_sz _ _ _
        generalize Sort.swp d c (c - 1) = d1 at z1 ⊢
        have last : ∀ d2 : Array TEntry, d2.size = d.size → V.slices_partialInsertionSortCmpFunc_apiEntry_by_keys_row_1.j11010010011111 a0 (a : Int) (b : Int) (c : Int) (x1 : Int) d2.toList = some ((Sort.partialIns ltE a b s c (if b - c ≥ 2 then Sort.shiftUp ltE b (c + 1) d2 else d2)).2, (Sort.partialIns ltE a b s c (if b - c ≥ 2 then Sort.shiftUp ltE b (c + 1) d2 else d2)).1.toList) := fun d2 z2 => by
          have fin : ∀ d3 : Array TEntry, d3.size = d.size → V.slices_partialInsertionSortCmpFunc_apiEntry_by_keys_row_1.j11010011 a0 (a : Int) (b : Int) (c : Int) (x1 : Int) d3.toList = some ((Sort.partialIns ltE a b s c d3).2, (Sort.partialIns ltE a b s c d3).1.toList) := fun d3 z3 => by
            apply V.slices_partialInsertionSortCmpFunc_apiEntry_by_keys_row_1.j11010011.of
            unfold F.slices_partialInsertionSortCmpFunc_apiEntry_by_keys_row_1.j11010011.B
            rw [up1 (by omega)]
            exact partialE_l a0 a b hb' s (x1 + 1) c d3 (by omega) (by omega) (by omega) (by omega) (by omega)
          apply V.slices_partialInsertionSortCmpFunc_apiEntry_by_keys_row_1.j11010010011111.of
          unfold F.slices_partialInsertionSortCmpFunc_apiEntry_by_keys_row_1.j11010010011111.B
          rw [subw (by omega) (by omega)]
          by_cases q : b - c ≥ 2
          · rw [if_yes (by omega), if_pos q, up1 (by omega)]
            exact shUpE a0 _ _ _ b _ (b - (c + 1)) (c + 1) d2 (Nat.le_refl _) (by omega) (by omega) (by omega) (by omega) (fin _ (by rw [shUp_sz b _ _ _ (Nat.le_refl _)]; exact z2))
          · rw [if_no (by omega), if_neg q]
            exact fin d2 z2
        apply V.slices_partialInsertionSortCmpFunc_apiEntry_by_keys_row_1.j1101001001111.of
        unfold F.slices_partialInsertionSortCmpFunc_apiEntry_by_keys_row_1.j1101001001111.B
        rw [subw (by omega) (by omega)]
        by_cases q : c - a ≥ 2
        · rw [if_yes (by omega), dn1' (by omega) (by omega)]
          rw [show Sort.fixDown ltE a c d1 = Sort.shiftDown ltE (c - 1) d1 from if_pos q]
          exact shDnE a0 _ _ _ _ _ (c - 1) d1 (by omega) (by omega) (last _ (by rw [shDn_sz]; exact z1))
        · rw [if_no (by omega)]
          rw [show Sort.fixDown ltE a c d1 = d1 from if_neg q]
          exact last d1 z1
theorem partialE (d : Array TEntry) (a b : Nat) (hab : a < b) (hb : b ≤ d.size) (hs : d.size ≤ 10000) :
    V.slices_partialInsertionSortCmpFunc_apiEntry_by_keys_row_1 d.toList (a : Int) (b : Int) = some ((Sort.partialInsertionSort ltE d a b).2, (Sort.partialInsertionSort ltE d a b).1.toList) := by
  apply V.slices_partialInsertionSortCmpFunc_apiEntry_by_keys_row_1.of
  unfold F.slices_partialInsertionSortCmpFunc_apiEntry_by_keys_row_1.B
  rw [up1 (by omega)]
  exact partialE_l _ a b (by omega) 5 0 (a + 1) d (by omega) (by omega) (by omega) hb hs

/-! ### Those equal to the pivot -/

theorem peE_up (a0 : List TEntry) (a2 a3 : Int) (a j : Nat) (d : Array TEntry) (r : Int × List TEntry) (ha : a < d.size) (hj : j < d.size) (hs : d.size ≤ 10000) : ∀ (n i : Nat), j + 1 - i ≤ n → i ≤ 20000 →
    V.slices_partitionEqualCmpFunc_apiEntry_by_keys_row_1.l1110000100 a0 (a : Int) a2 a3 ((Sort.scanUp (fun x => !ltE d[a]! x) d j i : Nat) : Int) (j : Int) d.toList = some r → V.slices_partitionEqualCmpFunc_apiEntry_by_keys_row_1.l111000000 a0 (a : Int) a2 a3 (i : Int) (j : Int) d.toList = some r
  | n, i, hn, hi, h => by
    apply V.slices_partitionEqualCmpFunc_apiEntry_by_keys_row_1.l111000000.of
    unfold F.slices_partitionEqualCmpFunc_apiEntry_by_keys_row_1.l111000000.B
    rw [Sort.scanUp] at h
    by_cases g : i ≤ j
    · rw [if_yes (by omega)]
      refine (cmpK d a i ha (by omega) _).trans ?_
      rw [cmp_lt]
      cases hl : ltE d[a]! d[i]! with
      | true =>
        rw [Bool.not_true, cond_false]
        rw [if_neg (by simp [hl])] at h
        exact h
      | false =>
        rw [Bool.not_false, cond_true, up1 (by omega)]
        rw [if_pos (by simp [hl, g])] at h
        cases n with
        | zero => omega
        | succ n => exact peE_up a0 a2 a3 a j d r ha hj hs n (i + 1) (by omega) (by omega) h
    · rw [if_no (by omega)]
      rw [if_neg (by simp [g])] at h
      exact h
theorem peE_down (a0 : List TEntry) (a2 a3 : Int) (a i : Nat) (d : Array TEntry) (r : Int × List TEntry) (ha : a < d.size) (h0 : 0 < i) (hi : i ≤ 20000) (hs : d.size ≤ 10000) : ∀ (j : Nat), j < d.size →
    (if i > Sort.scanDown (fun x => ltE d[a]! x) d i j then r = ((i : Int), d.toList) else V.slices_partitionEqualCmpFunc_apiEntry_by_keys_row_1.l11100 a0 (a : Int) a2 a3 ((i + 1 : Nat) : Int) ((Sort.scanDown (fun x => ltE d[a]! x) d i j - 1 : Nat) : Int) (Sort.swp d i (Sort.scanDown (fun x => ltE d[a]! x) d i j)).toList = some r) →
    V.slices_partitionEqualCmpFunc_apiEntry_by_keys_row_1.l1110000100 a0 (a : Int) a2 a3 (i : Int) (j : Int) d.toList = some r
  | 0, hj, h => by
    apply V.slices_partitionEqualCmpFunc_apiEntry_by_keys_row_1.l1110000100.of
    unfold F.slices_partitionEqualCmpFunc_apiEntry_by_keys_row_1.l1110000100.B
    rw [Sort.scanDown, if_pos (by omega)] at h
    rw [if_no (by omega), if_yes (by omega), h]
  | j + 1, hj, h => by
    apply V.slices_partitionEqualCmpFunc_apiEntry_by_keys_row_1.l1110000100.of
    unfold F.slices_partitionEqualCmpFunc_apiEntry_by_keys_row_1.l1110000100.B
    rw [Sort.scanDown] at h
    by_cases g : i ≤ j + 1
    · rw [if_yes (by omega)]
      refine (cmpK d a (j + 1) ha hj _).trans ?_
      rw [cmp_lt]
      cases hl : ltE d[a]! d[j + 1]! with
      | true =>
        rw [if_pos (by simp [hl, g] : (decide (i ≤ j + 1) && ltE d[a]! d[j + 1]!) = true)] at h
        rw [cond_true, dn1 (by omega)]
        exact peE_down a0 a2 a3 a i d r ha h0 hi hs j (by omega) h
      | false =>
        rw [if_neg (by simp [hl] : ¬ (decide (i ≤ j + 1) && ltE d[a]! d[j + 1]!) = true), if_neg (by omega)] at h
        rw [cond_false, if_no (by omega), up1 (by omega), dn1 (by omega)]
        refine (swapK d i (j + 1) (by omega) hj (fun L => V.slices_partitionEqualCmpFunc_apiEntry_by_keys_row_1.l11100 a0 (a : Int) a2 a3 ((i + 1 : Nat) : Int) (j : Int) L)).trans ?_
        exact h
    · rw [if_neg (by simp; omega : ¬ (decide (i ≤ j + 1) && ltE d[a]! d[j + 1]!) = true), if_pos (by omega)] at h
      rw [if_no (by omega), if_yes (by omega), h]
theorem peE_loop (a0 : List TEntry) (a2 a3 : Int) (a : Nat) : ∀ (n i j : Nat) (d : Array TEntry), j + 1 - i ≤ n → 0 < i → i ≤ 20000 → a < d.size → j < d.size → d.size ≤ 10000 →
    V.slices_partitionEqualCmpFunc_apiEntry_by_keys_row_1.l11100 a0 (a : Int) a2 a3 (i : Int) (j : Int) d.toList = some (((Sort.partEqLoop ltE a i j d).1 : Int), (Sort.partEqLoop ltE a i j d).2.toList)
  | n, i, j, d, hn, h0, hi, ha, hj, hs => by
    apply V.slices_partitionEqualCmpFunc_apiEntry_by_keys_row_1.l11100.of
    unfold F.slices_partitionEqualCmpFunc_apiEntry_by_keys_row_1.l11100.B
    have u := Sort.scanUp_spec (fun x => !ltE d[a]! x) d j _ i rfl
    have dn := Sort.scanDown_le (fun x => ltE d[a]! x) d (Sort.scanUp (fun x => !ltE d[a]! x) d j i) j
    have ui : Sort.scanUp (fun x => !ltE d[a]! x) d j i ≤ 20000 := by
      rcases Nat.lt_or_ge (j + 1) i with g | g
      · rw [Sort.scanUp, if_neg (by simp; omega)]; exact hi
      · have := u.2.1 g; omega
    have pg := Sort.partEqLoop_guard ltE a i j d
    rw [Sort.partEqLoop_eq]
    refine peE_up a0 a2 a3 a j d _ ha hj hs (j + 1 - i) i (Nat.le_refl _) hi ?_
    refine peE_down a0 a2 a3 a _ d _ ha (by omega) ui hs j hj ?_
    split
    · rename_i g
      first | rfl | simp only [if_pos g]
    · rename_i g
      try simp only [if_neg g]
      have pg := pg g
      cases n with
      | zero => omega
      | succ n => exact peE_loop a0 a2 a3 a n _ _ _ (by omega) (by omega) (by omega) (by rw [swp_sz]; exact ha) (by rw [swp_sz]; omega) (by rw [swp_sz]; exact hs)
theorem peE (d : Array TEntry) (a b p : Nat) (hap : a ≤ p) (hpb : p < b) (hb : b ≤ d.size) (hs : d.size ≤ 10000) :
    V.slices_partitionEqualCmpFunc_apiEntry_by_keys_row_1 d.toList (a : Int) (b : Int) (p : Int) = some (((Sort.partitionEqual ltE d a b p).1 : Int), (Sort.partitionEqual ltE d a b p).2.toList) := by
  apply V.slices_partitionEqualCmpFunc_apiEntry_by_keys_row_1.of
  unfold F.slices_partitionEqualCmpFunc_apiEntry_by_keys_row_1.B
  rw [up1 (by omega), dn1' (by omega) (by omega)]
  refine (swapK d a p (by omega) (by omega) (fun L => V.slices_partitionEqualCmpFunc_apiEntry_by_keys_row_1.l11100 d.toList (a : Int) (b : Int) (p : Int) ((a + 1 : Nat) : Int) ((b - 1 : Nat) : Int) L)).trans ?_
  exact peE_loop _ _ _ a _ (a + 1) (b - 1) _ (Nat.le_refl _) (by omega) (by omega) (by rw [swp_sz]; omega) (by rw [swp_sz]; omega) (by rw [swp_sz]; exact hs)

/-! ### The two sides of the pivot -/

theorem ptE_up (a0 : List TEntry) (a2 a3 : Int) (a j : Nat) (d : Array TEntry) (r : Int × Bool × List TEntry) (ha : a < d.size) (hj : j < d.size) (hs : d.size ≤ 10000) : ∀ (n i : Nat), j + 1 - i ≤ n → i ≤ 20000 →
    V.slices_partitionCmpFunc_apiEntry_by_keys_row_1.l1111111110000100 a0 (a : Int) a2 a3 ((Sort.scanUp (fun x => ltE x d[a]!) d j i : Nat) : Int) (j : Int) d.toList = some r → V.slices_partitionCmpFunc_apiEntry_by_keys_row_1.l111111111000000 a0 (a : Int) a2 a3 (i : Int) (j : Int) d.toList = some r
  | n, i, hn, hi, h => by
    apply V.slices_partitionCmpFunc_apiEntry_by_keys_row_1.l111111111000000.of
    unfold F.slices_partitionCmpFunc_apiEntry_by_keys_row_1.l111111111000000.B
    rw [Sort.scanUp] at h
    by_cases g : i ≤ j
    · rw [if_yes (by omega)]
      refine (cmpK d i a (by omega) ha _).trans ?_
      rw [cmp_lt]
      apply V.slices_partitionCmpFunc_apiEntry_by_keys_row_1.j111111111000000001.of
      unfold F.slices_partitionCmpFunc_apiEntry_by_keys_row_1.j111111111000000001.B
      cases hl : ltE d[i]! d[a]! with
      | false =>
        rw [cond_false]
        rw [if_neg (by simp [hl])] at h
        apply V.slices_partitionCmpFunc_apiEntry_by_keys_row_1.j11111111100001.of
        exact h
      | true =>
        rw [cond_true, up1 (by omega)]
        rw [if_pos (by simp [hl, g])] at h
        cases n with
        | zero => omega
        | succ n => exact ptE_up a0 a2 a3 a j d r ha hj hs n (i + 1) (by omega) (by omega) h
    · rw [if_no (by omega)]
      rw [if_neg (by simp [g])] at h
      apply V.slices_partitionCmpFunc_apiEntry_by_keys_row_1.j111111111000000001.of
      unfold F.slices_partitionCmpFunc_apiEntry_by_keys_row_1.j111111111000000001.B
      rw [cond_false]
      apply V.slices_partitionCmpFunc_apiEntry_by_keys_row_1.j11111111100001.of
      exact h
theorem ptE_down (a0 : List TEntry) (a2 a3 : Int) (a i : Nat) (d : Array TEntry) (r : Int × Bool × List TEntry) (ha : a < d.size) (h0 : 0 < i) (hi : i ≤ 20000) (hs : d.size ≤ 10000) : ∀ (j : Nat), j < d.size →
    V.slices_partitionCmpFunc_apiEntry_by_keys_row_1.j111111111000011 a0 (a : Int) a2 a3 (i : Int) ((Sort.scanDown (fun x => !ltE x d[a]!) d i j : Nat) : Int) d.toList = some r →
    V.slices_partitionCmpFunc_apiEntry_by_keys_row_1.l1111111110000100 a0 (a : Int) a2 a3 (i : Int) (j : Int) d.toList = some r
  | 0, hj, h => by
    apply V.slices_partitionCmpFunc_apiEntry_by_keys_row_1.l1111111110000100.of
    unfold F.slices_partitionCmpFunc_apiEntry_by_keys_row_1.l1111111110000100.B
    rw [Sort.scanDown] at h
    rw [if_no (by omega)]
    apply V.slices_partitionCmpFunc_apiEntry_by_keys_row_1.j1111111110000100001.of
    unfold F.slices_partitionCmpFunc_apiEntry_by_keys_row_1.j1111111110000100001.B
    exact h
  | j + 1, hj, h => by
    apply V.slices_partitionCmpFunc_apiEntry_by_keys_row_1.l1111111110000100.of
    unfold F.slices_partitionCmpFunc_apiEntry_by_keys_row_1.l1111111110000100.B
    rw [Sort.scanDown] at h
    by_cases g : i ≤ j + 1
    · rw [if_yes (by omega)]
      refine (cmpK d (j + 1) a hj ha _).trans ?_
      rw [cmp_lt]
      apply V.slices_partitionCmpFunc_apiEntry_by_keys_row_1.j1111111110000100001.of
      unfold F.slices_partitionCmpFunc_apiEntry_by_keys_row_1.j1111111110000100001.B
      cases hl : ltE d[j + 1]! d[a]! with
      | false =>
        rw [if_pos (by simp [hl, g])] at h
        rw [Bool.not_false, cond_true, dn1 (by omega)]
        exact ptE_down a0 a2 a3 a i d r ha h0 hi hs j (by omega) h
      | true =>
        rw [if_neg (by simp [hl])] at h
        exact h
    · rw [if_neg (by simp; omega)] at h
      rw [if_no (by omega)]
      apply V.slices_partitionCmpFunc_apiEntry_by_keys_row_1.j1111111110000100001.of
      unfold F.slices_partitionCmpFunc_apiEntry_by_keys_row_1.j1111111110000100001.B
      exact h
theorem ptE_loop (a0 : List TEntry) (a2 a3 : Int) (a : Nat) : ∀ (n i j : Nat) (d : Array TEntry), j + 1 - i ≤ n → 0 < i → i ≤ 20000 → a < d.size → j < d.size → d.size ≤ 10000 →
    V.slices_partitionCmpFunc_apiEntry_by_keys_row_1.l11111111100 a0 (a : Int) a2 a3 (i : Int) (j : Int) d.toList = some (((Sort.partLoop ltE a i j d).1 : Int), false, (Sort.swp (Sort.partLoop ltE a i j d).2 (Sort.partLoop ltE a i j d).1 a).toList)
  | n, i, j, d, hn, h0, hi, ha, hj, hs => by
    apply V.slices_partitionCmpFunc_apiEntry_by_keys_row_1.l11111111100.of
    unfold F.slices_partitionCmpFunc_apiEntry_by_keys_row_1.l11111111100.B
    have u := Sort.scanUp_spec (fun x => ltE x d[a]!) d j _ i rfl
    have dn := Sort.scanDown_le (fun x => !ltE x d[a]!) d (Sort.scanUp (fun x => ltE x d[a]!) d j i) j
    have ui : Sort.scanUp (fun x => ltE x d[a]!) d j i ≤ 20000 := by
      rcases Nat.lt_or_ge (j + 1) i with g | g
      · rw [Sort.scanUp, if_neg (by simp; omega)]; exact hi
      · have := u.2.1 g; omega
    have pg := Sort.partLoop_guard ltE a i j d
    rw [Sort.partLoop_eq]
    refine ptE_up a0 a2 a3 a j d _ ha hj hs (j + 1 - i) i (Nat.le_refl _) hi ?_
    refine ptE_down a0 a2 a3 a _ d _ ha (by omega) ui hs j hj ?_
    apply V.slices_partitionCmpFunc_apiEntry_by_keys_row_1.j111111111000011.of
    unfold F.slices_partitionCmpFunc_apiEntry_by_keys_row_1.j111111111000011.B
    by_cases g : Sort.scanUp (fun x => ltE x d[a]!) d j i > Sort.scanDown (fun x => !ltE x d[a]!) d (Sort.scanUp (fun x => ltE x d[a]!) d j i) j
    · rw [if_yes (by omega), if_pos g]
      apply V.slices_partitionCmpFunc_apiEntry_by_keys_row_1.j1111111111.of
      unfold F.slices_partitionCmpFunc_apiEntry_by_keys_row_1.j1111111111.B
      refine (swapK d _ a (by omega) ha (fun L => V.slices_partitionCmpFunc_apiEntry_by_keys_row_1.j11111111111 a0 (a : Int) a2 a3 ((Sort.scanDown (fun x => !ltE x d[a]!) d (Sort.scanUp (fun x => ltE x d[a]!) d j i) j : Nat) : Int) L)).trans ?_
      apply V.slices_partitionCmpFunc_apiEntry_by_keys_row_1.j11111111111.of
      rfl
    · rw [if_no (by omega), if_neg g]
      have pg := pg g
      apply V.slices_partitionCmpFunc_apiEntry_by_keys_row_1.j1111111110000111.of
      unfold F.slices_partitionCmpFunc_apiEntry_by_keys_row_1.j1111111110000111.B
      refine (swapK d _ _ (by omega) (by omega) (fun L => V.slices_partitionCmpFunc_apiEntry_by_keys_row_1.j11111111100001111 a0 (a : Int) a2 a3 ((Sort.scanUp (fun x => ltE x d[a]!) d j i : Nat) : Int) ((Sort.scanDown (fun x => !ltE x d[a]!) d (Sort.scanUp (fun x => ltE x d[a]!) d j i) j : Nat) : Int) L)).trans ?_
      apply V.slices_partitionCmpFunc_apiEntry_by_keys_row_1.j11111111100001111.of
      unfold F.slices_partitionCmpFunc_apiEntry_by_keys_row_1.j11111111100001111.B
      rw [up1 (by omega), dn1' (by omega) (by omega)]
      cases n with
      | zero => omega
      | succ n => exact ptE_loop a0 a2 a3 a n _ _ _ (by omega) (by omega) (by omega) (by rw [swp_sz]; exact ha) (by rw [swp_sz]; omega) (by rw [swp_sz]; exact hs)
theorem swp_raw (d : Array TEntry) (i j : Nat) (hi : i < d.size) (hj : j < d.size) : (d.toList.set (i : Int).toNat ((rd sEntry d.toList (j : Int).toNat).1, (rd sEntry d.toList (j : Int).toNat).2)).set (j : Int).toNat ((rd sEntry d.toList (i : Int).toNat).1, (rd sEntry d.toList (i : Int).toNat).2) = (Sort.swp d i j).toList := set_arr d hi hj
theorem ptE_up1 (d0 : Array TEntry) (a b p : Nat) (hap : a ≤ p) (hpb : p < b) (hb : b ≤ d0.size) (hs : d0.size ≤ 10000) (d : Array TEntry) (hd : d = Sort.swp d0 a p) (r : Int × Bool × List TEntry) : ∀ (n i : Nat), b - i ≤ n → i ≤ 20000 →
    V.slices_partitionCmpFunc_apiEntry_by_keys_row_1.j1111 d0.toList (a : Int) (b : Int) (p : Int) ((Sort.scanUp (fun x => ltE x d[a]!) d (b - 1) i : Nat) : Int) = some r → V.slices_partitionCmpFunc_apiEntry_by_keys_row_1.l11100 d0.toList (a : Int) (b : Int) (p : Int) (i : Int) = some r
  | n, i, hn, hi, h => by
    have hz : d.size = d0.size := by rw [hd, swp_sz]
    apply V.slices_partitionCmpFunc_apiEntry_by_keys_row_1.l11100.of
    unfold F.slices_partitionCmpFunc_apiEntry_by_keys_row_1.l11100.B
    rw [Sort.scanUp] at h
    rw [dn1' (by omega) (by omega), swp_raw d0 a p (by omega) (by omega), ← hd]
    by_cases g : i ≤ b - 1
    · rw [if_yes (by omega)]
      refine (cmpK d i a (by omega) (by omega) _).trans ?_
      rw [cmp_lt]
      apply V.slices_partitionCmpFunc_apiEntry_by_keys_row_1.j11100001.of
      unfold F.slices_partitionCmpFunc_apiEntry_by_keys_row_1.j11100001.B
      cases hl : ltE d[i]! d[a]! with
      | false =>
        rw [cond_false]
        rw [if_neg (by simp [hl])] at h
        exact h
      | true =>
        rw [cond_true, up1 (by omega)]
        rw [if_pos (by simp [hl, g])] at h
        cases n with
        | zero => omega
        | succ n => exact ptE_up1 d0 a b p hap hpb hb hs d hd r n (i + 1) (by omega) (by omega) h
    · rw [if_no (by omega)]
      rw [if_neg (by simp [g])] at h
      apply V.slices_partitionCmpFunc_apiEntry_by_keys_row_1.j11100001.of
      unfold F.slices_partitionCmpFunc_apiEntry_by_keys_row_1.j11100001.B
      rw [cond_false]
      exact h
theorem ptE_down1 (d0 : Array TEntry) (a b p i : Nat) (hap : a ≤ p) (hpb : p < b) (hb : b ≤ d0.size) (hs : d0.size ≤ 10000) (d : Array TEntry) (hd : d = Sort.swp d0 a p) (r : Int × Bool × List TEntry) (h0 : 0 < i) (hi : i ≤ 20000) : ∀ (j : Nat), j < d.size →
    V.slices_partitionCmpFunc_apiEntry_by_keys_row_1.j11111 d0.toList (a : Int) (b : Int) (p : Int) (i : Int) ((Sort.scanDown (fun x => !ltE x d[a]!) d i j : Nat) : Int) = some r →
    V.slices_partitionCmpFunc_apiEntry_by_keys_row_1.l111100 d0.toList (a : Int) (b : Int) (p : Int) (i : Int) (j : Int) = some r
  | 0, hj, h => by
    apply V.slices_partitionCmpFunc_apiEntry_by_keys_row_1.l111100.of
    unfold F.slices_partitionCmpFunc_apiEntry_by_keys_row_1.l111100.B
    rw [Sort.scanDown] at h
    rw [if_no (by omega)]
    apply V.slices_partitionCmpFunc_apiEntry_by_keys_row_1.j111100001.of
    unfold F.slices_partitionCmpFunc_apiEntry_by_keys_row_1.j111100001.B
    exact h
  | j + 1, hj, h => by
    have hz : d.size = d0.size := by rw [hd, swp_sz]
    apply V.slices_partitionCmpFunc_apiEntry_by_keys_row_1.l111100.of
    unfold F.slices_partitionCmpFunc_apiEntry_by_keys_row_1.l111100.B
    rw [Sort.scanDown] at h
    rw [swp_raw d0 a p (by omega) (by omega), ← hd]
    by_cases g : i ≤ j + 1
    · rw [if_yes (by omega)]
      refine (cmpK d (j + 1) a hj (by omega) _).trans ?_
      rw [cmp_lt]
      apply V.slices_partitionCmpFunc_apiEntry_by_keys_row_1.j111100001.of
      unfold F.slices_partitionCmpFunc_apiEntry_by_keys_row_1.j111100001.B
      cases hl : ltE d[j + 1]! d[a]! with
      | false =>
        rw [if_pos (by simp [hl, g])] at h
        rw [Bool.not_false, cond_true, dn1 (by omega)]
        exact ptE_down1 d0 a b p i hap hpb hb hs d hd r h0 hi j (by omega) h
      | true =>
        rw [if_neg (by simp [hl])] at h
        exact h
    · rw [if_neg (by simp; omega)] at h
      rw [if_no (by omega)]
      apply V.slices_partitionCmpFunc_apiEntry_by_keys_row_1.j111100001.of
      unfold F.slices_partitionCmpFunc_apiEntry_by_keys_row_1.j111100001.B
      exact h
theorem ptE (d0 : Array TEntry) (a b p : Nat) (hap : a ≤ p) (hpb : p < b) (hb : b ≤ d0.size) (hs : d0.size ≤ 10000) :
    V.slices_partitionCmpFunc_apiEntry_by_keys_row_1 d0.toList (a : Int) (b : Int) (p : Int) = some (((Sort.partition ltE d0 a b p).1 : Int), (Sort.partition ltE d0 a b p).2.1, (Sort.partition ltE d0 a b p).2.2.toList) := by
  have hl : d0.toList.length = d0.size := Array.length_toList
  apply V.slices_partitionCmpFunc_apiEntry_by_keys_row_1.of
  unfold F.slices_partitionCmpFunc_apiEntry_by_keys_row_1.B
  rw [meet_self, guard_in (by omega), guard_in (by omega), guard_in (by omega), guard_in (by rw [List.length_set]; omega)]
  apply V.slices_partitionCmpFunc_apiEntry_by_keys_row_1.j11.of
  unfold F.slices_partitionCmpFunc_apiEntry_by_keys_row_1.j11.B
  rw [up1 (by omega)]
  obtain ⟨d, hd⟩ : ∃ d, d = Sort.swp d0 a p := ⟨_, rfl⟩
  have hz : d.size = d0.size := by rw [hd, swp_sz]
  unfold Sort.partition
  rw [← hd]
  dsimp only
  have u := Sort.scanUp_spec (fun x => ltE x d[a]!) d (b - 1) _ (a + 1) rfl
  have u1 := u.1
  have u2 := u.2.1 (by omega)
  refine ptE_up1 d0 a b p hap hpb hb hs d hd _ _ (a + 1) (Nat.le_refl _) (by omega) ?_
  apply V.slices_partitionCmpFunc_apiEntry_by_keys_row_1.j1111.of
  unfold F.slices_partitionCmpFunc_apiEntry_by_keys_row_1.j1111.B
  rw [dn1' (by omega) (by omega)]
  have dn := Sort.scanDown_le (fun x => !ltE x d[a]!) d (Sort.scanUp (fun x => ltE x d[a]!) d (b - 1) (a + 1)) (b - 1)
  generalize Sort.scanUp (fun x => ltE x d[a]!) d (b - 1) (a + 1) = i at u1 u2 dn ⊢
  refine ptE_down1 d0 a b p i hap hpb hb hs d hd _ (by omega) (by omega) (b - 1) (by omega) ?_
  generalize Sort.scanDown (fun x => !ltE x d[a]!) d i (b - 1) = j at dn ⊢
  apply V.slices_partitionCmpFunc_apiEntry_by_keys_row_1.j11111.of
  unfold F.slices_partitionCmpFunc_apiEntry_by_keys_row_1.j11111.B
  rw [swp_raw d0 a p (by omega) (by omega), ← hd]
  by_cases g : i > j
  · rw [if_yes (by omega)]
    simp only [if_pos g]
    refine (swapK d j a (by omega) (by omega) (fun L => V.slices_partitionCmpFunc_apiEntry_by_keys_row_1.j111110101 d0.toList (a : Int) (b : Int) (p : Int) (j : Int) L)).trans ?_
    apply V.slices_partitionCmpFunc_apiEntry_by_keys_row_1.j111110101.of
    rfl
  · rw [if_no (by omega)]
    simp only [if_neg g]
    apply V.slices_partitionCmpFunc_apiEntry_by_keys_row_1.j111111.of
    unfold F.slices_partitionCmpFunc_apiEntry_by_keys_row_1.j111111.B
    rw [swp_raw d0 a p (by omega) (by omega), ← hd]
    refine (swapK d i j (by omega) (by omega) (fun L => V.slices_partitionCmpFunc_apiEntry_by_keys_row_1.j1111111 d0.toList (a : Int) (b : Int) (p : Int) (i : Int) (j : Int) L)).trans ?_
    apply V.slices_partitionCmpFunc_apiEntry_by_keys_row_1.j1111111.of
    unfold F.slices_partitionCmpFunc_apiEntry_by_keys_row_1.j1111111.B
    rw [up1 (by omega), dn1' (by omega) (by omega)]
    exact ptE_loop _ _ _ a _ (i + 1) (j - 1) _ (Nat.le_refl _) (by omega) (by omega) (by rw [swp_sz]; omega) (by rw [swp_sz]; omega) (by rw [swp_sz]; omega)

end Go.Proofs.Ytdblhdpnllckhaa.AE
end
section
set_option linter.unusedVariables false
set_option linter.unusedSimpArgs false
set_option maxRecDepth 20000
namespace Go.Proofs.Ytdblhdpnllckhaa.AE
open Go

/-! ### Numbers -/

theorem len_tab : ∀ n : Fin 64, F.math_bits_Len64.j1111.B (n.val : Int) (n.val : Int) 0 = some (Sort.bitsLen n.val : Int) := by decide +kernel
theorem len_ok (n : Nat) (h : n < 64) : V.math_bits_Len (n : Int) = some (Sort.bitsLen n : Int) := by
  apply V.math_bits_Len.of
  unfold F.math_bits_Len.B
  suffices h2 : V.math_bits_Len64 (n : Int) = some (Sort.bitsLen n : Int) by rw [h2, Option.bind_some]
  apply V.math_bits_Len64.of
  unfold F.math_bits_Len64.B
  rw [if_no (by omega)]
  apply V.math_bits_Len64.j11.of
  unfold F.math_bits_Len64.j11.B
  rw [if_no (by omega)]
  apply V.math_bits_Len64.j111.of
  unfold F.math_bits_Len64.j111.B
  rw [if_no (by omega)]
  apply V.math_bits_Len64.j1111.of
  exact len_tab ⟨n, h⟩
theorem len_small : ∀ n : Fin 64, Sort.bitsLen n.val ≤ 6 ∧ (8 ≤ n.val → 2 ^ Sort.bitsLen n.val ≤ 2 * n.val) ∧ 1 ≤ 2 ^ Sort.bitsLen n.val ∧ 2 ^ Sort.bitsLen n.val ≤ 64 := by decide +kernel
theorem npot_ok (n : Nat) (h : n < 64) : V.slices_nextPowerOfTwo (n : Int) = some ((2 ^ Sort.bitsLen n : Nat) : Int) := by
  obtain ⟨h1, _, h2, h3⟩ := len_small ⟨n, h⟩
  dsimp only at h1 h2 h3
  apply V.slices_nextPowerOfTwo.of
  unfold F.slices_nextPowerOfTwo.B
  rw [u64_id (by omega) (by omega), len_ok n h, Option.bind_some, if_neg (by omega)]
  rw [show (((Sort.bitsLen n : Nat) : Int)).toNat = Sort.bitsLen n from rfl, Nat.min_eq_left (by omega)]
  rw [show ((1 : Int) * 2 ^ Sort.bitsLen n) = ((2 ^ Sort.bitsLen n : Nat) : Int) by push_cast; omega, u64_id (by omega) (by omega)]
theorem xor_ok (x : Int) : ∃ y, V.slices_xorshift_Next x = some (y, y) := by
  have h1 : ∃ y, F.slices_xorshift_Next.j1111.B x = some (y, y) := ⟨_, rfl⟩
  obtain ⟨y, hy⟩ := h1
  have g1 := V.slices_xorshift_Next.j1111.of x hy
  have g2 : V.slices_xorshift_Next.j111 x = some (y, y) := by
    apply V.slices_xorshift_Next.j111.of
    unfold F.slices_xorshift_Next.j111.B
    rw [meet_self, g1]
  have g3 : V.slices_xorshift_Next.j11 x = some (y, y) := by
    apply V.slices_xorshift_Next.j11.of
    unfold F.slices_xorshift_Next.j11.B
    rw [meet_self, g2]
  refine ⟨y, ?_⟩
  apply V.slices_xorshift_Next.of
  unfold F.slices_xorshift_Next.B
  rw [meet_self, g3]
theorem and_ok (x : Int) (m : Nat) (h1 : 1 ≤ m) (h2 : m ≤ 64) : ∃ c : Nat, c < m ∧ w64 (IntKind.wrap .u64 ((BitVec.ofInt 64 x &&& BitVec.ofInt 64 (IntKind.wrap .u64 ((m : Int) - 1))).toNat : Int)) = (c : Int) := by
  have e : (BitVec.ofInt 64 (IntKind.wrap .u64 ((m : Int) - 1))).toNat = m - 1 := by
    rw [u64_id (by omega) (by omega), show ((m : Int) - 1) = ((m - 1 : Nat) : Int) by omega, BitVec.ofInt_natCast, BitVec.toNat_ofNat]
    omega
  have hc : (BitVec.ofInt 64 x &&& BitVec.ofInt 64 (IntKind.wrap .u64 ((m : Int) - 1))).toNat ≤ m - 1 := by
    rw [BitVec.toNat_and, e]; exact Nat.and_le_right
  refine ⟨(BitVec.ofInt 64 x &&& BitVec.ofInt 64 (IntKind.wrap .u64 ((m : Int) - 1))).toNat, by omega, ?_⟩
  rw [u64_id (by omega) (by omega), w64_id (by omega) (by omega)]

/-! ### The patterns broken -/

theorem brE_l (a0 : List TEntry) (a b : Nat) (h8 : 8 ≤ b - a) (h50 : b - a < 64) (m : Nat) (h1 : 1 ≤ m) (h2 : m ≤ 64) (h3 : m ≤ 2 * (b - a)) : ∀ (k i : Nat) (d : Array TEntry) (x : Int), i + k = a + (b - a) / 4 * 2 + 2 → a ≤ i → b ≤ d.size → d.size ≤ 10000 →
    ∃ d', V.slices_breakPatternsCmpFunc_apiEntry_by_keys_row_1.l1101110 a0 (a : Int) (b : Int) (m : Int) (i : Int) d.toList x = some d'.toList ∧ Sort.PermIn a b d d'
  | k, i, d, x, hi, hai, hb, hs => by
    have eb : w64 (w64 ((a : Int) + w64 (w64 (Int.tdiv (w64 ((b : Int) - (a : Int))) 4) * 2)) + 1) = ((a + (b - a) / 4 * 2 + 1 : Nat) : Int) := by
      rw [subw (by omega) (by omega), show w64 (Int.tdiv ((b - a : Nat) : Int) 4) = (((b - a) / 4 : Nat) : Int) by rw [Int.tdiv_eq_ediv_of_nonneg (by omega), w64_id (by omega) (by omega)]; omega,
        show w64 ((((b - a) / 4 : Nat) : Int) * 2) = (((b - a) / 4 * 2 : Nat) : Int) by rw [w64_id (by omega) (by omega)]; omega, addw (by omega), up1 (by omega)]
    cases k with
    | zero =>
      refine ⟨d, ?_, Sort.permIn_refl d a b⟩
      apply V.slices_breakPatternsCmpFunc_apiEntry_by_keys_row_1.l1101110.of
      unfold F.slices_breakPatternsCmpFunc_apiEntry_by_keys_row_1.l1101110.B
      rw [eb, if_no (by omega)]
    | succ k =>
      obtain ⟨y, hy⟩ := xor_ok x
      obtain ⟨c, hc, he⟩ := and_ok y m h1 h2
      have step : ∀ o : Nat, o < b - a → ∃ d', V.slices_breakPatternsCmpFunc_apiEntry_by_keys_row_1.j1101110010011 a0 (a : Int) (b : Int) (m : Int) (i : Int) (o : Int) d.toList y = some d'.toList ∧ Sort.PermIn a b d d' := fun o ho => by
        obtain ⟨d', g1, g2⟩ := brE_l a0 a b h8 h50 m h1 h2 h3 k (i + 1) (Sort.swp d i (a + o)) y (by omega) (by omega) (by rw [swp_sz]; omega) (by rw [swp_sz]; exact hs)
        refine ⟨d', ?_, Sort.permIn_trans _ _ _ a b (Sort.swp_permIn d a b i (a + o) hai (by omega) (by omega) (by omega) hb) g2⟩
        apply V.slices_breakPatternsCmpFunc_apiEntry_by_keys_row_1.j1101110010011.of
        unfold F.slices_breakPatternsCmpFunc_apiEntry_by_keys_row_1.j1101110010011.B
        rw [addw (by omega)]
        refine (swapK d i (a + o) (by omega) (by omega) (fun L => V.slices_breakPatternsCmpFunc_apiEntry_by_keys_row_1.j1101110011 a0 (a : Int) (b : Int) (m : Int) (i : Int) L y)).trans ?_
        apply V.slices_breakPatternsCmpFunc_apiEntry_by_keys_row_1.j1101110011.of
        unfold F.slices_breakPatternsCmpFunc_apiEntry_by_keys_row_1.j1101110011.B
        rw [up1 (by omega)]
        exact g1
      by_cases g : c ≥ b - a
      · obtain ⟨d', g1, g2⟩ := step (c - (b - a)) (by omega)
        refine ⟨d', ?_, g2⟩
        apply V.slices_breakPatternsCmpFunc_apiEntry_by_keys_row_1.l1101110.of
        unfold F.slices_breakPatternsCmpFunc_apiEntry_by_keys_row_1.l1101110.B
        rw [eb, if_yes (by omega), hy, Option.bind_some]
        dsimp only
        rw [he, subw (by omega) (by omega), if_yes (by omega), subw g (by omega)]
        exact g1
      · obtain ⟨d', g1, g2⟩ := step c (by omega)
        refine ⟨d', ?_, g2⟩
        apply V.slices_breakPatternsCmpFunc_apiEntry_by_keys_row_1.l1101110.of
        unfold F.slices_breakPatternsCmpFunc_apiEntry_by_keys_row_1.l1101110.B
        rw [eb, if_yes (by omega), hy, Option.bind_some]
        dsimp only
        rw [he, subw (by omega) (by omega), if_no (by omega)]
        exact g1
theorem brE (d : Array TEntry) (a b : Nat) (h8 : 8 ≤ b - a) (h50 : b - a < 64) (hb : b ≤ d.size) (hs : d.size ≤ 10000) : ∃ d', V.slices_breakPatternsCmpFunc_apiEntry_by_keys_row_1 d.toList (a : Int) (b : Int) = some d'.toList ∧ Sort.PermIn a b d d' := by
  obtain ⟨h1, h2, h3, h4⟩ := len_small ⟨b - a, by omega⟩
  dsimp only at h1 h2 h3 h4
  obtain ⟨d', g1, g2⟩ := brE_l d.toList a b h8 h50 (2 ^ Sort.bitsLen (b - a)) h3 h4 (h2 h8) 3 (a + (b - a) / 4 * 2 - 1) d (IntKind.wrap .u64 ((b - a : Nat) : Int)) (by omega) (by omega) hb hs
  refine ⟨d', ?_, g2⟩
  apply V.slices_breakPatternsCmpFunc_apiEntry_by_keys_row_1.of
  unfold F.slices_breakPatternsCmpFunc_apiEntry_by_keys_row_1.B
  have e : w64 (w64 ((a : Int) + w64 (w64 (Int.tdiv ((b - a : Nat) : Int) 4) * 2)) - 1) = ((a + (b - a) / 4 * 2 - 1 : Nat) : Int) := by
    rw [show w64 (Int.tdiv ((b - a : Nat) : Int) 4) = (((b - a) / 4 : Nat) : Int) by rw [Int.tdiv_eq_ediv_of_nonneg (by omega), w64_id (by omega) (by omega)]; omega,
      show w64 ((((b - a) / 4 : Nat) : Int) * 2) = (((b - a) / 4 * 2 : Nat) : Int) by rw [w64_id (by omega) (by omega)]; omega, addw (by omega), dn1' (by omega) (by omega)]
  rw [subw (by omega) (by omega), if_yes (by omega), npot_ok (b - a) (by omega), Option.bind_some, e]
  exact g1

/-! ### The whole -/

theorem insE_ok' (d : Array TEntry) (a b : Nat) (hab : a ≤ b) (hb : b ≤ d.size) (hs : d.size ≤ 10000) : V.slices_insertionSortCmpFunc_apiEntry_by_keys_row_1 d.toList (a : Int) (b : Int) = some (Sort.insertionSort ltE d a b).toList := by
  rcases Nat.lt_or_ge a b with h | h
  · exact insE_ok d a b h hb hs
  · apply V.slices_insertionSortCmpFunc_apiEntry_by_keys_row_1.of
    unfold F.slices_insertionSortCmpFunc_apiEntry_by_keys_row_1.B
    rw [up1 (by omega)]
    apply V.slices_insertionSortCmpFunc_apiEntry_by_keys_row_1.l10.of
    unfold F.slices_insertionSortCmpFunc_apiEntry_by_keys_row_1.l10.B Sort.insertionSort
    rw [if_no (by omega), Sort.insOuter, if_neg (by omega)]

theorem pdqE_ins (a0 : List TEntry) (a1 a2 a3 : Int) (a b limit : Nat) (wb wp : Bool) (d : Array TEntry) (h12 : b - a ≤ 12) (hab : a ≤ b) (hb : b ≤ d.size) (hs : d.size ≤ 10000) :
    ∃ R, V.slices_pdqsortCmpFunc_apiEntry_by_keys_row_1.l110 a0 a1 a2 a3 (a : Int) (b : Int) (limit : Int) wb wp d.toList = some R.toList ∧ Sort.PermIn a b d R ∧ Sort.SortedIn ltE a b R := by
  refine ⟨_, ?_, Sort.insertionSort_holds swoE d a b hab hb⟩
  apply V.slices_pdqsortCmpFunc_apiEntry_by_keys_row_1.l110.of
  unfold F.slices_pdqsortCmpFunc_apiEntry_by_keys_row_1.l110.B
  rw [subw hab (by omega), if_yes (by omega), insE_ok' d a b hab hb hs, Option.bind_some]

theorem pdqE_l (n : Nat) : ∀ (a b limit : Nat) (wb wp : Bool) (d : Array TEntry) (a0 : List TEntry) (a1 a2 a3 : Int), b - a ≤ n → b - a < 64 → limit ≤ 100 → a ≤ b → b ≤ d.size → d.size ≤ 10000 → Sort.Below ltE a b d →
    ∃ R, V.slices_pdqsortCmpFunc_apiEntry_by_keys_row_1.l110 a0 a1 a2 a3 (a : Int) (b : Int) (limit : Int) wb wp d.toList = some R.toList ∧ Sort.PermIn a b d R ∧ Sort.SortedIn ltE a b R := by
  induction n with
  | zero => exact fun a b limit wb wp d a0 a1 a2 a3 hn h50 hl hab hb hs hB => pdqE_ins a0 a1 a2 a3 a b limit wb wp d (by omega) hab hb hs
  | succ n IH =>
    intro a b limit wb wp d a0 a1 a2 a3 hn h50 hl hab hb hs hB
    by_cases h12 : b - a ≤ 12
    · exact pdqE_ins a0 a1 a2 a3 a b limit wb wp d h12 hab hb hs
    have call : ∀ (a b lim : Nat) (d : Array TEntry), b - a ≤ n → b - a < 64 → lim ≤ 100 → a ≤ b → b ≤ d.size → d.size ≤ 10000 → Sort.Below ltE a b d → ∃ R, V.slices_pdqsortCmpFunc_apiEntry_by_keys_row_1 d.toList (a : Int) (b : Int) (lim : Int) = some R.toList ∧ Sort.PermIn a b d R ∧ Sort.SortedIn ltE a b R := fun a b lim d g1 g2 g3 g4 g5 g6 g7 => by
      obtain ⟨R, r1, r2⟩ := IH a b lim true true d d.toList (a : Int) (b : Int) (lim : Int) g1 g2 g3 g4 g5 g6 g7
      refine ⟨R, ?_, r2⟩
      apply V.slices_pdqsortCmpFunc_apiEntry_by_keys_row_1.of
      unfold F.slices_pdqsortCmpFunc_apiEntry_by_keys_row_1.B
      exact r1
    -- the two sides
    have part : ∀ (d3 : Array TEntry) (p lim : Nat), lim ≤ 100 → a ≤ p → p < b → b ≤ d3.size → d3.size ≤ 10000 → Sort.Below ltE a b d3 → ∃ R, V.slices_pdqsortCmpFunc_apiEntry_by_keys_row_1.j1100011111111 a0 a1 a2 a3 (a : Int) (b : Int) (lim : Int) ((b - a : Nat) : Int) (p : Int) d3.toList = some R.toList ∧ Sort.PermIn a b d3 R ∧ Sort.SortedIn ltE a b R := fun d3 p lim hlim hp1 hp2 hb3 hs3 hB3 => by
      have hpt := ptE d3 a b p hp1 hp2 hb3 hs3
      rcases hx : Sort.partition ltE d3 a b p with ⟨mid, ap, d4⟩
      rw [hx] at hpt
      dsimp only at hpt
      obtain ⟨g1, g2, hs4, hBa, hBr, hleft, hright⟩ := Sort.round_part swoE (Sort.partition_holds ltE) hp1 hp2 hb3 hB3 hx
      have key : ∃ R, F.slices_pdqsortCmpFunc_apiEntry_by_keys_row_1.j1100011111111.B V.slices_partitionCmpFunc_apiEntry_by_keys_row_1 V.slices_pdqsortCmpFunc_apiEntry_by_keys_row_1 V.slices_pdqsortCmpFunc_apiEntry_by_keys_row_1.l110 a0 a1 a2 a3 (a : Int) (b : Int) (lim : Int) ((b - a : Nat) : Int) (p : Int) d3.toList = some R.toList ∧ Sort.PermIn a b d3 R ∧ Sort.SortedIn ltE a b R := by
        unfold F.slices_pdqsortCmpFunc_apiEntry_by_keys_row_1.j1100011111111.B
        rw [hpt, Option.bind_some]
        dsimp only
        rw [subw g1 (by omega), subw (by omega : mid ≤ b) (by omega), up1 (by omega)]
        by_cases q : mid - a < b - mid
        · obtain ⟨L, l1, l2, l3⟩ := call a mid lim d4 (by omega) (by omega) hlim g1 (by omega) (by omega) hBa
          obtain ⟨hBL, hfin⟩ := hleft L l2 l3
          have hsL : L.size = d4.size := l2.1
          rw [if_yes (by omega), l1, Option.bind_some]
          obtain ⟨R, r1, r2, r3⟩ := IH (mid + 1) b lim (decide (((mid - a : Nat) : Int) ≥ w64 (Int.tdiv ((b - a : Nat) : Int) 8))) ap L a0 a1 a2 a3 (by omega) (by omega) hlim (by omega) (by omega) (by omega) hBL
          exact ⟨R, r1, hfin R r2 r3⟩
        · obtain ⟨L, l1, l2, l3⟩ := call (mid + 1) b lim d4 (by omega) (by omega) hlim (by omega) (by omega) (by omega) hBr
          obtain ⟨hBL, hfin⟩ := hright L l2 l3
          have hsL : L.size = d4.size := l2.1
          rw [if_no (by omega), l1, Option.bind_some]
          obtain ⟨R, r1, r2, r3⟩ := IH a mid lim (decide (((b - mid : Nat) : Int) ≥ w64 (Int.tdiv ((b - a : Nat) : Int) 8))) ap L a0 a1 a2 a3 (by omega) (by omega) hlim (by omega) (by omega) (by omega) hBL
          exact ⟨R, r1, hfin R r2 r3⟩
      obtain ⟨R, r1, r2⟩ := key
      refine ⟨R, ?_, r2⟩
      apply V.slices_pdqsortCmpFunc_apiEntry_by_keys_row_1.j1100011111111.of
      exact r1
    -- those equal to the pivot
    have equ : ∀ (d3 : Array TEntry) (p lim : Nat), lim ≤ 100 → a ≤ p → p < b → b ≤ d3.size → d3.size ≤ 10000 → Sort.Below ltE a b d3 → ∃ R, V.slices_pdqsortCmpFunc_apiEntry_by_keys_row_1.j110001111111 a0 a1 a2 a3 (a : Int) (b : Int) (lim : Int) wb wp ((b - a : Nat) : Int) (p : Int) d3.toList = some R.toList ∧ Sort.PermIn a b d3 R ∧ Sort.SortedIn ltE a b R := fun d3 p lim hlim hp1 hp2 hb3 hs3 hB3 => by
      obtain ⟨R0, q1, q2⟩ := part d3 p lim hlim hp1 hp2 hb3 hs3 hB3
      have no : V.slices_pdqsortCmpFunc_apiEntry_by_keys_row_1.j11000111111101 a0 a1 a2 a3 (a : Int) (b : Int) (lim : Int) wb wp ((b - a : Nat) : Int) (p : Int) false d3.toList = some R0.toList := by
        apply V.slices_pdqsortCmpFunc_apiEntry_by_keys_row_1.j11000111111101.of
        unfold F.slices_pdqsortCmpFunc_apiEntry_by_keys_row_1.j11000111111101.B
        rw [cond_false]
        exact q1
      by_cases ha : a > 0
      · cases hl : ltE d3[a - 1]! d3[p]! with
        | true =>
          refine ⟨R0, ?_, q2⟩
          apply V.slices_pdqsortCmpFunc_apiEntry_by_keys_row_1.j110001111111.of
          unfold F.slices_pdqsortCmpFunc_apiEntry_by_keys_row_1.j110001111111.B
          rw [if_yes (by omega), dn1' (by omega) ha]
          refine (cmpK d3 (a - 1) p (by omega) (by omega) _).trans ?_
          rw [cmp_lt, hl]
          exact no
        | false =>
          have hpe := peE d3 a b p hp1 hp2 hb3 hs3
          rcases hx : Sort.partitionEqual ltE d3 a b p with ⟨mid, d4⟩
          rw [hx] at hpe
          dsimp only at hpe
          obtain ⟨g1, g2, hs4, hB4, hfin⟩ := Sort.round_eq swoE (Sort.partitionEqual_holds ltE) ha hp1 hp2 hb3 hB3 hl hx
          obtain ⟨R, r1, r2, r3⟩ := IH mid b lim wb wp d4 a0 a1 a2 a3 (by omega) (by omega) hlim g2 (by omega) (by omega) hB4
          refine ⟨R, ?_, hfin R r2 r3⟩
          apply V.slices_pdqsortCmpFunc_apiEntry_by_keys_row_1.j110001111111.of
          unfold F.slices_pdqsortCmpFunc_apiEntry_by_keys_row_1.j110001111111.B
          rw [if_yes (by omega), dn1' (by omega) ha]
          refine (cmpK d3 (a - 1) p (by omega) (by omega) _).trans ?_
          rw [cmp_lt, hl, Bool.not_false]
          apply V.slices_pdqsortCmpFunc_apiEntry_by_keys_row_1.j11000111111101.of
          unfold F.slices_pdqsortCmpFunc_apiEntry_by_keys_row_1.j11000111111101.B
          rw [cond_true, hpe, Option.bind_some]
          exact r1
      · refine ⟨R0, ?_, q2⟩
        apply V.slices_pdqsortCmpFunc_apiEntry_by_keys_row_1.j110001111111.of
        unfold F.slices_pdqsortCmpFunc_apiEntry_by_keys_row_1.j110001111111.B
        rw [if_no (by omega)]
        exact no
    -- the insertion that gives up
    have ins : ∀ (f : Bool) (d2 : Array TEntry) (p lim : Nat), lim ≤ 100 → a ≤ p → p < b → b ≤ d2.size → d2.size ≤ 10000 → Sort.Below ltE a b d2 → ∃ R, V.slices_pdqsortCmpFunc_apiEntry_by_keys_row_1.j1100011111101 a0 a1 a2 a3 (a : Int) (b : Int) (lim : Int) wb wp ((b - a : Nat) : Int) (p : Int) f d2.toList = some R.toList ∧ Sort.PermIn a b d2 R ∧ Sort.SortedIn ltE a b R := fun f d2 p lim hlim hp1 hp2 hb2 hs2 hB2 => by
      cases f with
      | false =>
        obtain ⟨R, r1, r2⟩ := equ d2 p lim hlim hp1 hp2 hb2 hs2 hB2
        refine ⟨R, ?_, r2⟩
        apply V.slices_pdqsortCmpFunc_apiEntry_by_keys_row_1.j1100011111101.of
        unfold F.slices_pdqsortCmpFunc_apiEntry_by_keys_row_1.j1100011111101.B
        rw [cond_false]
        exact r1
      | true =>
        have hpi := partialE d2 a b (by omega) hb2 hs2
        obtain ⟨s1, s2⟩ := Sort.partialInsertionSort_holds swoE d2 a b (by omega) hb2 hB2
        cases hq : (Sort.partialInsertionSort ltE d2 a b).2 with
        | true =>
          refine ⟨_, ?_, s1, s2 hq⟩
          apply V.slices_pdqsortCmpFunc_apiEntry_by_keys_row_1.j1100011111101.of
          unfold F.slices_pdqsortCmpFunc_apiEntry_by_keys_row_1.j1100011111101.B
          rw [cond_true, hpi, Option.bind_some, hq]
          rfl
        | false =>
          have hz := s1.1
          obtain ⟨R, r1, r2, r3⟩ := equ _ p lim hlim hp1 hp2 (by rw [hz]; exact hb2) (by rw [hz]; exact hs2) (hB2.perm hb2 s1)
          refine ⟨R, ?_, Sort.permIn_trans _ _ _ a b s1 r2, r3⟩
          apply V.slices_pdqsortCmpFunc_apiEntry_by_keys_row_1.j1100011111101.of
          unfold F.slices_pdqsortCmpFunc_apiEntry_by_keys_row_1.j1100011111101.B
          rw [cond_true, hpi, Option.bind_some, hq]
          exact r1
    have hint : ∀ (t : Int) (d2 : Array TEntry) (p lim : Nat), lim ≤ 100 → a ≤ p → p < b → b ≤ d2.size → d2.size ≤ 10000 → Sort.Below ltE a b d2 → ∃ R, V.slices_pdqsortCmpFunc_apiEntry_by_keys_row_1.j11000111111 a0 a1 a2 a3 (a : Int) (b : Int) (lim : Int) wb wp ((b - a : Nat) : Int) (p : Int) t d2.toList = some R.toList ∧ Sort.PermIn a b d2 R ∧ Sort.SortedIn ltE a b R := fun t d2 p lim hlim hp1 hp2 hb2 hs2 hB2 => by
      have key : ∃ R, F.slices_pdqsortCmpFunc_apiEntry_by_keys_row_1.j11000111111.B V.slices_pdqsortCmpFunc_apiEntry_by_keys_row_1.j1100011111101 a0 a1 a2 a3 (a : Int) (b : Int) (lim : Int) wb wp ((b - a : Nat) : Int) (p : Int) t d2.toList = some R.toList ∧ Sort.PermIn a b d2 R ∧ Sort.SortedIn ltE a b R := by
        unfold F.slices_pdqsortCmpFunc_apiEntry_by_keys_row_1.j11000111111.B
        have i1 := ins (t == 1) d2 p lim hlim hp1 hp2 hb2 hs2 hB2
        have i2 := ins false d2 p lim hlim hp1 hp2 hb2 hs2 hB2
        clear part equ ins
        cases wb with
        | false => exact i2
        | true =>
          cases wp with
          | false => exact i2
          | true => exact i1
      obtain ⟨R, r1, r2⟩ := key
      refine ⟨R, ?_, r2⟩
      apply V.slices_pdqsortCmpFunc_apiEntry_by_keys_row_1.j11000111111.of
      exact r1
    have piv : ∀ (d1 : Array TEntry) (lim : Nat), lim ≤ 100 → b ≤ d1.size → d1.size ≤ 10000 → Sort.Below ltE a b d1 → ∃ R, V.slices_pdqsortCmpFunc_apiEntry_by_keys_row_1.j110001111 a0 a1 a2 a3 (a : Int) (b : Int) (lim : Int) wb wp ((b - a : Nat) : Int) d1.toList = some R.toList ∧ Sort.PermIn a b d1 R ∧ Sort.SortedIn ltE a b R := fun d1 lim hlim hb1 hs1 hB1 => by
      obtain ⟨p, t, e1, e2, e3⟩ := pivotE d1 a b (by omega) h50 hb1 hs1
      cases ht : (t == 2) with
      | true =>
        have rv := Sort.reverseRange_holds d1 a b hab hb1
        have hz := rv.1
        obtain ⟨R, r1, r2, r3⟩ := hint 1 (Sort.reverseRange d1 a b) ((b - 1) - (p - a)) lim hlim (by omega) (by omega) (by rw [hz]; exact hb1) (by rw [hz]; exact hs1) (hB1.perm hb1 rv)
        refine ⟨R, ?_, Sort.permIn_trans _ _ _ a b rv r2, r3⟩
        apply V.slices_pdqsortCmpFunc_apiEntry_by_keys_row_1.j110001111.of
        unfold F.slices_pdqsortCmpFunc_apiEntry_by_keys_row_1.j110001111.B
        rw [e1, Option.bind_some]
        dsimp only
        rw [ht, cond_true, revE_ok d1 a b (by omega) hb1 hs1, Option.bind_some, dn1' (by omega) (by omega), subw e2 (by omega), subw (by omega) (by omega)]
        exact r1
      | false =>
        obtain ⟨R, r1, r2⟩ := hint t d1 p lim hlim e2 e3 hb1 hs1 hB1
        refine ⟨R, ?_, r2⟩
        apply V.slices_pdqsortCmpFunc_apiEntry_by_keys_row_1.j110001111.of
        unfold F.slices_pdqsortCmpFunc_apiEntry_by_keys_row_1.j110001111.B
        rw [e1, Option.bind_some]
        dsimp only
        rw [ht, cond_false]
        exact r1
    have key : ∃ R, F.slices_pdqsortCmpFunc_apiEntry_by_keys_row_1.l110.B V.slices_insertionSortCmpFunc_apiEntry_by_keys_row_1 V.slices_heapSortCmpFunc_apiEntry_by_keys_row_1 V.slices_breakPatternsCmpFunc_apiEntry_by_keys_row_1 V.slices_pdqsortCmpFunc_apiEntry_by_keys_row_1.j110001111 a0 a1 a2 a3 (a : Int) (b : Int) (limit : Int) wb wp d.toList = some R.toList ∧ Sort.PermIn a b d R ∧ Sort.SortedIn ltE a b R := by
      unfold F.slices_pdqsortCmpFunc_apiEntry_by_keys_row_1.l110.B
      rw [subw hab (by omega), if_no (by omega)]
      by_cases h0 : limit = 0
      · rw [show (((limit : Nat) : Int) == 0) = true by simp [h0], cond_true, heapE_ok d a b (by omega) hb hs, Option.bind_some]
        exact ⟨_, rfl, Sort.heapSort_holds swoE d a b hab hb⟩
      · rw [show (((limit : Nat) : Int) == 0) = false by simp [h0], cond_false, dn1' (by omega) (by omega)]
        obtain ⟨d', g1, g2⟩ := brE d a b (by omega) h50 hb hs
        have hz := g2.1
        have p1 := piv d' (limit - 1) (by omega) (by rw [hz]; exact hb) (by rw [hz]; exact hs) (hB.perm hb g2)
        have p2 := piv d limit hl hb hs hB
        clear part equ ins hint piv
        cases wb with
        | false =>
          obtain ⟨R, r1, r2, r3⟩ := p1
          rw [Bool.not_false, cond_true, g1, Option.bind_some]
          exact ⟨R, r1, Sort.permIn_trans _ _ _ a b g2 r2, r3⟩
        | true => exact p2
    obtain ⟨R, r1, r2⟩ := key
    refine ⟨R, ?_, r2⟩
    apply V.slices_pdqsortCmpFunc_apiEntry_by_keys_row_1.l110.of
    exact r1

/-- The sort: a row of the same entries, that does not fall. -/
theorem sortE (l : List TEntry) (h : l.length < 64) : ∃ l', V.slices_SortFunc_apiEntryapiEntry_by_keys_row_1 l = some l' ∧ l'.Perm l ∧ l'.Pairwise (fun x y => ltE y x = false) := by
  obtain ⟨R, r1, r2, r3⟩ := pdqE_l 64 0 l.length (Sort.bitsLen l.length) true true l.toArray l 0 (l.length : Int) (Sort.bitsLen l.length : Int) (by omega) (by omega) (by have := (len_small ⟨l.length, by omega⟩).1; dsimp only at this; omega) (by omega) (by simp) (by simp; omega) (Or.inl rfl)
  have hz : R.size = l.length := by rw [r2.1]; simp
  refine ⟨R.toList, ?_, ?_, ?_⟩
  · apply V.slices_SortFunc_apiEntryapiEntry_by_keys_row_1.of
    unfold F.slices_SortFunc_apiEntryapiEntry_by_keys_row_1.B
    rw [u64_id (by omega) (by omega), len_ok _ (by omega), Option.bind_some]
    suffices h2 : V.slices_pdqsortCmpFunc_apiEntry_by_keys_row_1 l 0 (l.length : Int) (Sort.bitsLen l.length : Int) = some R.toList by rw [h2, Option.bind_some]
    apply V.slices_pdqsortCmpFunc_apiEntry_by_keys_row_1.of
    unfold F.slices_pdqsortCmpFunc_apiEntry_by_keys_row_1.B
    exact r1
  · have := r2.2.2
    have e : R.toList.take l.length = R.toList := List.take_of_length_le (by simp [hz])
    rw [← hz] at this
    simpa [hz, e] using this
  · rw [List.pairwise_iff_getElem]
    intro i j hi hj hij
    have hi' : i < R.size := by simpa using hi
    have hj' : j < R.size := by simpa using hj
    have := r3 i j (Nat.zero_le _) hij (by omega)
    rw [getElem!_pos R i hi', getElem!_pos R j hj'] at this
    simpa using this

end Go.Proofs.Ytdblhdpnllckhaa.AE
end
section
set_option linter.unusedVariables false
set_option linter.unusedSimpArgs false
set_option maxRecDepth 20000
namespace Go.Proofs.Ytdblhdpnllckhaa.AE
open Go

def zB : ByteArray := ⟨#[0]⟩
def entN (l : List TNode) : List TEntry := l.map fun n => (n.1, nodeB n)
def entE (l : List TEdge) : List TEntry := l.map fun x => (x.1, edgeB x)
def entO (l : List TEdge) : List TEntry := l.map fun x => (x.2.1 ++ zB ++ x.1, x.2.2.1)
def entI (l : List TEdge) : List TEntry := l.map fun x => (x.2.2.1 ++ zB ++ x.1, x.2.1)
def errN : List TNode → Int
  | [] => 0
  | n :: l => if nodeN n = 0 then errN l else nodeN n
def errE : List TEdge → Int
  | [] => 0
  | x :: l => if edgeN x = 0 then errE l else edgeN x
theorem errE_zero : ∀ {l : List TEdge}, errE l = 0 ↔ ∀ n ∈ l, edgeN n = 0
  | [] => by simp [errE]
  | n :: l => by
    unfold errE
    by_cases h : edgeN n = 0
    · rw [if_pos h, errE_zero]; simp [h]
    · rw [if_neg h]; simp [h]
noncomputable def srtE (l : List TEntry) : List TEntry := (V.slices_SortFunc_apiEntryapiEntry_by_keys_row_1 l).getD []
theorem srtE_ok (l : List TEntry) (h : l.length < 64) : V.slices_SortFunc_apiEntryapiEntry_by_keys_row_1 l = some (srtE l) ∧ (srtE l).Perm l ∧ (srtE l).Pairwise (fun x y => ltE y x = false) := by
  obtain ⟨l', h1, h2, h3⟩ := sortE l h
  have e : srtE l = l' := by unfold srtE; rw [h1]; rfl
  rw [e]
  exact ⟨h1, h2, h3⟩
theorem row_ok (l : List TEntry) (h : l.length < 64) : V.keys_row l = some (srtE l) := by
  refine V.keys_row.of _ ?_
  unfold F.keys_row.B
  rw [(srtE_ok l h).1, Option.bind_some]
theorem weakE : Weak ltE := ⟨fun a => lt_irr a.1, fun _ _ _ h g => lt_trans h g, fun a b c h => by
  cases h1 : ltE a b with
  | true => exact .inl rfl
  | false =>
    cases h2 : ltE b c with
    | true => exact .inr rfl
    | false => have := swoE.ntrans _ _ _ h1 h2; rw [h] at this; cases this⟩
theorem srtE_is {l k : List TEntry} (h : l.length < 64) (hp : l.Perm k) (hk : k.Pairwise fun a b => ltE a b = true) : srtE l = k := by
  obtain ⟨_, h2, h3⟩ := srtE_ok l h
  exact srt_unique weakE (h2.trans hp) h3 hk
theorem Nodes_l (l : List TNode) (hl : l.length < 64) (ho : ∀ n ∈ l, okNode n) : ∀ (d i : Nat), i + d = l.length →
    V.keys_Nodes.l11010 l (i : Int) (entN (l.take i)) = some (if errN (l.drop i) = 0 then (srtE (entN l), 0) else ([], errN (l.drop i)))
  | 0, i, h => by
    refine V.keys_Nodes.l11010.of _ _ _ ?_
    unfold F.keys_Nodes.l11010.B
    rw [if_out (by omega), List.drop_eq_nil_of_le (by omega), List.take_of_length_le (by omega), row_ok _ (by simpa [entN] using hl)]
    rfl
  | d + 1, i, h => by
    have hi : i < l.length := by omega
    have hm := ho _ (rd_mem (e := sNode) hi)
    have ih := Nodes_l l hl ho d (i + 1) (by omega)
    refine V.keys_Nodes.l11010.of _ _ _ ?_
    unfold F.keys_Nodes.l11010.B
    rw [if_in hi, guard_in hi, nat_cast, w64_up hi (by omega)]
    show (V.elem_PutNode (rd sNode l i)).bind _ = _
    rw [PutNode_ok _ hm, Option.bind_some, drop_rd (e := sNode) hi]
    dsimp only
    rw [errN]
    by_cases h0 : nodeN (rd sNode l i) = 0
    · rw [show (nodeN (rd sNode l i) != 0) = false by rw [h0]; rfl, cond_false, if_pos h0, ← ih, take_rd (e := sNode) hi, guard_dec (by unfold nmax; simp [entN]; omega)]
      simp [entN]
    · rw [bne_ne h0, cond_true, if_neg h0, if_neg h0]
theorem Nodes_ok (l : List TNode) (hl : l.length < 64) (ho : ∀ n ∈ l, okNode n) : V.keys_Nodes l = some (if errN l = 0 then (srtE (entN l), 0) else ([], errN l)) := by
  refine V.keys_Nodes.of _ ?_
  unfold F.keys_Nodes.B
  have := Nodes_l l hl ho l.length 0 (by omega)
  rw [List.drop_zero, List.take_zero] at this
  exact this
theorem Edges_l (l : List TEdge) (hl : l.length < 64) (ho : ∀ n ∈ l, okEdge n) : ∀ (d i : Nat), i + d = l.length →
    V.keys_Edges.l11010 l (i : Int) (entE (l.take i)) = some (if errE (l.drop i) = 0 then (srtE (entE l), 0) else ([], errE (l.drop i)))
  | 0, i, h => by
    refine V.keys_Edges.l11010.of _ _ _ ?_
    unfold F.keys_Edges.l11010.B
    rw [if_out (by omega), List.drop_eq_nil_of_le (by omega), List.take_of_length_le (by omega), row_ok _ (by simpa [entE] using hl)]
    rfl
  | d + 1, i, h => by
    have hi : i < l.length := by omega
    have hm := ho _ (rd_mem (e := sEdge) hi)
    have ih := Edges_l l hl ho d (i + 1) (by omega)
    refine V.keys_Edges.l11010.of _ _ _ ?_
    unfold F.keys_Edges.l11010.B
    rw [if_in hi, guard_in hi, nat_cast, w64_up hi (by omega)]
    show (V.elem_PutEdge (rd sEdge l i)).bind _ = _
    rw [PutEdge_ok _ hm, Option.bind_some, drop_rd (e := sEdge) hi]
    dsimp only
    rw [errE]
    by_cases h0 : edgeN (rd sEdge l i) = 0
    · rw [show (edgeN (rd sEdge l i) != 0) = false by rw [h0]; rfl, cond_false, if_pos h0, ← ih, take_rd (e := sEdge) hi, guard_dec (by unfold nmax; simp [entE]; omega)]
      simp [entE]
    · rw [bne_ne h0, cond_true, if_neg h0, if_neg h0]
theorem Edges_ok (l : List TEdge) (hl : l.length < 64) (ho : ∀ n ∈ l, okEdge n) : V.keys_Edges l = some (if errE l = 0 then (srtE (entE l), 0) else ([], errE l)) := by
  refine V.keys_Edges.of _ ?_
  unfold F.keys_Edges.B
  have := Edges_l l hl ho l.length 0 (by omega)
  rw [List.drop_zero, List.take_zero] at this
  exact this
theorem keysOf_ok (a b : ByteArray) (ha : nameB a = true) (hb : nameB b = true) (h1 : a.size ≤ 1000) (h2 : b.size ≤ 1000) : V.keys_Of a b = some (a ++ zB ++ b, 0) := by
  have hz : zB.size = 1 := rfl
  refine V.keys_Of.of _ _ ?_
  unfold F.keys_Of.B
  rw [name_Check_ok a (by omega), name_Check_ok b (by omega), ha, hb]
  show guardK (decide (a.size + zB.size ≤ i64max)) (guardK (decide ((a ++ zB).size + b.size ≤ i64max)) (some (a ++ zB ++ b, (0 : Int)))) = _
  rw [guard_dec (by unfold i64max; omega), guard_dec (by unfold i64max; rw [ByteArray.size_append]; omega)]
theorem kOut_l (l : List TEdge) (hl : l.length < 64) (he : ∀ n ∈ l, edgeN n = 0) : ∀ (d i : Nat), i + d = l.length →
    V.keys_sides_by_keys_Out_1.l11010 l (i : Int) (entO (l.take i)) = some (srtE (entO l), 0)
  | 0, i, h => by
    refine V.keys_sides_by_keys_Out_1.l11010.of _ _ _ ?_
    unfold F.keys_sides_by_keys_Out_1.l11010.B
    rw [if_out (by omega), List.take_of_length_le (by omega), row_ok _ (by simpa [entO] using hl)]
    rfl
  | d + 1, i, h => by
    have hi : i < l.length := by omega
    obtain ⟨n1, n2, n3, _⟩ := edgeN_rest (he _ (rd_mem (e := sEdge) hi))
    have ih := kOut_l l hl he d (i + 1) (by omega)
    refine V.keys_sides_by_keys_Out_1.l11010.of _ _ _ ?_
    unfold F.keys_sides_by_keys_Out_1.l11010.B
    rw [if_in hi, guard_in hi, nat_cast, w64_up hi (by omega), V.keys_Out_1.of _ rfl, Option.bind_some]
    dsimp only
    rw [keysOf_ok _ _ n2 n1 (by have := (nameB_size n2).2; omega) (by have := (nameB_size n1).2; omega), Option.bind_some]
    dsimp only
    rw [show ((0 : Int) != 0) = false from rfl, cond_false, ← ih, take_rd (e := sEdge) hi, guard_dec (by unfold nmax; simp [entO]; omega)]
    simp [entO]
theorem kOut_ok (l : List TEdge) (hl : l.length < 64) (he : ∀ n ∈ l, edgeN n = 0) : V.keys_Out l = some (srtE (entO l), 0) := by
  refine V.keys_Out.of _ ?_
  unfold F.keys_Out.B
  have := kOut_l l hl he l.length 0 (by omega)
  rw [List.take_zero] at this
  rw [V.keys_sides_by_keys_Out_1.of l this, Option.bind_some]
theorem kIn_l (l : List TEdge) (hl : l.length < 64) (he : ∀ n ∈ l, edgeN n = 0) : ∀ (d i : Nat), i + d = l.length →
    V.keys_sides_by_keys_In_1.l11010 l (i : Int) (entI (l.take i)) = some (srtE (entI l), 0)
  | 0, i, h => by
    refine V.keys_sides_by_keys_In_1.l11010.of _ _ _ ?_
    unfold F.keys_sides_by_keys_In_1.l11010.B
    rw [if_out (by omega), List.take_of_length_le (by omega), row_ok _ (by simpa [entI] using hl)]
    rfl
  | d + 1, i, h => by
    have hi : i < l.length := by omega
    obtain ⟨n1, n2, n3, _⟩ := edgeN_rest (he _ (rd_mem (e := sEdge) hi))
    have ih := kIn_l l hl he d (i + 1) (by omega)
    refine V.keys_sides_by_keys_In_1.l11010.of _ _ _ ?_
    unfold F.keys_sides_by_keys_In_1.l11010.B
    rw [if_in hi, guard_in hi, nat_cast, w64_up hi (by omega), V.keys_In_1.of _ rfl, Option.bind_some]
    dsimp only
    rw [keysOf_ok _ _ n3 n1 (by have := (nameB_size n3).2; omega) (by have := (nameB_size n1).2; omega), Option.bind_some]
    dsimp only
    rw [show ((0 : Int) != 0) = false from rfl, cond_false, ← ih, take_rd (e := sEdge) hi, guard_dec (by unfold nmax; simp [entI]; omega)]
    simp [entI]
theorem kIn_ok (l : List TEdge) (hl : l.length < 64) (he : ∀ n ∈ l, edgeN n = 0) : V.keys_In l = some (srtE (entI l), 0) := by
  refine V.keys_In.of _ ?_
  unfold F.keys_In.B
  have := kIn_l l hl he l.length 0 (by omega)
  rw [List.take_zero] at this
  rw [V.keys_sides_by_keys_In_1.of l this, Option.bind_some]
theorem Lay_ok (g : TGraph) (h1 : g.1.length < 64) (h2 : g.2.length < 64) (hok : okGraph g) : V.keys_Lay g = some (if errN g.1 = 0 then (if errE g.2 = 0 then ((srtE (entN g.1), srtE (entE g.2), srtE (entO g.2), srtE (entI g.2)), 0) else (([], [], [], []), errE g.2)) else (([], [], [], []), errN g.1)) := by
  refine V.keys_Lay.of _ ?_
  unfold F.keys_Lay.B
  rw [Nodes_ok g.1 h1 hok.n, Option.bind_some]
  by_cases hn : errN g.1 = 0
  · rw [if_pos hn, if_pos hn]
    dsimp only
    rw [show ((0 : Int) != 0) = false from rfl, cond_false, Edges_ok g.2 h2 hok.e, Option.bind_some]
    by_cases he : errE g.2 = 0
    · rw [if_pos he, if_pos he]
      dsimp only
      rw [show ((0 : Int) != 0) = false from rfl, cond_false, kOut_ok g.2 h2 (errE_zero.1 he), Option.bind_some, kIn_ok g.2 h2 (errE_zero.1 he), Option.bind_some]
    · rw [if_neg he, if_neg he]
      dsimp only
      rw [bne_ne he, cond_true]
  · rw [if_neg hn, if_neg hn]
    dsimp only
    rw [bne_ne hn, cond_true]

end Go.Proofs.Ytdblhdpnllckhaa.AE
end
section
set_option linter.unusedVariables false
set_option linter.unusedSimpArgs false
set_option maxRecDepth 20000
namespace Go.Proofs.Ytdblhdpnllckhaa.AE
open Go

/-! ### An edit more -/

def insT (l : List TEntry) (k v : ByteArray) : List TEntry := (l.filter fun p => strLt p.1 k) ++ [(k, v)] ++ l.filter fun p => strLt k p.1
theorem one_l1 (l : List TEntry) (k v : ByteArray) (hb : l.length ≤ 1000) : ∀ (d i : Nat) (acc : List TEntry), i + d = l.length → acc.length ≤ 2000 + i → V.pleachref22_one.l1111010 l (k, v, false) (i : Int) acc = some (acc ++ (l.drop i).filter fun p => strLt k p.1)
  | 0, i, acc, h, ha => by
    refine V.pleachref22_one.l1111010.of _ _ _ _ ?_
    unfold F.pleachref22_one.l1111010.B
    rw [if_out (by omega), List.drop_eq_nil_of_le (by omega), List.filter_nil, List.append_nil]
  | d + 1, i, acc, h, ha => by
    have hi : i < l.length := by omega
    refine V.pleachref22_one.l1111010.of _ _ _ _ ?_
    unfold F.pleachref22_one.l1111010.B
    rw [if_in hi, guard_in hi, nat_cast, lt_or, Bool.not_not, guard_in hi, w64_up hi (by omega), filt_rd (e := sEntry) l (fun p => strLt k p.1) hi]
    show (bif strLt k (rd sEntry l i).1 then guardK (decide (acc.length + 1 ≤ nmax)) (V.pleachref22_one.l1111010 l (k, v, false) ((i + 1 : Nat) : Int) (acc ++ [rd sEntry l i])) else V.pleachref22_one.l1111010 l (k, v, false) ((i + 1 : Nat) : Int) acc) = _
    rw [guard_dec (by unfold nmax; omega)]
    cases strLt k (rd sEntry l i).1 with
    | true => rw [cond_true, cond_true, one_l1 l k v hb d (i + 1) _ (by omega) (by simp; omega)]; simp
    | false => exact one_l1 l k v hb d (i + 1) acc (by omega) (by omega)
theorem one_l0 (l : List TEntry) (k v : ByteArray) (hb : l.length ≤ 1000) : ∀ (d i : Nat) (acc : List TEntry), i + d = l.length → acc.length ≤ i → V.pleachref22_one.l11010 l (k, v, false) (i : Int) acc = some ((acc ++ (l.drop i).filter fun p => strLt p.1 k) ++ [(k, v)] ++ l.filter fun p => strLt k p.1)
  | 0, i, acc, h, ha => by
    refine V.pleachref22_one.l11010.of _ _ _ _ ?_
    unfold F.pleachref22_one.l11010.B
    rw [if_out (by omega), List.drop_eq_nil_of_le (by omega), List.filter_nil, List.append_nil]
    show guardK (decide (acc.length + 1 ≤ nmax)) (V.pleachref22_one.l1111010 l (k, v, false) 0 (acc ++ [(k, v)])) = _
    rw [guard_dec (by unfold nmax; omega)]
    exact one_l1 l k v hb l.length 0 _ (by omega) (by simp; omega)
  | d + 1, i, acc, h, ha => by
    have hi : i < l.length := by omega
    refine V.pleachref22_one.l11010.of _ _ _ _ ?_
    unfold F.pleachref22_one.l11010.B
    rw [if_in hi, guard_in hi, nat_cast, guard_in hi, w64_up hi (by omega), filt_rd (e := sEntry) l (fun p => strLt p.1 k) hi]
    show (bif strLt (rd sEntry l i).1 k then guardK (decide (acc.length + 1 ≤ nmax)) (V.pleachref22_one.l11010 l (k, v, false) ((i + 1 : Nat) : Int) (acc ++ [rd sEntry l i])) else V.pleachref22_one.l11010 l (k, v, false) ((i + 1 : Nat) : Int) acc) = _
    rw [guard_dec (by unfold nmax; omega)]
    cases strLt (rd sEntry l i).1 k with
    | true => rw [cond_true, cond_true, one_l0 l k v hb d (i + 1) _ (by omega) (by simp; omega)]; simp
    | false => exact one_l0 l k v hb d (i + 1) acc (by omega) (by omega)
theorem with_ok (l : List TEntry) (k v : ByteArray) (hb : l.length ≤ 1000) : V.pleachref31_with l k v = some (insT l k v) := by
  have h1 : V.pleachref22_one l (k, v, false) = some (insT l k v) := by
    refine V.pleachref22_one.of _ _ ?_
    unfold F.pleachref22_one.B
    have := one_l0 l k v hb l.length 0 [] (by omega) (by simp)
    rw [List.drop_zero, List.nil_append] at this
    exact this
  have h2 : V.pleachref22_Merge.l1010 l [(k, v, false)] (insT l k v) 1 = some (insT l k v) := by
    refine V.pleachref22_Merge.l1010.of _ _ _ _ ?_
    unfold F.pleachref22_Merge.l1010.B
    rfl
  have h3 : V.pleachref22_Merge.l1010 l [(k, v, false)] l 0 = some (insT l k v) := by
    refine V.pleachref22_Merge.l1010.of _ _ _ _ ?_
    unfold F.pleachref22_Merge.l1010.B
    show (V.pleachref22_one l (k, v, false)).bind (fun t0 => V.pleachref22_Merge.l1010 l [(k, v, false)] t0 1) = _
    rw [h1, Option.bind_some, h2]
  refine V.pleachref31_with.of _ _ _ ?_
  unfold F.pleachref31_with.B
  rw [V.pleachref22_Merge.of l [(k, v, false)] h3, Option.bind_some]

/-! ### Edit by edit: the row that rises -/

def foldT (acc l : List TEntry) : List TEntry := l.foldl (fun a e => insT a e.1 e.2) acc
theorem foldT_cons (acc : List TEntry) (e : TEntry) (l : List TEntry) : foldT acc (e :: l) = foldT (insT acc e.1 e.2) l := rfl
theorem foldT_snoc (acc l : List TEntry) (e : TEntry) : foldT acc (l ++ [e]) = insT (foldT acc l) e.1 e.2 := by unfold foldT; rw [List.foldl_append]; rfl
abbrev RsE (l : List TEntry) : Prop := l.Pairwise fun a b => ltE a b = true
theorem insT_rs {l : List TEntry} {k v : ByteArray} (h : RsE l) : RsE (insT l k v) := by
  unfold insT RsE
  rw [List.append_assoc, List.pairwise_append]
  refine ⟨h.filter _, ?_, fun a ha b hb => ?_⟩
  · rw [List.singleton_append, List.pairwise_cons]
    refine ⟨fun b hb => ?_, h.filter _⟩
    exact (List.mem_filter.1 hb).2
  · have h1 : strLt a.1 k = true := (List.mem_filter.1 ha).2
    rcases List.mem_append.1 hb with hb | hb
    · rw [List.mem_singleton.1 hb]; exact h1
    · exact lt_trans h1 (List.mem_filter.1 hb).2
theorem insT_perm {l : List TEntry} {k v : ByteArray} (h : ∀ e ∈ l, e.1 ≠ k) : (insT l k v).Perm ((k, v) :: l) := by
  unfold insT
  have e : (l.filter fun p => strLt k p.1) = l.filter fun p => !strLt p.1 k := by
    refine List.filter_congr fun p hp => ?_
    cases hc : strLt p.1 k with
    | true => exact lt_asymm hc
    | false => exact lt_total hc (h p hp)
  rw [e, List.append_assoc]
  refine (List.perm_middle (l₁ := l.filter fun p => strLt p.1 k)).trans ?_
  exact (List.filter_append_perm _ l).cons _
theorem foldT_ok : ∀ (l acc : List TEntry), RsE acc → (l.map fun e => e.1).Nodup → (∀ e ∈ l, ∀ a ∈ acc, a.1 ≠ e.1) → RsE (foldT acc l) ∧ (foldT acc l).Perm (l ++ acc)
  | [], acc, h, _, _ => ⟨h, List.Perm.refl _⟩
  | e :: l, acc, h, hn, hd => by
    rw [List.map_cons, List.nodup_cons] at hn
    have hp : (insT acc e.1 e.2).Perm (e :: acc) := insT_perm fun a ha => hd e (by simp) a ha
    obtain ⟨h1, h2⟩ := foldT_ok l (insT acc e.1 e.2) (insT_rs h) hn.2 fun e' he' a ha => by
      rcases List.mem_cons.1 (hp.subset ha) with rfl | ha
      · intro q; exact hn.1 (List.mem_map.2 ⟨e', he', q.symm⟩)
      · exact hd e' (by simp [he']) a ha
    rw [foldT_cons]
    refine ⟨h1, h2.trans ?_⟩
    exact ((List.Perm.append_left l hp).trans List.perm_middle)
theorem srt_fold {l : List TEntry} (h : l.length < 64) (hn : (l.map fun e => e.1).Nodup) : srtE l = foldT [] l := by
  obtain ⟨h1, h2⟩ := foldT_ok l [] List.Pairwise.nil hn (fun _ _ a ha => by cases ha)
  rw [List.append_nil] at h2
  exact srtE_is h h2.symm h1
/-! ### Keys of edges at their nodes -/

theorem zero_parts : ∀ {a c b d : List UInt8}, (∀ u ∈ a, u ≠ 0) → (∀ u ∈ c, u ≠ 0) → a ++ 0 :: b = c ++ 0 :: d → b = d
  | [], [], b, d, _, _, h => by simpa using h
  | [], y :: c, b, d, _, h2, h => by simp at h; exact absurd h.1.symm (h2 y (by simp))
  | x :: a, [], b, d, h1, _, h => by simp at h; exact absurd h.1 (h1 x (by simp))
  | x :: a, y :: c, b, d, h1, h2, h => by
    simp at h
    exact zero_parts (fun u hu => h1 u (by simp [hu])) (fun u hu => h2 u (by simp [hu])) h.2
theorem okFrom_at (s : ByteArray) : ∀ d i, okFrom s d i = true → ∀ k, i ≤ k → k < i + d → okc (byteAt s (k : Int)) = true
  | 0, i, _, k, h1, h2 => by omega
  | d + 1, i, h, k, h1, h2 => by
    unfold okFrom at h
    rw [Bool.and_eq_true] at h
    rcases Nat.lt_or_ge i k with g | g
    · exact okFrom_at s d (i + 1) h.2 k (by omega) (by omega)
    · have : k = i := by omega
      subst this; exact h.1
theorem name_nz {s : ByteArray} (h : nameB s = true) : ∀ u ∈ s.data.toList, u ≠ 0 := by
  intro u hu
  obtain ⟨i, hi, rfl⟩ := List.getElem_of_mem hu
  have hi' : i < s.size := by simpa using hi
  unfold nameB at h
  rw [Bool.and_eq_true] at h
  have := okFrom_at s s.size 0 h.2 i (by omega) (by omega)
  rw [bt_data s i hi'] at this
  intro e
  rw [e] at this
  exact absurd this (by decide)
theorem key_inj {a b c d : ByteArray} (ha : nameB a = true) (hc : nameB c = true) (h : a ++ zB ++ b = c ++ zB ++ d) : b = d := by
  have h2 := congrArg (fun s : ByteArray => s.data.toList) h
  simp only [ByteArray.data_append, Array.toList_append, List.append_assoc] at h2
  have h3 := zero_parts (name_nz ha) (name_nz hc) (show a.data.toList ++ 0 :: b.data.toList = c.data.toList ++ 0 :: d.data.toList from h2)
  exact ByteArray.ext (Array.toList_inj.1 h3)

end Go.Proofs.Ytdblhdpnllckhaa.AE
end
section
set_option linter.unusedVariables false
set_option linter.unusedSimpArgs false
set_option maxRecDepth 20000
namespace Go.Proofs.Ytdblhdpnllckhaa.AE
open Go

theorem two_filters {α : Type} (p q : α → Bool) (h : ∀ a, p a = true → q a = false) : ∀ l : List α, (l.filter p).length + (l.filter q).length ≤ l.length
  | [] => by simp
  | a :: l => by
    have ih := two_filters p q h l
    rw [List.filter_cons, List.filter_cons, List.length_cons]
    cases hp : p a with
    | true => rw [h a hp, if_pos rfl, if_neg Bool.false_ne_true, List.length_cons]; omega
    | false =>
      rw [if_neg Bool.false_ne_true]
      split
      · rw [List.length_cons]; omega
      · omega
theorem insT_up (l : List TEntry) (k v : ByteArray) : (insT l k v).length ≤ l.length + 1 := by
  have := two_filters (fun p : TEntry => strLt p.1 k) (fun p : TEntry => strLt k p.1) (fun a h => lt_asymm h) l
  unfold insT
  rw [List.length_append, List.length_append, List.length_singleton]
  omega
theorem fold_bound : ∀ (l acc : List TEntry), (foldT acc l).length ≤ acc.length + l.length
  | [], acc => by show acc.length ≤ _; omega
  | e :: l, acc => by
    have h1 := insT_up acc e.1 e.2
    have h2 := fold_bound l (insT acc e.1 e.2)
    rw [foldT_cons, List.length_cons]
    omega
theorem refLay_l1 (g : TGraph) (hok : okGraph g) (hes : g.2.length < 64) (x0 : List TEntry) : ∀ (d i : Nat), i + d = g.2.length → errE (g.2.take i) = 0 →
    V.pleachref31_Lay.l111010 g x0 (foldT [] (entE (g.2.take i))) (foldT [] (entO (g.2.take i))) (foldT [] (entI (g.2.take i))) (i : Int) = some (if errE (g.2.drop i) = 0 then (x0, foldT [] (entE g.2), foldT [] (entO g.2), foldT [] (entI g.2), 0) else ([], [], [], [], errE (g.2.drop i)))
  | 0, i, h, _ => by
    refine V.pleachref31_Lay.l111010.of _ _ _ _ _ _ ?_
    unfold F.pleachref31_Lay.l111010.B
    rw [if_out (by omega), List.drop_eq_nil_of_le (by omega), List.take_of_length_le (by omega)]
    rfl
  | d + 1, i, h, hz => by
    have hi : i < g.2.length := by omega
    have hm := hok.e _ (rd_mem (e := sEdge) hi)
    have l1 : (g.2.take i).length ≤ 63 := by rw [List.length_take]; omega
    have b1 := fold_bound (entE (g.2.take i)) []
    have b2 := fold_bound (entO (g.2.take i)) []
    have b3 := fold_bound (entI (g.2.take i)) []
    have e1 : (entE (g.2.take i)).length = (g.2.take i).length := List.length_map _
    have e2 : (entO (g.2.take i)).length = (g.2.take i).length := List.length_map _
    have e3 : (entI (g.2.take i)).length = (g.2.take i).length := List.length_map _
    rw [List.length_nil] at b1 b2 b3
    refine V.pleachref31_Lay.l111010.of _ _ _ _ _ _ ?_
    unfold F.pleachref31_Lay.l111010.B
    rw [if_in hi, guard_in hi, nat_cast, w64_up hi (by omega)]
    show (V.pleachref25_Edge (rd sEdge g.2 i)).bind _ = _
    rw [refEdge_ok _ hm, Option.bind_some, drop_rd (e := sEdge) hi, errE]
    by_cases h0 : edgeN (rd sEdge g.2 i) = 0
    · have ih := refLay_l1 g hok hes x0 d (i + 1) (by omega) (by
        rw [errE_zero]
        intro n hn
        rw [take_rd (e := sEdge) hi, List.mem_append] at hn
        rcases hn with hn | hn
        · exact errE_zero.1 hz n hn
        · rw [List.mem_singleton.1 hn]; exact h0)
      obtain ⟨n1, n2, n3, _⟩ := edgeN_rest h0
      have s1 := (nameB_size n1).2
      have s2 := (nameB_size n2).2
      have s3 := (nameB_size n3).2
      have z1 : zB.size = 1 := rfl
      rw [show (edgeN (rd sEdge g.2 i) != 0) = false by rw [h0]; rfl, cond_false, if_pos h0, ← ih]
      show (V.pleachref25_PutEdge (rd sEdge g.2 i)).bind _ = _
      rw [refPutEdge_ok _ hm, Option.bind_some, with_ok _ _ _ (by omega), Option.bind_some]
      show guardK (decide ((rd sEdge g.2 i).2.1.size + zB.size ≤ i64max)) (guardK (decide (((rd sEdge g.2 i).2.1 ++ zB).size + (rd sEdge g.2 i).1.size ≤ i64max)) ((V.pleachref31_with _ (((rd sEdge g.2 i).2.1 ++ zB) ++ (rd sEdge g.2 i).1) (rd sEdge g.2 i).2.2.1).bind fun t6 => (guardK (decide ((rd sEdge g.2 i).2.2.1.size + zB.size ≤ i64max)) (guardK (decide (((rd sEdge g.2 i).2.2.1 ++ zB).size + (rd sEdge g.2 i).1.size ≤ i64max)) ((V.pleachref31_with _ (((rd sEdge g.2 i).2.2.1 ++ zB) ++ (rd sEdge g.2 i).1) (rd sEdge g.2 i).2.1).bind fun t7 => _))))) = _
      rw [guard_dec (by unfold i64max; omega), guard_dec (by unfold i64max; rw [ByteArray.size_append]; omega), with_ok _ _ _ (by omega), Option.bind_some, guard_dec (by unfold i64max; omega), guard_dec (by unfold i64max; rw [ByteArray.size_append]; omega), with_ok _ _ _ (by omega), Option.bind_some, take_rd (e := sEdge) hi]
      unfold entE entO entI
      rw [List.map_append, List.map_append, List.map_append, List.map_singleton, List.map_singleton, List.map_singleton, foldT_snoc, foldT_snoc, foldT_snoc]
    · rw [bne_ne h0, cond_true, if_neg h0, if_neg h0]
theorem refLay_l0 (g : TGraph) (hok : okGraph g) (hns : g.1.length < 64) (hes : g.2.length < 64) : ∀ (d i : Nat), i + d = g.1.length →
    V.pleachref31_Lay.l11010 g (foldT [] (entN (g.1.take i))) (i : Int) = some (if errN (g.1.drop i) = 0 then (if errE g.2 = 0 then (foldT [] (entN g.1), foldT [] (entE g.2), foldT [] (entO g.2), foldT [] (entI g.2), 0) else ([], [], [], [], errE g.2)) else ([], [], [], [], errN (g.1.drop i)))
  | 0, i, h => by
    refine V.pleachref31_Lay.l11010.of _ _ _ ?_
    unfold F.pleachref31_Lay.l11010.B
    have := refLay_l1 g hok hes (foldT [] (entN g.1)) g.2.length 0 (by omega) rfl
    rw [List.drop_zero] at this
    rw [if_out (by omega), List.drop_eq_nil_of_le (by omega), List.take_of_length_le (by omega)]
    exact this
  | d + 1, i, h => by
    have hi : i < g.1.length := by omega
    have hm := hok.n _ (rd_mem (e := sNode) hi)
    have l1 : (g.1.take i).length ≤ 63 := by rw [List.length_take]; omega
    have b1 := fold_bound (entN (g.1.take i)) []
    have e1 : (entN (g.1.take i)).length = (g.1.take i).length := List.length_map _
    rw [List.length_nil] at b1
    have ih := refLay_l0 g hok hns hes d (i + 1) (by omega)
    refine V.pleachref31_Lay.l11010.of _ _ _ ?_
    unfold F.pleachref31_Lay.l11010.B
    rw [if_in hi, guard_in hi, nat_cast, w64_up hi (by omega)]
    show (V.pleachref25_Node (rd sNode g.1 i)).bind _ = _
    rw [refNode_ok _ hm, Option.bind_some, drop_rd (e := sNode) hi, errN]
    by_cases h0 : nodeN (rd sNode g.1 i) = 0
    · rw [show (nodeN (rd sNode g.1 i) != 0) = false by rw [h0]; rfl, cond_false, if_pos h0, ← ih]
      show (V.pleachref25_PutNode (rd sNode g.1 i)).bind _ = _
      rw [refPutNode_ok _ hm, Option.bind_some, with_ok _ _ _ (by omega), Option.bind_some, take_rd (e := sNode) hi]
      unfold entN
      rw [List.map_append, List.map_singleton, foldT_snoc]
    · rw [bne_ne h0, cond_true, if_neg h0, if_neg h0]
theorem refLay_ok (g : TGraph) (hok : okGraph g) (hns : g.1.length < 64) (hes : g.2.length < 64) : V.pleachref31_Lay g = some (if errN g.1 = 0 then (if errE g.2 = 0 then (foldT [] (entN g.1), foldT [] (entE g.2), foldT [] (entO g.2), foldT [] (entI g.2), 0) else ([], [], [], [], errE g.2)) else ([], [], [], [], errN g.1)) := by
  refine V.pleachref31_Lay.of _ ?_
  unfold F.pleachref31_Lay.B
  have := refLay_l0 g hok hns hes g.1.length 0 (by omega)
  rw [List.drop_zero, List.take_zero] at this
  exact this
theorem Same20_l (l : List TEntry) (hl : l.length ≤ 140737488351232) : ∀ d i : Nat, i + d = l.length → V.pleachref20_Same.l11010 l l (i : Int) = some true
  | 0, i, h => by
    refine V.pleachref20_Same.l11010.of _ _ _ ?_
    unfold F.pleachref20_Same.l11010.B
    rw [if_out (by omega)]
  | d + 1, i, h => by
    have hi : i < l.length := by omega
    refine V.pleachref20_Same.l11010.of _ _ _ ?_
    unfold F.pleachref20_Same.l11010.B
    rw [if_in hi, guard_in hi, guard_in hi, nat_cast, w64_up hi hl, Same20_l l hl d (i + 1) (by omega), strEq_self, strEq_self]
    rfl
theorem Same20_ok (l : List TEntry) (hl : l.length ≤ 140737488351232) : V.pleachref20_Same l l = some true := by
  refine V.pleachref20_Same.of _ _ ?_
  unfold F.pleachref20_Same.B
  rw [show ((l.length : Int) != (l.length : Int)) = false by simp, cond_false]
  exact Same20_l l hl l.length 0 (by omega)

/-! ### No Id twice -/

theorem once_e1 (g : TGraph) (hl : g.2.length ≤ 1000) (i : Nat) (hi : i < g.2.length) (b0 : Bool) (h0 : V.pleachref31_Once.l11010 g ((i + 1 : Nat) : Int) = some b0) : ∀ (d k : Nat), k + d = i → ∃ b, V.pleachref31_Once.l1101001100110 g (i : Int) (k : Int) (i : Int) = some b ∧ (b = true → b0 = true ∧ ∀ j, k ≤ j → j < i → (rd sEdge g.2 i).1 ≠ (rd sEdge g.2 j).1)
  | 0, k, h => by
    refine ⟨b0, ?_, fun hb => ⟨hb, fun j h1 h2 => by omega⟩⟩
    refine V.pleachref31_Once.l1101001100110.of _ _ _ _ ?_
    unfold F.pleachref31_Once.l1101001100110.B
    rw [if_no (by omega), w64_up hi (by omega)]
    exact h0
  | d + 1, k, h => by
    have hk : k < g.2.length := by omega
    cases hc : strEq (rd sEdge g.2 i).1 (rd sEdge g.2 k).1 with
    | true =>
      refine ⟨false, ?_, fun hb => by cases hb⟩
      refine V.pleachref31_Once.l1101001100110.of _ _ _ _ ?_
      unfold F.pleachref31_Once.l1101001100110.B
      rw [if_yes (by omega), guard_in hi, guard_in hk, nat_cast, nat_cast, hc]
      rfl
    | false =>
      obtain ⟨b, h1, h2⟩ := once_e1 g hl i hi b0 h0 d (k + 1) (by omega)
      refine ⟨b, ?_, fun hb => ⟨(h2 hb).1, fun j j1 j2 => ?_⟩⟩
      · refine V.pleachref31_Once.l1101001100110.of _ _ _ _ ?_
        unfold F.pleachref31_Once.l1101001100110.B
        rw [if_yes (by omega), guard_in hi, guard_in hk, nat_cast, nat_cast, hc, cond_false, w64_up hk (by omega)]
        exact h1
      · rcases Nat.lt_or_ge k j with g1 | g1
        · exact (h2 hb).2 j (by omega) j2
        · have : j = k := by omega
          subst this
          intro e
          rw [e, strEq_self] at hc; cases hc
theorem once_e0 (g : TGraph) (hl : g.2.length ≤ 1000) : ∀ (d i : Nat), i + d = g.2.length → ∃ b, V.pleachref31_Once.l11010 g (i : Int) = some b ∧ (b = true → ∀ x j, i ≤ x → x < g.2.length → j < x → (rd sEdge g.2 x).1 ≠ (rd sEdge g.2 j).1)
  | 0, i, h => by
    refine ⟨true, ?_, fun _ x j h1 h2 => by omega⟩
    refine V.pleachref31_Once.l11010.of _ _ ?_
    unfold F.pleachref31_Once.l11010.B
    rw [if_out (by omega)]
  | d + 1, i, h => by
    have hi : i < g.2.length := by omega
    obtain ⟨b0, h1, h2⟩ := once_e0 g hl d (i + 1) (by omega)
    obtain ⟨b, g1, g2⟩ := once_e1 g hl i hi b0 h1 i 0 (by omega)
    refine ⟨b, ?_, fun hb x j j1 j2 j3 => ?_⟩
    · refine V.pleachref31_Once.l11010.of _ _ ?_
      unfold F.pleachref31_Once.l11010.B
      rw [if_in hi]
      exact g1
    · rcases Nat.lt_or_ge i x with q | q
      · exact h2 (g2 hb).1 x j (by omega) j2 j3
      · have : x = i := by omega
        subst this
        exact (g2 hb).2 j (by omega) j3
theorem once_n1 (g : TGraph) (hl : g.1.length ≤ 1000) (i : Nat) (hi : i < g.1.length) (b0 : Bool) (h0 : V.pleachref31_Once.l1010 g ((i + 1 : Nat) : Int) = some b0) : ∀ (d k : Nat), k + d = i → ∃ b, V.pleachref31_Once.l101001100110 g (i : Int) (k : Int) (i : Int) = some b ∧ (b = true → b0 = true ∧ ∀ j, k ≤ j → j < i → (rd sNode g.1 i).1 ≠ (rd sNode g.1 j).1)
  | 0, k, h => by
    refine ⟨b0, ?_, fun hb => ⟨hb, fun j h1 h2 => by omega⟩⟩
    refine V.pleachref31_Once.l101001100110.of _ _ _ _ ?_
    unfold F.pleachref31_Once.l101001100110.B
    rw [if_no (by omega), w64_up hi (by omega)]
    exact h0
  | d + 1, k, h => by
    have hk : k < g.1.length := by omega
    cases hc : strEq (rd sNode g.1 i).1 (rd sNode g.1 k).1 with
    | true =>
      refine ⟨false, ?_, fun hb => by cases hb⟩
      refine V.pleachref31_Once.l101001100110.of _ _ _ _ ?_
      unfold F.pleachref31_Once.l101001100110.B
      rw [if_yes (by omega), guard_in hi, guard_in hk, nat_cast, nat_cast, hc]
      rfl
    | false =>
      obtain ⟨b, h1, h2⟩ := once_n1 g hl i hi b0 h0 d (k + 1) (by omega)
      refine ⟨b, ?_, fun hb => ⟨(h2 hb).1, fun j j1 j2 => ?_⟩⟩
      · refine V.pleachref31_Once.l101001100110.of _ _ _ _ ?_
        unfold F.pleachref31_Once.l101001100110.B
        rw [if_yes (by omega), guard_in hi, guard_in hk, nat_cast, nat_cast, hc, cond_false, w64_up hk (by omega)]
        exact h1
      · rcases Nat.lt_or_ge k j with g1 | g1
        · exact (h2 hb).2 j (by omega) j2
        · have : j = k := by omega
          subst this
          intro e
          rw [e, strEq_self] at hc; cases hc
theorem once_n0 (g : TGraph) (hl : g.1.length ≤ 1000) (b1 : Bool) (hb1 : V.pleachref31_Once.l11010 g 0 = some b1) : ∀ (d i : Nat), i + d = g.1.length → ∃ b, V.pleachref31_Once.l1010 g (i : Int) = some b ∧ (b = true → b1 = true ∧ ∀ x j, i ≤ x → x < g.1.length → j < x → (rd sNode g.1 x).1 ≠ (rd sNode g.1 j).1)
  | 0, i, h => by
    refine ⟨b1, ?_, fun hb => ⟨hb, fun x j h1 h2 => by omega⟩⟩
    refine V.pleachref31_Once.l1010.of _ _ ?_
    unfold F.pleachref31_Once.l1010.B
    rw [if_out (by omega)]
    exact hb1
  | d + 1, i, h => by
    have hi : i < g.1.length := by omega
    obtain ⟨b0, h1, h2⟩ := once_n0 g hl b1 hb1 d (i + 1) (by omega)
    obtain ⟨b, g1, g2⟩ := once_n1 g hl i hi b0 h1 i 0 (by omega)
    refine ⟨b, ?_, fun hb => ⟨(h2 (g2 hb).1).1, fun x j j1 j2 j3 => ?_⟩⟩
    · refine V.pleachref31_Once.l1010.of _ _ ?_
      unfold F.pleachref31_Once.l1010.B
      rw [if_in hi]
      exact g1
    · rcases Nat.lt_or_ge i x with q | q
      · exact (h2 (g2 hb).1).2 x j (by omega) j2 j3
      · have : x = i := by omega
        subst this
        exact (g2 hb).2 j (by omega) j3
theorem nd_of {α : Type} {key : α → ByteArray} {l : List α} (h : ∀ x j (hx : x < l.length) (hj : j < x), key l[x] ≠ key (l[j]'(by omega))) : l.Pairwise fun a b => key a ≠ key b := by
  rw [List.pairwise_iff_getElem]
  intro i j hi hj hij e
  exact h j i hj hij e.symm
theorem Once_ok (g : TGraph) (h1 : g.1.length ≤ 1000) (h2 : g.2.length ≤ 1000) : ∃ b, V.pleachref31_Once g = some b ∧ (b = true → (g.1.Pairwise fun a b => a.1 ≠ b.1) ∧ g.2.Pairwise fun a b => a.1 ≠ b.1) := by
  obtain ⟨b1, e1, e2⟩ := once_e0 g h2 g.2.length 0 (by omega)
  obtain ⟨b, n1, n2⟩ := once_n0 g h1 b1 e1 g.1.length 0 (by omega)
  refine ⟨b, ?_, fun hb => ⟨nd_of (key := fun a : TNode => a.1) fun x j hx hj => ?_, nd_of (key := fun a : TEdge => a.1) fun x j hx hj => ?_⟩⟩
  · refine V.pleachref31_Once.of _ ?_
    unfold F.pleachref31_Once.B
    exact n1
  · have := (n2 hb).2 x j (by omega) hx hj
    rw [rd_get (e := sNode) hx, rd_get (e := sNode) (by omega : j < g.1.length)] at this
    exact this
  · have := e2 (n2 hb).1 x j (by omega) hx hj
    rw [rd_get (e := sEdge) hx, rd_get (e := sEdge) (by omega : j < g.2.length)] at this
    exact this

end Go.Proofs.Ytdblhdpnllckhaa.AE
end
section
set_option linter.unusedVariables false
set_option linter.unusedSimpArgs false
set_option maxRecDepth 20000
namespace Go.Proofs.Ytdblhdpnllckhaa.AE
open Go

theorem nd_map {α : Type} {R : α → α → Prop} {key : α → TEntry} {l : List α} (h : l.Pairwise R) (hk : ∀ a ∈ l, ∀ b ∈ l, R a b → (key a).1 ≠ (key b).1) : ((l.map key).map fun e => e.1).Nodup := by
  rw [List.map_map, List.Nodup, List.pairwise_map]
  exact h.imp_of_mem fun ha hb hr => hk _ ha _ hb hr
set_option maxHeartbeats 1000000 in
theorem KeysLay_pure (g : TGraph) (hok : okGraph g) : V.pleachlaw31_KeysLay g = some true := by
  obtain ⟨p, h1, h2⟩ := Few_ok g
  refine V.pleachlaw31_KeysLay.of _ ?_
  unfold F.pleachlaw31_KeysLay.B
  rw [show ((g.1, g.2) : TGraph) = g from rfl, h1, Option.bind_some, awake31_ok]
  cases p with
  | false => rfl
  | true =>
    have sl := h2 rfl
    have ns := sl.ns
    have es := sl.es
    obtain ⟨q, o1, o2⟩ := Once_ok g (by omega) (by omega)
    rw [Bool.not_true, cond_false, o1, Option.bind_some]
    cases q with
    | false => rfl
    | true =>
      obtain ⟨dn, de⟩ := o2 rfl
      rw [Bool.not_true, cond_false, Lay_ok g (by omega) (by omega) hok, Option.bind_some, refLay_ok g hok (by omega) (by omega), Option.bind_some]
      have sN : V.pleachref20_Same [] [] = some true := Same20_ok [] (by simp)
      by_cases hn : errN g.1 = 0
      · rw [if_pos hn, if_pos hn]
        by_cases he : errE g.2 = 0
        · rw [if_pos he, if_pos he]
          have he' := errE_zero.1 he
          obtain ⟨n1, n2, n3, n4⟩ : (entN g.1).length < 64 ∧ (entE g.2).length < 64 ∧ (entO g.2).length < 64 ∧ (entI g.2).length < 64 := by
            unfold entN entE entO entI
            rw [List.length_map, List.length_map, List.length_map, List.length_map]
            omega
          have f1 := srt_fold n1 (nd_map dn fun a _ b _ h => h)
          have f2 := srt_fold n2 (nd_map de fun a _ b _ h => h)
          have f3 := srt_fold n3 (nd_map de fun a ha b hb h e => h (key_inj (edgeN_rest (he' a ha)).2.1 (edgeN_rest (he' b hb)).2.1 e))
          have f4 := srt_fold n4 (nd_map de fun a ha b hb h e => h (key_inj (edgeN_rest (he' a ha)).2.2.1 (edgeN_rest (he' b hb)).2.2.1 e))
          have b1 := fold_bound (entN g.1) []
          have b2 := fold_bound (entE g.2) []
          have b3 := fold_bound (entO g.2) []
          have b4 := fold_bound (entI g.2) []
          rw [List.length_nil] at b1 b2 b3 b4
          rw [f1, f2, f3, f4]
          dsimp only
          rw [Same20_ok _ (by omega), Same20_ok _ (by omega), Same20_ok _ (by omega), Same20_ok _ (by omega), Nodes_ok g.1 (by omega) hok.n, if_pos hn, Edges_ok g.2 (by omega) hok.e, if_pos he, kOut_ok g.2 (by omega) he', kIn_ok g.2 (by omega) he', f1, f2, f3, f4]
          simp only [Option.bind_some]
          rw [Same20_ok _ (by omega), Same20_ok _ (by omega), Same20_ok _ (by omega), Same20_ok _ (by omega)]
          rfl
        · rw [if_neg he, if_neg he]
          dsimp only
          rw [sN]
          simp only [Option.bind_some, Bool.not_true, cond_false]
          rw [bne_ne he, cond_true, bne_self_eq_false, cond_false]
      · rw [if_neg hn, if_neg hn]
        dsimp only
        rw [sN]
        simp only [Option.bind_some, Bool.not_true, cond_false]
        rw [bne_ne hn, cond_true, bne_self_eq_false, cond_false]

end Go.Proofs.Ytdblhdpnllckhaa.AE
end
section
namespace Go.Proofs.Ytdblhdpnllckhaa.AE
open Go Go.ChangeShapes Go.WideShapes Go.ChangeAt Go.RowKit
theorem weights_each {H : Type} {P : Program} {p : Nat → Bool} {ts : List TypeId} {ds : List (DataW H)} (h : (DataW.weightsEach P ts ds).all p = true) {j : Nat} {t : TypeId} {d : DataW H} (ht : ts[j]? = some t) (hd : ds[j]? = some d) : ∀ n ∈ d.weights P t, p n = true :=
  fun n hn => List.all_eq_true.1 h _ (DataW.weights_mem_each ht hd n hn)
theorem own : ownKnob Try.prog.godebug = none := by kernel_rfl
theorem laidOut : laidOutB Try.prog = true := by kernel_rfl
theorem mix : Try.prog.follows .mixedOrders = true := by kernel_rfl
theorem numGoB : (Try.prog.funcs.all fun fn => !(fn.name == "runtime.NumGoroutine")) = true := by kernel_rfl
theorem num (f : FuncId) (fn : Func) (h : Try.prog.funcs[f]? = some fn) : (fn.name == "runtime.NumGoroutine") = false := by
  have := Array.all_eq_true_iff_forall_mem.1 numGoB fn (Array.mem_of_getElem? h)
  simpa using this
def rho167 : Go.Shelf.Ren := ⟨fun i => match i with | 29 => 200 | _ => 201, fun i => match i with | 24 => 23 | 9 => 95 | 3 => 3 | 4 => 4 | _ => 0, fun x => x⟩
theorem ins167 : InsOk Try.prog rho167 167 "slices.Insert[[]pleach/api.Edge,pleach/api.Edge]" Try.f200 sEdge := by
  refine ⟨⟨mix, Try.func167.trans (congrArg some (by kernel_rfl)), Try.func200, by kernel_rfl, by kernel_rfl, by kernel_rfl, by kernel_rfl, by kernel_rfl, by kernel_rfl, by kernel_rfl, by kernel_rfl, by kernel_rfl, by decide⟩, by kernel_rfl, by kernel_rfl, by kernel_rfl, by kernel_rfl, by decide⟩
def rho166 : Go.Shelf.Ren := ⟨fun i => match i with | 29 => 198 | _ => 199, fun i => match i with | 24 => 22 | 9 => 63 | 3 => 3 | 4 => 4 | _ => 0, fun x => x⟩
theorem ins166 : InsOk Try.prog rho166 166 "slices.Insert[[]pleach/api.Node,pleach/api.Node]" Try.f198 sNode := by
  refine ⟨⟨mix, Try.func166.trans (congrArg some (by kernel_rfl)), Try.func198, by kernel_rfl, by kernel_rfl, by kernel_rfl, by kernel_rfl, by kernel_rfl, by kernel_rfl, by kernel_rfl, by kernel_rfl, by kernel_rfl, by decide⟩, by kernel_rfl, by kernel_rfl, by kernel_rfl, by kernel_rfl, by decide⟩
def rho162 : Go.Shelf.Ren := ⟨fun i => match i with | 29 => 194 | _ => 195, fun i => match i with | 24 => 60 | 9 => 9 | 3 => 3 | 4 => 4 | _ => 0, fun x => x⟩
theorem ins162 : InsOk Try.prog rho162 162 "slices.Insert[[]string,string]" Try.f194 .str := by
  refine ⟨⟨mix, Try.func162.trans (congrArg some (by kernel_rfl)), Try.func194, by kernel_rfl, by kernel_rfl, by kernel_rfl, by kernel_rfl, by kernel_rfl, by kernel_rfl, by kernel_rfl, by kernel_rfl, by kernel_rfl, by decide⟩, by kernel_rfl, by kernel_rfl, by kernel_rfl, by kernel_rfl, by decide⟩
def rho123 : Go.Shelf.Ren := ⟨fun i => match i with | 29 => 159 | _ => 160, fun i => match i with | 24 => 61 | 9 => 99 | 3 => 3 | 4 => 4 | _ => 0, fun x => x⟩
theorem ins123 : InsOk Try.prog rho123 123 "slices.Insert[[]pleach/api.Prop,pleach/api.Prop]" Try.f159 sProp := by
  refine ⟨⟨mix, Try.func123.trans (congrArg some (by kernel_rfl)), Try.func159, by kernel_rfl, by kernel_rfl, by kernel_rfl, by kernel_rfl, by kernel_rfl, by kernel_rfl, by kernel_rfl, by kernel_rfl, by kernel_rfl, by decide⟩, by kernel_rfl, by kernel_rfl, by kernel_rfl, by kernel_rfl, by decide⟩
theorem extok : ExtOk Try.prog sg := .of (show extAll Try.prog sgT from
  ⟨.nothing rfl rfl,
  ⟨.nothing rfl rfl,
  ⟨.nothing rfl rfl,
  ⟨.nothing rfl rfl,
  ⟨.nothing rfl rfl,
  ⟨.nothing rfl rfl,
  ⟨.nothing rfl rfl,
  ⟨.nothing rfl rfl,
  ⟨.nothing rfl rfl,
  ⟨.nothing rfl rfl,
  ⟨.nothing rfl rfl,
  ⟨.nothing rfl rfl,
  ⟨.nothing rfl rfl,
  ⟨.nothing rfl rfl,
  ⟨.nothing rfl rfl,
  ⟨.nothing rfl rfl,
  ⟨.nothing rfl rfl,
  ⟨.nothing rfl rfl,
  ⟨.nothing rfl rfl,
  ⟨.nothing rfl rfl,
  ⟨.nothing rfl rfl,
  ⟨.nothing rfl rfl,
  ⟨.nothing rfl rfl,
  ⟨.nothing rfl rfl,
  ⟨.nothing rfl rfl,
  ⟨.nothing rfl rfl,
  ⟨.nothing rfl rfl,
  ⟨.nothing rfl rfl,
  ⟨.nothing rfl rfl,
  ⟨.nothing rfl rfl,
  ⟨.nothing rfl rfl,
  ⟨.nothing rfl rfl,
  ⟨.nothing rfl rfl,
  ⟨.nothing rfl rfl,
  ⟨.nothing rfl rfl,
  ⟨.nothing rfl rfl,
  ⟨.nothing rfl rfl,
  ⟨.nothing rfl rfl,
  ⟨.nothing rfl rfl,
  ⟨.nothing rfl rfl,
  ⟨.nothing rfl rfl,
  ⟨.nothing rfl rfl,
  ⟨.nothing rfl rfl,
  ⟨.nothing rfl rfl,
  ⟨.nothing rfl rfl,
  ⟨.nothing rfl rfl,
  ⟨.nothing rfl rfl,
  ⟨.nothing rfl rfl,
  ⟨.nothing rfl rfl,
  ⟨.nothing rfl rfl,
  ⟨.nothing rfl rfl,
  ⟨.nothing rfl rfl,
  ⟨.nothing rfl rfl,
  ⟨.nothing rfl rfl,
  ⟨.nothing rfl rfl,
  ⟨.nothing rfl rfl,
  ⟨.nothing rfl rfl,
  ⟨.nothing rfl rfl,
  ⟨.nothing rfl rfl,
  ⟨.nothing rfl rfl,
  ⟨.nothing rfl rfl,
  ⟨.nothing rfl rfl,
  ⟨.nothing rfl rfl,
  ⟨.nothing rfl rfl,
  ⟨.nothing rfl rfl,
  ⟨.nothing rfl rfl,
  ⟨.nothing rfl rfl,
  ⟨.nothing rfl rfl,
  ⟨.nothing rfl rfl,
  ⟨.nothing rfl rfl,
  ⟨.nothing rfl rfl,
  ⟨.nothing rfl rfl,
  ⟨.nothing rfl rfl,
  ⟨.nothing rfl rfl,
  ⟨.nothing rfl rfl,
  ⟨.nothing rfl rfl,
  ⟨.nothing rfl rfl,
  ⟨.nothing rfl rfl,
  ⟨.nothing rfl rfl,
  ⟨.nothing rfl rfl,
  ⟨.nothing rfl rfl,
  ⟨.nothing rfl rfl,
  ⟨.nothing rfl rfl,
  ⟨.nothing rfl rfl,
  ⟨.nothing rfl rfl,
  ⟨.nothing rfl rfl,
  ⟨.nothing rfl rfl,
  ⟨.nothing rfl rfl,
  ⟨.nothing rfl rfl,
  ⟨.nothing rfl rfl,
  ⟨.nothing rfl rfl,
  ⟨.nothing rfl rfl,
  ⟨.nothing rfl rfl,
  ⟨.nothing rfl rfl,
  ⟨.nothing rfl rfl,
  ⟨.nothing rfl rfl,
  ⟨.nothing rfl rfl,
  ⟨.nothing rfl rfl,
  ⟨.nothing rfl rfl,
  ⟨.nothing rfl rfl,
  ⟨.nothing rfl rfl,
  ⟨.nothing rfl rfl,
  ⟨.nothing rfl rfl,
  ⟨.nothing rfl rfl,
  ⟨.nothing rfl rfl,
  ⟨.nothing rfl rfl,
  ⟨.nothing rfl rfl,
  ⟨.nothing rfl rfl,
  ⟨.nothing rfl rfl,
  ⟨.nothing rfl rfl,
  ⟨.nothing rfl rfl,
  ⟨.nothing rfl rfl,
  ⟨.nothing rfl rfl,
  ⟨.nothing rfl rfl,
  ⟨.nothing rfl rfl,
  ⟨.nothing rfl rfl,
  ⟨.nothing rfl rfl,
  ⟨(ins_ext ins123),
  ⟨.nothing rfl rfl,
  ⟨.nothing rfl rfl,
  ⟨.nothing rfl rfl,
  ⟨.nothing rfl rfl,
  ⟨.nothing rfl rfl,
  ⟨.nothing rfl rfl,
  ⟨.nothing rfl rfl,
  ⟨.nothing rfl rfl,
  ⟨.nothing rfl rfl,
  ⟨.nothing rfl rfl,
  ⟨.nothing rfl rfl,
  ⟨.nothing rfl rfl,
  ⟨.nothing rfl rfl,
  ⟨.nothing rfl rfl,
  ⟨.nothing rfl rfl,
  ⟨.nothing rfl rfl,
  ⟨.nothing rfl rfl,
  ⟨.nothing rfl rfl,
  ⟨.nothing rfl rfl,
  ⟨.nothing rfl rfl,
  ⟨.nothing rfl rfl,
  ⟨.nothing rfl rfl,
  ⟨.nothing rfl rfl,
  ⟨.nothing rfl rfl,
  ⟨.nothing rfl rfl,
  ⟨.nothing rfl rfl,
  ⟨.nothing rfl rfl,
  ⟨.nothing rfl rfl,
  ⟨.ofOp rfl rfl (opCompare_ok Try.func153 (by kernel_rfl) (by kernel_rfl) (by kernel_rfl) (by kernel_rfl)),
  ⟨.nothing rfl rfl,
  ⟨.nothing rfl rfl,
  ⟨.nothing rfl rfl,
  ⟨.nothing rfl rfl,
  ⟨.nothing rfl rfl,
  ⟨.nothing rfl rfl,
  ⟨(ins_ext ins162),
  ⟨.nothing rfl rfl,
  ⟨.nothing rfl rfl,
  ⟨.nothing rfl rfl,
  ⟨(ins_ext ins166),
  ⟨(ins_ext ins167),
  ⟨.nothing rfl rfl,
  ⟨.nothing rfl rfl,
  ⟨.nothing rfl rfl,
  ⟨.nothing rfl rfl,
  ⟨.nothing rfl rfl,
  ⟨.nothing rfl rfl,
  ⟨.nothing rfl rfl,
  ⟨.nothing rfl rfl,
  ⟨.nothing rfl rfl,
  ⟨.nothing rfl rfl,
  ⟨.nothing rfl rfl,
  ⟨.nothing rfl rfl,
  ⟨.nothing rfl rfl,
  ⟨.nothing rfl rfl,
  ⟨.nothing rfl rfl,
  ⟨.nothing rfl rfl,
  ⟨.nothing rfl rfl,
  ⟨.nothing rfl rfl,
  ⟨.nothing rfl rfl,
  ⟨.nothing rfl rfl,
  ⟨.nothing rfl rfl,
  ⟨.nothing rfl rfl,
  ⟨.nothing rfl rfl,
  ⟨.nothing rfl rfl,
  ⟨.nothing rfl rfl,
  ⟨.nothing rfl rfl,
  ⟨.nothing rfl rfl,
  ⟨.nothing rfl rfl,
  ⟨.nothing rfl rfl,
  ⟨.nothing rfl rfl,
  ⟨.nothing rfl rfl,
  ⟨.nothing rfl rfl,
  ⟨.nothing rfl rfl,
  ⟨.nothing rfl rfl,
  ⟨.nothing rfl rfl,
  ⟨.nothing rfl rfl,
  ⟨.nothing rfl rfl,
  ⟨.nothing rfl rfl,
  ⟨.nothing rfl rfl,
  ⟨.nothing rfl rfl,
  ⟨.ofOp rfl rfl (opIndexByte_ok Try.func220 (by kernel_rfl) (by kernel_rfl) (by kernel_rfl) (by kernel_rfl)),
  ⟨.nothing rfl rfl,
  ⟨.nothing rfl rfl,
  ⟨.nothing rfl rfl,
  ⟨.nothing rfl rfl,
  ⟨.nothing rfl rfl,
  ⟨.nothing rfl rfl,
  ⟨.nothing rfl rfl,
  ⟨.nothing rfl rfl,
  ⟨.nothing rfl rfl,
  ⟨.nothing rfl rfl,
  trivial⟩⟩⟩⟩⟩⟩⟩⟩⟩⟩⟩⟩⟩⟩⟩⟩⟩⟩⟩⟩⟩⟩⟩⟩⟩⟩⟩⟩⟩⟩⟩⟩⟩⟩⟩⟩⟩⟩⟩⟩⟩⟩⟩⟩⟩⟩⟩⟩⟩⟩⟩⟩⟩⟩⟩⟩⟩⟩⟩⟩⟩⟩⟩⟩⟩⟩⟩⟩⟩⟩⟩⟩⟩⟩⟩⟩⟩⟩⟩⟩⟩⟩⟩⟩⟩⟩⟩⟩⟩⟩⟩⟩⟩⟩⟩⟩⟩⟩⟩⟩⟩⟩⟩⟩⟩⟩⟩⟩⟩⟩⟩⟩⟩⟩⟩⟩⟩⟩⟩⟩⟩⟩⟩⟩⟩⟩⟩⟩⟩⟩⟩⟩⟩⟩⟩⟩⟩⟩⟩⟩⟩⟩⟩⟩⟩⟩⟩⟩⟩⟩⟩⟩⟩⟩⟩⟩⟩⟩⟩⟩⟩⟩⟩⟩⟩⟩⟩⟩⟩⟩⟩⟩⟩⟩⟩⟩⟩⟩⟩⟩⟩⟩⟩⟩⟩⟩⟩⟩⟩⟩⟩⟩⟩⟩⟩⟩⟩⟩⟩⟩⟩⟩⟩⟩⟩⟩⟩⟩⟩⟩)
end Go.Proofs.Ytdblhdpnllckhaa.AE
end
section
namespace Go.Proofs.Ytdblhdpnllckhaa.AE.keysLay
open Go Go.ChangeShapes Go.WideShapes Go.ChangeAt Go.RowKit
open Go.ChangeMaps (open_string shut_string)
set_option linter.unusedVariables false
def Pure : Prop := ∀ (x0 : den ((.prod (.list (.prod .str (.prod (.list .str) (.list (.prod .str (.prod (.int .i64) (.prod (.int .i64) .str))))))) (.list (.prod .str (.prod .str (.prod .str (.prod (.list .str) (.list (.prod .str (.prod (.int .i64) (.prod (.int .i64) .str)))))))))))), Gd ((.prod (.list (.prod .str (.prod (.list .str) (.list (.prod .str (.prod (.int .i64) (.prod (.int .i64) .str))))))) (.list (.prod .str (.prod .str (.prod .str (.prod (.list .str) (.list (.prod .str (.prod (.int .i64) (.prod (.int .i64) .str))))))))))) x0 → ∃ K, F.pleachlaw31_KeysLay K x0 = some true
set_option maxRecDepth 100000 in
theorem lifted (pure : Pure) (os : Os) (started : os.Started) (H : Type) (enc : TypeId × Value → H) :
    ReturnsInHanded {} Try.checked os 8 .any (Rows.keysLaySpec.pre6 enc Try.prog Try.f8 Rows.keysLayRow.domain false) (Rows.keysLaySpec.post enc Try.prog Try.f8 false true false false) := by
  refine returnsInHanded_of_change_sized (C := Try.checked) own started (by kernel_rfl) Try.func8
    (ChangeSpec.witness6 (enc := enc) (C := Try.checked) false ⟨#[], #[.agg #[.slice none 0 0, .slice none 0 0]], []⟩ 8 (by kernel_rfl) (by kernel_rfl) (by kernel_rfl) (by kernel_rfl)) ?_
  intro W base args ds gs before hval0 hW hcnd hsz0 _
  have hsz : (DataW.weightsEach Try.prog (Try.f8.params.toList ++ Rows.keysLaySpec.plain.varTypes Try.prog) (ds ++ gs)).all (· ≤ reachBytes) = true := hsz0
  have hval : ∀ (j : Nat) t v, Try.f8.params[j]? = some t → args[j]? = some v → Value.okWide Try.prog W .any base t v := hval0
  have hW' := hW
  obtain ⟨p, q, hA0, hV, rfl, hfz, hnd⟩ := hW
  have hA : DataW.TrodAll enc Try.prog W 0 (fun _ => true) true Try.f8.params.toList args.toList ds p := hA0
  rw [Try.params8] at hA hval hsz
  obtain ⟨v0, vs0, d0, ds0, p0, q0, hargs, rfl, rfl, h0, r0⟩ := trodAll_cons hA
  obtain ⟨rfl, rfl, rfl⟩ := trodAll_nil r0
  obtain rfl : args = #[v0] := by cases args; simp_all
  obtain ⟨rfl, rfl⟩ := trodVars_none hV
  have k0 := h0
  have lt0 : ∀ x ∈ p0, x.block < W.heap.size := by obtain ⟨m, hm⟩ := k0; exact DataW.trod_lt m _ _ _ hm
  obtain ⟨cs0, rfl, _⟩ := okWide_struct Try.underlying25 (hval 0 25 v0 rfl rfl)
  obtain ⟨fuel0, hf0⟩ := h0
  obtain ⟨x0, S0, G0⟩ := fitT_ok (O := OX NoX [] []) (fun b => own_none) 20 25 ((.prod (.list (.prod .str (.prod (.list .str) (.list (.prod .str (.prod (.int .i64) (.prod (.int .i64) .str))))))) (.list (.prod .str (.prod .str (.prod .str (.prod (.list .str) (.list (.prod .str (.prod (.int .i64) (.prod (.int .i64) .str))))))))))) (by kernel_rfl) fuel0 _ _ hf0 (fun m hm => by have hq := weights_each hsz (j := 0) (t := 25) rfl rfl m hm; exact of_decide_eq_true hq)
  obtain ⟨K, hk⟩ := pure x0 G0
  have ha : AV1sR (OX NoX [] []) W [] [.agg (inj ((.prod (.list (.prod .str (.prod (.list .str) (.list (.prod .str (.prod (.int .i64) (.prod (.int .i64) .str))))))) (.list (.prod .str (.prod .str (.prod .str (.prod (.list .str) (.list (.prod .str (.prod (.int .i64) (.prod (.int .i64) .str))))))))))) x0)] (#[.agg cs0] : Array Value).toList := .cons (arg_agg S0) ⟨rfl, by simp⟩
  refine (law_calls (good Try.prog sg extok mix num K) (f := 8) (t := (true : Bool)) (b := true) hk rfl (fun O w ρ vals σ v h hv => bool_of h hv) ha).mono fun e W' ⟨he, hd⟩ => ?_
  have bel : Below W.heap.size W W' := hd
  subst he
  exact ⟨_, rfl, _, _, _, [], _, [], hW', trodAll_mk1 (shut_bool Try.underlying4 _), (trodAll_cons_mk (Below.trod laidOut (by kernel_rfl) (of_decide_eq_true (by kernel_rfl)) k0 bel lt0) trodAll_mk0), rfl, bel.frame _, fun h => by cases h⟩
theorem over (pure : Pure) : Rows.keysLayRow.holds Try.pinned (OpenSpec.ofChange Rows.keysLaySpec) :=
  OpenClaim.holds_of_wide 8 Try.f8 rfl rfl rfl rfl rfl rfl rfl ⟨rfl, rfl, rfl, rfl, rfl⟩ rfl rfl rfl rfl rfl (by kernel_rfl) Try.func8 (by kernel_rfl)
    (of_decide_eq_true (by kernel_rfl)) (by unfold Func.isWrapper; first | (rw [if_pos (by decide +kernel)]; kernel_rfl) | (rw [if_neg (by decide +kernel)]; exact ⟨rfl, rfl⟩))
    (fun os started H enc _ => lifted pure os started H enc)
theorem proved (pure : Pure) : Rows.KeysLaySaid := over pure
end Go.Proofs.Ytdblhdpnllckhaa.AE.keysLay
end
