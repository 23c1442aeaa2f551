/- The evaluator of the program's form, its soundness, the functions of the given program as it evaluates them, and laws on these. Conditions: as each theorem says. -/
import Derived.Test.YtmenplonaapliaaCThreeFactsN1
import Derived.Laws.MakeOwn
import Derived.OrdersHeld
import Derived.LoopN
import Derived.Laws.Sem
import Derived.Below
import Derived.Deep.Slices
import Derived.ChangeArms
import Derived.SizedLaws
import Derived.DataReads
import Derived.WideShapes
import Derived.Lib.Bytealg
import Derived.Laws.Externs
import Derived.Shelf.Bodies2
import Derived.Shelf.RegionOpenPlain
import Derived.WalkKit
import Derived.Lib.Walk
import Derived.Lib.SliceRun
import Derived.Lib.JoinLaws
import Derived.Lib.AppendZeros
import Derived.Lib.AppendZerosOnto
import Derived.Lib.Overlaps
import Derived.Laws.IdiomCopy
import Derived.Laws.NewBlocks
section
set_option linter.unusedVariables false
set_option linter.unusedSimpArgs false
namespace Go.Proofs.Ytmenplonaapliaa.AE
open Go Go.RowKit
variable {W₀ : World}

section
variable {P : Program} {R : Type} {r : R} {X : XO W₀} {w : World} {ρ : List RB} {a : Act} {o : Oper} {st : St} {k : AV → List Blk → Option R}

theorem does_alloc_array (m : Mem X w ρ st.blks) {t : TypeId} (ho : o.op = .alloc t) {cs : List Sc} (hz : zeroCells P t = some cs) {e : Sh} {n : Nat} {l : List (den e)} {σ' : List Blk} (hp : projN e n cs st.blks = some (l, σ')) (hn : 1 ≤ n)
    (h : k (.one (.sc (.eref σ'.length 0 0))) (σ' ++ [.elems e l]) = some r) (T : Nat → Prop) : Does P o a X w ρ st.blks T k r := by
  obtain ⟨z, h1, h2⟩ := zeroCells_ok (O := OX X ρ st.blks) (w := w) (ρ := ρ) hz
  obtain ⟨f, hl, hfl⟩ := projN_ok m h2 hp
  have hsz : z.cells.size = l.length * e.size := by simpa using hfl.1
  obtain ⟨s, hr⟩ := new_row (st := ⟨st.env, σ'⟩) f.mem (T := t) (e := e) (l := l) (cap := l.length) (vs := z.cells) (n := w.drawn) (fr := (0, 0)) (Nat.le_refl _) hsz (fun i x hi => by simpa using hfl.2 i x hi) (loose_none _ _) T
  cases hr with
  | @own _ _ _ _ _ _ hr hA =>
    refine ⟨_, _, .value (.pointer (some ⟨w.heap.size, 0, none⟩)), _, _, _, h, ?_, .inl rfl, .one (.sc ?_), s.after f⟩
    · unfold execOp; rw [ho]
      simp [Instr.alloc, h1, newVar, newRow]
    · have := ScR.eref (O := OX X (ρ ++ [.s (some w.heap.size) l.length l.length e.size]) (σ' ++ [.elems e l])) (w := { w with heap := w.heap.push (.cells z.cells t (0, 0)), drawn := w.drawn }) (ρ := ρ ++ [.s (some w.heap.size) l.length l.length e.size]) (id := σ'.length) (i := 0) (off := 0) (b := w.heap.size) (len := l.length) (cap := l.length) (sz := e.size)
        (by rw [List.getElem?_append_right (by rw [f.mem.len]; exact Nat.le_refl _), f.mem.len]; simp) (by omega)
      simpa using this

theorem zerosOf_ok {O : Own} {zs : List Sc} {z : Array Value} (hz : ScsR O w ρ zs z.toList) {n : Nat} (hn : n = 0 ∨ 0 < zs.length) : ScsR O w ρ (zerosOf zs n) ((Array.range n).map (z[· % z.size]!)).toList := by
  have hl : zs.length = z.size := by simpa using hz.1
  refine ⟨by simp [zerosOf], fun i c v hc hv => ?_⟩
  simp only [zerosOf, List.getElem?_map] at hc
  have hi : i < n := by
    cases h : (List.range n)[i]? with
    | none => rw [h] at hc; cases hc
    | some j => have := get_lt h; simpa using this
  rw [List.getElem?_range hi] at hc
  simp only [Option.map_some, Option.some.injEq] at hc
  have hv' : v = z[i % z.size]! := by
    have : ((Array.range n).map (z[· % z.size]!)).toList[i]? = some z[i % z.size]! := by simp [hi]
    rw [this] at hv; cases hv; rfl
  have hpos : 0 < z.size := by omega
  have hm : i % z.size < z.size := Nat.mod_lt _ hpos
  rw [getAt_eq, hl, List.getElem?_eq_getElem (by omega)] at hc
  simp at hc
  subst hc
  rw [hv', getElem!_pos z _ hm]
  exact hz.2 (i % z.size) _ _ (List.getElem?_eq_getElem (by omega)) (by simp [hm])

theorem does_buildSlice (m : Mem X w ρ st.blks) (henv : EnvR (OX X ρ st.blks) w ρ st.env a) {t : TypeId} {len : Nat} {parts : Array (Nat × Operand)} (ho : o.op = .buildSlice t len parts) {et : TypeId} {e : Sh} (hu : P.underlying t = some (.slice et)) (hs : sizeT P et = some e.size)
    {zs : List Sc} (hz : zeroCells P et = some zs) (hz1 : 0 < zs.length) (hlim : len * e.size ≤ 16777216)
    (h : fillK (fun i => some (i * e.size, e.size)) (parts.toList.map fun p => (p.1, st.opd p.2)) (zerosOf zs (len * e.size)) (fun cs => match projN e len cs st.blks with | some (l, σ) => k (.one (.sc (.own σ.length none))) (σ ++ [.elems e l]) | none => none) = some r) (T : Nat → Prop) : Does P o a X w ρ st.blks T k r := by
  obtain ⟨z, h1, h2⟩ := zeroCells_ok (O := OX X ρ st.blks) (w := w) (ρ := ρ) hz
  obtain ⟨cs', vs', k1, k2, k3⟩ := fillK_ok (parts_ok henv parts) (zerosOf_ok h2 (n := len * e.size) (.inr hz1)) h
  split at k1
  · rename_i l σ' hp
    obtain ⟨f, hl, hfl⟩ := projN_ok m k3 hp
    have hsz : vs'.size = l.length * e.size := by simpa using hfl.1
    obtain ⟨s, hr⟩ := new_row (st := ⟨st.env, σ'⟩) f.mem (T := et) (e := e) (l := l) (cap := l.length) (vs := vs') (n := w.drawn) (fr := (0, 0)) (Nat.le_refl _) hsz (fun i x hi => by simpa using hfl.2 i x hi) (loose_none _ _) T
    refine ⟨_, _, .value _, _, _, _, k1, ?_, .inl rfl, .one (.sc hr), s.after f⟩
    unfold execOp; rw [ho]
    have hnl : ¬ (len * e.size > 2 ^ 24) := by omega
    subst hl
    by_cases h0 : l.length * e.size = 0
    · have hz0 : (Array.range (l.length * e.size)).map (z.cells[· % z.cells.size]!) = (Array.range (l.length * e.size)).map ((#[] : Array Value)[· % (#[] : Array Value).size]!) := by rw [h0]; simp
      rw [hz0] at k2
      simp only [Instr.buildSlice, Sem.run_bind, run_und hu, run_sizeT hs, Result.andThen_ok, if_neg hnl, Sem.run_pure, if_pos h0]
      rw [k2]
      simp [newRow]
    · simp only [Instr.buildSlice, Sem.run_bind, run_und hu, run_sizeT hs, Result.andThen_ok, if_neg hnl, Sem.run_pure, if_neg h0, h1]
      rw [k2]
      simp [newRow]
  · cases k1

theorem does_convert (m : Mem X w ρ st.blks) (henv : EnvR (OX X ρ st.blks) w ρ st.env a) {s d et : TypeId} {x : Operand} (ho : o.op = .convert s d x) (hs : P.underlying s = some .string) (hd : P.underlying d = some (.slice et)) (he : P.underlying et = some (.int .u8)) {u : ByteArray} (hx : st.opd x = .one (.sc (.val (.string u))))
    (h : k (.one (.sc (.own st.blks.length none))) (st.blks ++ [.elems (.int .u8) (intsOf u)]) = some r) (T : Nat → Prop) : Does P o a X w ρ st.blks T k r := by
  have ev := (opd_eq henv hx).val_eq
  let cap := u.size + w.tape w.drawn (.appendCap u.size 0 et) % (2 ^ 63 - u.size)
  let vs : Array Value := (u.data.map fun b => (.int .u8 b.toNat : Value)) ++ Array.replicate (cap - u.size) (.int .u8 0)
  have hcap : u.size ≤ cap := Nat.le_add_right _ _
  have hvs : vs.size = cap := by
    have : u.data.size = u.size := rfl
    simp [vs, this]; omega
  obtain ⟨sp, hr⟩ := new_row (st := st) m (T := et) (e := .int .u8) (l := intsOf u) (cap := cap) (vs := vs) (n := w.drawn + 1) (fr := (vs.size, vs.size + 1)) (by rw [intsOf_len]; exact hcap) (by rw [hvs]; simp [Sh.size]) (fun i x hi => by
    have hi' : i < u.data.size := by have := get_lt hi; rw [intsOf_len] at this; exact this
    simp only [intsOf, List.getElem?_map] at hi
    simp only [CellsAt, Sh.size, Nat.mul_one]
    have : vs[i]? = (u.data.map fun b => (.int .u8 b.toNat : Value))[i]? := Array.getElem?_append_left (by simpa using hi')
    rw [this]
    simp [hi'] at hi ⊢
    exact hi) ⟨fun i hi => by simp; omega, fun h => absurd rfl h⟩ T
  rw [intsOf_len] at hr sp
  have e1 : (intsOf u).length = u.size := intsOf_len u
  refine ⟨_, _, .value _, _, _, _, h, ?_, .inl rfl, .one (.sc hr), sp⟩
  unfold execOp; rw [ho]
  have hmod : ∀ (h : Array Obj) (x : Obj) (f : Obj → Obj), (h.push x).modify h.size f = h.push (f x) := by
    intro h x f
    apply Array.ext_getElem?
    intro i
    rw [Array.getElem?_modify, Array.getElem?_push, Array.getElem?_push]
    by_cases e : i = h.size
    · subst e; simp
    · rw [if_neg (fun h => e h.symm), if_neg e, if_neg e]
  have hshape : World.shape? { w with heap := w.heap.push (.cells vs et), drawn := w.drawn + 1 } w.heap.size = some (et, vs.size) := by simp [World.shape?]
  simp only [convert, Sem.run_bind, run_und hs, run_und hd, run_und he, Result.andThen_ok, ev, Conv.stringToBytes, run_choose, Question.forced, Bool.false_eq_true, if_false, Question.cut, newRow, run_newObj, Sem.run_pure, markStringish, run_shape]
  have e0 : ((u.data.map fun b => (.int .u8 b.toNat : Value)) ++ Array.replicate (u.size + w.tape w.drawn (.appendCap u.size 0 et) % (2 ^ 63 - u.size) - u.size) (.int .u8 0)) = vs := rfl
  rw [e0, hshape]
  simp only [run_freeze, Result.andThen_ok, World.freeze, hmod]
  rfl

/-! ### Maps, zeros -/

theorem Step.put {X : XO W₀} {w w' : World} {ρ : List RB} {σ : List Blk} {id b : Nat} {r : RB} {k k' : Blk} (hr : ρ[id]? = some r) (hk : σ[id]? = some k) (hl : Live r k b) (hl' : ∀ c, Live r k' c → c = b) (hrest : ∀ c, c ≠ b → w'.heap[c]? = w.heap[c]?) (h1 : w'.os = w.os) (h2 : w'.tape = w.tape) (h3 : w'.output = w.output)
    (h : Mem X w' ρ (σ.set id k') ∧ Turn (OX X ρ σ) w (OX X ρ (σ.set id k')) w') {T : Nat → Prop} (hT : T id) : Step X w ρ σ w' ρ (σ.set id k') T :=
  ⟨h.1, .refl _, h.2, h1, h2, h3, fun c _ hc => hrest c (fun e => by subst e; exact hc id r k hr hk hl hT), fun j r₁ k₁ c h1 h2 h3 _ => by
    by_cases e : id = j
    · subst e
      rw [List.getElem?_set_self (get_lt hk)] at h2; cases h2
      rw [hr] at h1; cases h1
      exact ⟨id, r, k, hr, hk, by rw [hl' c h3]; exact hl, .inl rfl⟩
    · rw [List.getElem?_set_ne e] at h2
      exact ⟨j, r₁, k₁, h1, h2, h3, .inl rfl⟩⟩

theorem made_get (z : Array Value) (N k : Nat) (h : k < N) (hz : 0 < z.size) : (madeCells z N)[k]? = z[k % z.size]? := by
  have hm := Nat.mod_lt k hz
  simp [madeCells, h, hm]
theorem does_makeSlice (m : Mem X w ρ st.blks) (henv : EnvR (OX X ρ st.blks) w ρ st.env a) {t : TypeId} {x y : Operand} (ho : o.op = .makeSlice t x y) {et : TypeId} {e : Sh} (hu : P.underlying t = some (.slice et)) (hs : sizeT P et = some e.size) (hb : bytesOk P et = true)
    {zs : List Sc} (hz : zeroCells P et = some zs) {z : den e} {σ : List Blk} (hpj : projAll e zs st.blks = some (z, σ)) {i j : IntKind} {n c : Int} (hx : a.eval x = .int i n) (hy : a.eval y = .int j c) (hn : 0 ≤ n) (hnc : n ≤ c) (h1 : c ≤ 17179869184)
    (h : k (.one (.sc (.own σ.length none))) (σ ++ [.elems e (List.replicate n.toNat z)]) = some r) (T : Nat → Prop) : Does P o a X w ρ st.blks T k r := by
  have h0 : 0 ≤ c := by omega
  obtain ⟨zv, hzr, hzs⟩ := zeroCells_ok (O := OX X ρ st.blks) (w := w) (ρ := ρ) hz
  obtain ⟨f, hzl, hzc⟩ := projAll_ok m hzs hpj
  unfold zeroCells at hz
  split at hz
  · rename_i ti hi
    split at hz
    · rename_i z₀ hv
      have hzv : z₀ = zv := by
        have := hzr w
        simp [zeroValue, typeInfo, program, hi, hv, Sem.run] at this
        exact this
      subst hzv
      have hsz : ti.size = e.size := by
        unfold sizeT at hs; rw [hi] at hs; simpa using hs
      have hby : ti.bytes ≤ 4096 := by
        unfold bytesOk bytesT at hb
        rw [hi] at hb
        exact Nat.le_of_ble_eq_true (by simpa using hb)
      have hzz : z₀.cells.size = e.size := by rw [← hzl, Array.length_toList]
      have hr := run_make (P := P) w t et ti z₀ hu hi hv i j n c hn hnc (by
        have : (ti.bytes : Int) ≤ 4096 := by omega
        have h2 : (ti.bytes : Int) * c ≤ 4096 * 17179869184 := Int.mul_le_mul this h1 h0 (by decide)
        omega) (by omega)
      obtain ⟨s, hr'⟩ := new_row (st := ⟨[], σ⟩) f.mem (T := et) (e := e) (l := List.replicate n.toNat z) (cap := c.toNat) (vs := madeCells z₀.cells (c.toNat * ti.size)) (n := w.drawn) (fr := (0, 0)) (by rw [List.length_replicate]; omega) (by rw [size_madeCells, hsz]) (fun i x hix => by
        rw [List.getElem?_replicate] at hix
        split at hix
        · rename_i hlt
          cases hix
          refine (hzc z₀.cells 0 (by intro i v hv; simpa using hv)).shift (fun q hq => ?_)
          have h3 : i * e.size + q < c.toNat * ti.size := by
            rw [hsz]
            have : (i + 1) * e.size ≤ c.toNat * e.size := Nat.mul_le_mul_right _ (by omega)
            rw [Nat.add_mul, Nat.one_mul] at this
            omega
          rw [made_get _ _ _ h3 (by omega), hzz, Nat.mul_comm, Nat.mul_add_mod, Nat.mod_eq_of_lt hq, Nat.zero_add]
        · cases hix) (loose_none _ _) T
      rw [List.length_replicate] at s hr'
      refine ⟨_, _, .value _, _, _, _, h, ?_, .inl rfl, .one (.sc hr'), Step.after f s⟩
      unfold execOp; rw [ho]
      simp only [Sem.run_bind, hx, hy, hr, Result.andThen_ok]
      rfl
    · cases hz
  · cases hz

theorem does_makeMap (m : Mem X w ρ st.blks) {t : TypeId} (ho : o.op = .makeMap t none) {ks vs : Sh} (h : k (.one (.sc (.mref st.blks.length))) (st.blks ++ [.mp ks vs []]) = some r) (T : Nat → Prop) : Does P o a X w ρ st.blks T k r := by
  obtain ⟨m', t'⟩ := m.push (w' := { w with heap := w.heap.push (.map #[] 0) }) (r := .c w.heap.size) (k := .mp ks vs []) (by simp) (push_same w _) (by intro b h; cases h; exact Nat.le_refl _)
    (.mp (ms := #[]) (clock := 0) (by simp) (by simp))
  refine ⟨_, _, .value (.map (some w.heap.size)), _, _, _, h, ?_, .inl rfl, .one (.sc (.mref (by rw [List.getElem?_append_right (by rw [m.len]; exact Nat.le_refl _), m.len]; simp))), ⟨m', Ext.app _ _, t', rfl, rfl, rfl, fun b hb _ => push_same w _ b hb, orig_push m.len (fun b h hb => by cases h; omega)⟩⟩
  unfold execOp; rw [ho]
  simp [Instr.makeMap, run_newObj]

theorem sameBits_val1 {ks : Sh} {a b : den ks} (h : keyB ks a b = true) : Instr.sameBits 10000 (val1 ks b) (val1 ks a) = true := by
  cases ks with
  | int k => simp [keyB] at h; simp [val1, Instr.sameBits, h]
  | bool => simp [keyB] at h; simp [val1, Instr.sameBits, h]
  | str => simp [keyB, strEq] at h; simp [val1, Instr.sameBits, beq_toListBytes, h]
  | list e => simp [keyB] at h
  | prod x y => simp [keyB] at h

theorem does_mapUpdate (m : Mem X w ρ st.blks) (henv : EnvR (OX X ρ st.blks) w ρ st.env a) {t : TypeId} {x i y : Operand} (ho : o.op = .mapUpdate t x i y) {kt vt : TypeId} (hu : P.underlying t = some (.map kt vt)) {id : Nat} (hx : st.opd x = .one (.sc (.mref id)))
    {ks vs : Sh} {es : List (den ks × den vs)} (hk : st.blks[id]? = some (.mp ks vs es)) (hT : keyT P kt ks = true) {key : den ks} (hkey : keyOf ks (st.opd i) = some key) {v : den vs} (hv : keyOf vs (st.opd y) = some v)
    (h : k (.one (.sc (.val undef))) (st.blks.set id (.mp ks vs (mput es key v))) = some r) {T : Nat → Prop} (hTid : T id) : Does P o a X w ρ st.blks T k r := by
  have hm := (opd_eq henv hx).sc_of
  generalize hvx : a.eval x = mv at hm
  cases hm with
  | @mref _ b hr =>
    have hb := m.blk id _ _ hr hk
    cases hb with
    | @mp _ _ _ _ ms clock hh he =>
      obtain ⟨d, hd, hck, hs⟩ := keyT_ok hT
      have hki := keyOf_ok (opd_ok henv i) hkey
      have hvi := keyOf_ok (opd_ok henv y) hv
      have hlt : b < w.heap.size := lt_of_get hh
      have fin : ∀ {ms' : Array MapEntry} {c' : Nat}, (Instr.mapUpdate t (a.eval x) (a.eval i) (a.eval y)).run P w = .ok () { w with heap := w.heap.setIfInBounds b (.map ms' c') } → ms'.toList.map (fun e => (e.key, e.val)) = (mput es key v).map (fun x => (val1 ks x.1, val1 vs x.2)) → Does P o a X w ρ st.blks T k r := by
        intro ms' c' hrun hes
        have hrest : ∀ c, c ≠ b → ({ w with heap := w.heap.setIfInBounds b (.map ms' c') } : World).heap[c]? = w.heap[c]? := fun c hc => by
          simp [Array.getElem?_setIfInBounds, Ne.symm hc]
        have hw := m.write (w' := { w with heap := w.heap.setIfInBounds b (.map ms' c') }) (k' := .mp ks vs (mput es key v)) hr hk .mp (by intro c hc; cases hc; rfl) hrest (by simp) (fun _ => .mp (ms := ms') (clock := c') (by simp [hlt]) hes)
        have s := Step.put (T := T) hr hk .mp (by intro c hc; cases hc; rfl) hrest rfl rfl rfl hw hTid
        refine ⟨_, _, .skip, _, _, _, h, ?_, .inr ⟨rfl, rfl⟩, .one (.sc (.val _)), s⟩
        unfold execOp; rw [ho]; simp [hrun]
      have hck := hck false key 9999 w
      rcases findNow_ok hs key 0 he with ⟨a1, a2, a3⟩ | ⟨j, k0, y0, a1, a2, a3, a4, a5⟩
      · have hf := run_findKey hd a1 w
        refine fin (ms' := ms.push { key := val1 ks key, val := val1 vs v, born := clock }) (c' := clock + 1) ?_ ?_
        · simp [Instr.mapUpdate, run_und hu, hvx, run_getMap hh, hki, hvi, hck, hf, setObj, Sem.run, hh]
        · rw [a3]; simp [he]
      · have hf := run_findKey hd a1 w
        rw [Nat.zero_add] at hf
        have hj : j < es.length := get_lt a3
        have hjm : j < ms.size := by have := congrArg List.length he; simp at this; omega
        have hold : ms[j].key = val1 ks k0 := by
          have := congrArg (fun l => l[j]?) he
          simp [a3, hjm] at this
          exact this.1
        have hst : (Instr.keyThatStays (((ms[j]?).map (·.key)).getD (val1 ks key)) (val1 ks key)).run P w = .ok (val1 ks key) w := by
          simp [Instr.keyThatStays, hjm, hold, sameBits_val1 a4]
        refine fin (ms' := ms.modify j fun e => { e with key := val1 ks key, val := val1 vs v }) (c' := clock) ?_ ?_
        · simp only [Instr.mapUpdate, Sem.run_bind, run_und hu, hvx, run_getMap hh, hki, hvi, hck, hf, Result.andThen_ok, hst]
          simp [setObj, Sem.run, hh]
        · rw [a5]
          apply List.ext_getElem?
          intro q
          have hq := congrArg (fun l => l[q]?) he
          simp only [List.getElem?_map, List.getElem?_set, Array.getElem?_toList, Array.getElem?_modify] at hq ⊢
          by_cases e : j = q
          · subst e; simp [hj, hjm]
          · simp only [if_neg e]; exact hq

theorem does_clear (m : Mem X w ρ st.blks) (henv : EnvR (OX X ρ st.blks) w ρ st.env a) {p : Operand} {t : TypeId} (ho : o.op = .call { callee := .builtin .clear, args := #[p], argTypes := #[t] }) {c : Sc} (hp : st.opd p = .one (.sc c))
    (h : clearK P st.blks t c (fun σ => k (.tup []) σ) = some r) {T : Nat → Prop} (hT : ∀ id v, c = .own id v → T id) : Does P o a X w ρ st.blks T k r := by
  obtain ⟨et, e, hu, hs, hb, h⟩ := elemK_ok h
  have hps := (opd_eq henv hp).sc_of
  generalize hpv : a.eval p = pv at hps
  have fin : ∀ {w' : World} {σ' : List Blk}, k (.tup []) σ' = some r → (Builtin.clear_ #[t] o.type #[pv]).run P w = .ok (.tuple #[]) w' → Step X w ρ st.blks w' ρ σ' T → Does P o a X w ρ st.blks T k r := by
    intro w' σ' hk hrun hst
    refine ⟨_, .tuple #[], .value (.tuple #[]), w', ρ, σ', hk, ?_, .inl rfl, .tup ⟨rfl, by simp⟩, hst⟩
    unfold execOp; rw [ho]
    simp [resolve, invoke, builtin, hpv, hrun]
  split at h
  · rename_i zs hz
    obtain ⟨zv, hzr, hzs⟩ := zeroCells_ok (O := OX X ρ st.blks) (w := w) (ρ := ρ) hz
    split at h
    · rename_i z σ' hpj
      obtain ⟨f, hzl, hzc⟩ := projAll_ok m hzs hpj
      split at h
      · rename_i id lo hi _
        rw [getAt_eq] at h
        split at h
        · rename_i e' l hk
          split at h
          · rename_i he; subst he
            obtain ⟨hg, h⟩ := guardK_ok h
            obtain ⟨g1, g2⟩ := dand.1 hg
            rw [setAt_eq] at h
            cases hps with
            | @view _ len cap sz lo' hi' c b A hr h1 h2 hA hcc =>
              have hbk := f.mem.blk id _ _ hr hk
              cases hbk with
              | elems hl hc hrow =>
                subst hl
                have hl' : (l.take lo ++ List.replicate (hi - lo) z ++ l.drop hi).length = l.length := by simp; omega
                rcases Nat.eq_zero_or_pos (hi - lo) with h0 | h0
                · have hll : l.take lo ++ List.replicate (hi - lo) z ++ l.drop hi = l := by
                    rw [h0, show hi = lo by omega]; simp
                  have hset : σ'.set id (.elems e (l.take lo ++ List.replicate (hi - lo) z ++ l.drop hi)) = σ' := by
                    rw [hll]
                    apply List.ext_getElem?
                    intro q
                    rw [List.getElem?_set]
                    by_cases eq : id = q
                    · subst eq; rw [if_pos rfl, if_pos (get_lt hk), hk]
                    · rw [if_neg eq]
                  have h : k (.tup []) (σ'.set id (.elems e (l.take lo ++ List.replicate (hi - lo) z ++ l.drop hi))) = some r := h
                  rw [hset] at h
                  refine fin h ?_ (Step.after f (Step.refl f.mem T))
                  rw [h0]
                  cases A <;> simp [Builtin.clear_, run_und hu]
                · cases b with
                  | none =>
                    have hcz : cap = 0 := hrow
                    omega
                  | some b =>
                    have hA' := hA b rfl (.inr (by omega))
                    subst hA'
                    obtain ⟨q0, us, T', fr, q1, q2, q3, q4⟩ := hrow
                    have hin : hi * e.size ≤ us.size := Nat.le_trans (Nat.mul_le_mul_right _ (by omega)) q2
                    have hzsz : zv.cells.size = e.size := by simpa using hzl
                    let zl : List Value := (Builtin.zeroCells zv.cells (hi - lo)).toList
                    have hzll : zl.length = (hi - lo) * e.size := by simp [zl, Builtin.zeroCells, hzsz]
                    have hsum : hi * e.size = lo * e.size + (hi - lo) * e.size := by rw [← mul_add']; congr 1; omega
                    have hzget : ∀ i j, i < hi - lo → j < e.size → zl[i * e.size + j]? = zv.cells[j]? := fun i j hi hj => by
                      have hlt := idx_lt hi hj
                      have hmod : (i * e.size + j) % e.size = j := by rw [Nat.add_comm, Nat.add_mul_mod_self_right, Nat.mod_eq_of_lt hj]
                      simp [zl, Builtin.zeroCells, hzsz, hlt, hmod, hj]
                    have hzone : ∀ v ∈ zl, v.oneCell' = true := fun v hv => by
                      obtain ⟨q, hq⟩ := List.getElem?_of_mem hv
                      have hql : q < (hi - lo) * e.size := by have := get_lt hq; omega
                      have hs0 := e.size_pos
                      have hqm : q % e.size < e.size := Nat.mod_lt _ hs0
                      have hqd : q / e.size < hi - lo := Nat.div_lt_of_lt_mul (by rw [Nat.mul_comm]; exact hql)
                      have := hzget (q / e.size) (q % e.size) hqd hqm
                      rw [Nat.mul_comm, Nat.div_add_mod, hq] at this
                      obtain ⟨u, k1, k2⟩ := (hzc zv.cells 0 (by intro i v hv; simpa using hv)).one (q % e.size) hqm
                      rw [Nat.zero_add, ← this] at k1
                      cases k1; exact k2
                    obtain ⟨w', hst, hw⟩ := storeCells_ok P (o := lo * e.size) zl 0 us w q1 (by omega) (q3 rfl).1 hzone
                    rw [Nat.add_zero] at hw
                    have hm := f.mem.write (k' := .elems e (l.take lo ++ List.replicate (hi - lo) z ++ l.drop hi)) hr hk .elems (by intro c hc; cases hc; rfl) hw.rest hw.size (fun t => by
                      refine .elems hl'.symm hc ⟨fun h => by simp at h, _, _, _, hw.row, by rw [setV_size]; exact q2, fun _ => by rw [setV_size]; exact q3 rfl, fun i x hix => ?_⟩
                      have ht : (l.take lo).length = lo := by simp; omega
                      have hlen2 : (l.take lo ++ List.replicate (hi - lo) z).length = hi := by simp; omega
                      rcases Nat.lt_or_ge i hi with hi1 | hi1
                      · rw [List.getElem?_append_left (by omega)] at hix
                        rcases Nat.lt_or_ge i lo with hi2 | hi2
                        · rw [List.getElem?_append_left (by omega), List.getElem?_take, if_pos hi2] at hix
                          refine ((q4 i x hix).turn t).shift (fun j hj => ?_)
                          have := idx_lt hi2 hj
                          rw [setV_get _ _ _ _ (by omega), if_neg (by omega)]
                        · rw [List.getElem?_append_right (by omega), ht, List.getElem?_replicate, if_pos (by omega)] at hix
                          cases hix
                          refine ((hzc zv.cells 0 (by intro i v hv; simpa using hv)).turn t).shift (fun j hj => ?_)
                          have h1 := idx_lt (show i - lo < hi - lo by omega) hj
                          have h2 : i * e.size = lo * e.size + (i - lo) * e.size := by rw [← mul_add']; congr 1; omega
                          rw [setV_get _ _ _ _ (by omega), if_pos (by omega), show i * e.size + j - lo * e.size = (i - lo) * e.size + j by omega, hzget _ _ (by omega) hj, Nat.zero_add]
                      · rw [List.getElem?_append_right (by omega), hlen2, List.getElem?_drop, show hi + (i - hi) = i by omega] at hix
                        refine ((q4 i x hix).turn t).shift (fun j hj => ?_)
                        have h1 : hi * e.size ≤ i * e.size := Nat.mul_le_mul_right _ hi1
                        rw [setV_get _ _ _ _ (by omega), if_neg (by omega)])
                    have s := Step.after f (Step.write (T := T) hr hk .elems (by intro c hc; cases hc; rfl) hw hm (hT id _ rfl))
                    refine fin h ?_ s
                    have hne : hi - lo ≠ 0 := by omega
                    obtain ⟨n, hn⟩ : ∃ n, hi - lo = n + 1 := ⟨hi - lo - 1, by omega⟩
                    simp only [zl] at hst
                    rw [hn] at hst ⊢
                    simp [Builtin.clear_, run_und hu, hzr, hst]
          · cases h
        · cases h
      · cases h
    · cases h
  · cases h

theorem does_box_array (m : Mem X w ρ st.blks) (henv : EnvR (OX X ρ st.blks) w ρ st.env a) {t : TypeId} {x : Operand} (ho : o.op = .box t x) {v : AV1} (hx : st.opd x = .one v) (hv : okAV1 v = true) {e : Sh} {n : Nat} {l : List (den e)} {σ' : List Blk} (hp : projN e n (av1Cells v) st.blks = some (l, σ')) (hn : 1 ≤ n)
    (h : k (.one (.sc (.eref σ'.length 0 0))) (σ' ++ [.elems e l]) = some r) (T : Nat → Prop) : Does P o a X w ρ st.blks T k r := by
  have ev := opd_eq henv hx
  generalize hxv : a.eval x = z at ev
  cases ev with
  | one ev =>
  obtain ⟨f, hl, hfl⟩ := projN_ok m (av1Cells_ok ev hv) hp
  have hsz : z.cells.size = l.length * e.size := by simpa using hfl.1
  obtain ⟨s, hr⟩ := new_row (st := ⟨st.env, σ'⟩) f.mem (T := t) (e := e) (l := l) (cap := l.length) (vs := z.cells) (n := w.drawn) (fr := (0, 0)) (Nat.le_refl _) hsz (fun i x hi => by simpa using hfl.2 i x hi) (loose_none _ _) T
  cases hr with
  | @own _ _ _ _ _ _ hr hA =>
    refine ⟨_, _, .value (.pointer (some ⟨w.heap.size, 0, none⟩)), _, _, _, h, ?_, .inl rfl, .one (.sc ?_), s.after f⟩
    · unfold execOp; rw [ho]
      simp [Instr.box, newVar, newRow, hxv]
    · have := ScR.eref (O := OX X (ρ ++ [.s (some w.heap.size) l.length l.length e.size]) (σ' ++ [.elems e l])) (w := { w with heap := w.heap.push (.cells z.cells t (0, 0)), drawn := w.drawn }) (ρ := ρ ++ [.s (some w.heap.size) l.length l.length e.size]) (id := σ'.length) (i := 0) (off := 0) (b := w.heap.size) (len := l.length) (cap := l.length) (sz := e.size)
        (by rw [List.getElem?_append_right (by rw [f.mem.len]; exact Nat.le_refl _), f.mem.len]; simp) (by omega)
      simpa using this

theorem eOp_ok (m : Mem X w ρ st.blks) (henv : EnvR (OX X ρ st.blks) w ρ st.env a) (h : eOp P o st k = some r) {T : Nat → Prop} (hT : ∀ id, id ∈ touchesE o st → T id) : Does P o a X w ρ st.blks T k r := by
  unfold eOp at h
  split at h
  · rename_i t ho
    split at h
    · rename_i n et cs hu hz
      split at h
      · exact does_alloc m ho hz h T
      · rename_i e he
        split at h
        · rename_i l σ hp hn; exact does_alloc_array m ho hz hp (Nat.le_of_ble_eq_true hn) h T
        · cases h
      · cases h
    · rename_i cs hz _; exact does_alloc m ho hz h T
    · cases h
  · rename_i t x ho
    split at h
    · rename_i v hx
      split at h
      · rename_i hv
        split at h
        · rename_i n et hu
          split at h
          · exact does_box m henv ho hx hv h T
          · rename_i e he
            split at h
            · rename_i l σ hp hn; exact does_box_array m henv ho hx hv hp (Nat.le_of_ble_eq_true hn) h T
            · cases h
          · cases h
        · exact does_box m henv ho hx hv h T
      · cases h
    · cases h
  · rename_i t rr ho
    split at h
    · rename_i kt vt hu
      split at h
      · rename_i ks vs h1 h2; exact does_makeMap m ho h T
      · cases h
    · cases h
  · rename_i t mm i x ho
    split at h
    · rename_i kt vt id hu hx
      split at h
      · rename_i ks vs es hk
        rw [getAt_eq] at hk
        split at h
        · rename_i key y h1 h2 h3
          rw [setAt_eq] at h
          refine does_mapUpdate m henv ho hu hx hk h1 h2 h3 h (hT id ?_)
          refine List.mem_filterMap.2 ⟨st.opd mm, List.mem_map.2 ⟨mm, by rw [ho]; simp [Op.operands], rfl⟩, ?_⟩
          simp [hx, idOf]
        · cases h
      · cases h
    · cases h
  · rename_i t x y ho
    split at h
    · rename_i c v hx hy
      refine does_store m henv ho hx hy h (fun id hid => hT id ?_)
      refine List.mem_filterMap.2 ⟨st.opd x, List.mem_map.2 ⟨x, by rw [ho]; simp [Op.operands], rfl⟩, ?_⟩
      rcases hid with ⟨off, rfl⟩ | ⟨i, off, rfl⟩ <;> simp [hx, idOf]
    · cases h
  · rename_i t len parts ho
    obtain ⟨et, e, hu, hs, hb, h⟩ := elemK_ok h
    split at h
    · cases h
    · rename_i zs hne hz hlim
      exact does_buildSlice m henv ho hu hs hz (by cases zs with | nil => exact absurd rfl hne | cons => simp) (Nat.le_of_ble_eq_true hlim) h T
    · cases h
  · rename_i t x y ho
    obtain ⟨et, e, hu, hs, hb, h⟩ := elemK_ok h
    split at h
    · rename_i zs hz
      split at h
      · rename_i z σ hpj
        obtain ⟨i, n, hx, h⟩ := intK_ok (opd_ok henv x) h
        obtain ⟨j, c, hy, h⟩ := intK_ok (opd_ok henv y) h
        obtain ⟨g1, h'⟩ := guardK_ok h
        obtain ⟨g2, h''⟩ := guardK_ok h'
        obtain ⟨g3, g4⟩ := dand.1 g1
        exact does_makeSlice m henv ho hu hs hb hz hpj hx hy g3 g4 (of_decide_eq_true g2) h'' T
      · cases h
    · cases h
  · rename_i s d x ho
    split at h
    · rename_i et u hs hd hx
      split at h
      · rename_i he; exact does_convert m henv ho hs hd he hx h T
      · cases h
    · cases h
  · rename_i b args ts ho
    split at h
    · rename_i p q t u hargs hts
      split at h
      · rename_i s x hp hq hpl
        have hargs : args = #[p, q] := by cases args with | mk l => exact congrArg Array.mk hargs
        have hts : ts = #[t, u] := by cases ts with | mk l => exact congrArg Array.mk hts
        subst hargs; subst hts
        refine does_append m henv ho hp hq hpl h (fun id v hs => hT id ?_)
        refine List.mem_filterMap.2 ⟨st.opd p, List.mem_map.2 ⟨p, by rw [ho]; simp [Op.operands, Call.operands], rfl⟩, ?_⟩
        subst hs; simp [hp, idOf]
      · cases h
    · rename_i p t hargs hts
      split at h
      · rename_i c hp
        have hargs : args = #[p] := by cases args with | mk l => exact congrArg Array.mk hargs
        have hts : ts = #[t] := by cases ts with | mk l => exact congrArg Array.mk hts
        subst hargs; subst hts
        refine does_clear m henv ho hp h (fun id v hs => hT id ?_)
        refine List.mem_filterMap.2 ⟨st.opd p, List.mem_map.2 ⟨p, by rw [ho]; simp [Op.operands, Call.operands], rfl⟩, ?_⟩
        subst hs; simp [hp, idOf]
      · cases h
    · cases h
  · cases h

end

end Go.Proofs.Ytmenplonaapliaa.AE
end
section
set_option linter.unusedVariables false
set_option linter.unusedSimpArgs false
namespace Go.Proofs.Ytmenplonaapliaa.AE
open Go Go.RowKit
variable {W₀ : World}

abbrev NoT : Nat → Prop := fun _ => False

theorem Step.trans {X : XO W₀} {w₀ w₁ w₂ : World} {ρ₀ ρ₁ ρ₂ : List RB} {σ₀ σ₁ σ₂ : List Blk} {T₀ T₁ T : Nat → Prop} (a : Step X w₀ ρ₀ σ₀ w₁ ρ₁ σ₁ T₀) (b : Step X w₁ ρ₁ σ₁ w₂ ρ₂ σ₂ T₁)
    (h0 : ∀ id, T₀ id → T id) (h1 : ∀ (id : Nat) r k c, ρ₁[id]? = some r → σ₁[id]? = some k → Live r k c → T₁ id → c < w₀.heap.size → ∃ (i : Nat) (r' : RB) (k' : Blk), ρ₀[i]? = some r' ∧ σ₀[i]? = some k' ∧ Live r' k' c ∧ T i) : Step X w₀ ρ₀ σ₀ w₂ ρ₂ σ₂ T :=
  ⟨b.mem, a.ext.trans b.ext, a.turn.trans b.turn, b.os.trans a.os, b.tape.trans a.tape, b.output.trans a.output, fun c hc h => by
    have e1 : w₁.heap[c]? = w₀.heap[c]? := a.same c hc (fun id r k g1 g2 g3 g4 => h id r k g1 g2 g3 (h0 id g4))
    have e2 : w₂.heap[c]? = w₁.heap[c]? := b.same c (Nat.lt_of_lt_of_le hc a.turn.size) (fun id r k g1 g2 g3 g4 => by
      obtain ⟨i, r', k', q1, q2, q3, q4⟩ := h1 id r k c g1 g2 g3 g4 hc
      exact h i r' k' q1 q2 q3 q4)
    exact e2.trans e1, fun id r k c g1 g2 g3 hc => by
    obtain ⟨i, r', k', q1, q2, q3, q4⟩ := b.orig id r k c g1 g2 g3 (Nat.lt_of_lt_of_le hc a.turn.size)
    rcases q4 with rfl | q4
    · obtain ⟨i', r'', k'', p1, p2, p3, p4⟩ := a.orig i r' k' c q1 q2 q3 hc
      exact ⟨i', r'', k'', p1, p2, p3, p4.imp (fun x => x) (h0 _)⟩
    · obtain ⟨i', r'', k'', p1, p2, p3, p4⟩ := h1 i r' k' c q1 q2 q3 q4 hc
      exact ⟨i', r'', k'', p1, p2, p3, .inr p4⟩⟩

theorem Step.own_back {X : XO W₀} {w₀ w₁ : World} {ρ₀ ρ₁ : List RB} {σ₀ σ₁ : List Blk} {T : Nat → Prop} (a : Step X w₀ ρ₀ σ₀ w₁ ρ₁ σ₁ T) {c : Nat} (hc : c < w₀.heap.size) (h : owns ρ₁ σ₁ c) : owns ρ₀ σ₀ c := by
  rcases a.turn.own c hc (.inl h) with g | g
  · exact g
  · exact absurd g (a.mem.dis c h)

theorem Step.all {X : XO W₀} {w₀ w₁ w₂ : World} {ρ₀ ρ₁ ρ₂ : List RB} {σ₀ σ₁ σ₂ : List Blk} {T₀ T₁ : Nat → Prop} (a : Step X w₀ ρ₀ σ₀ w₁ ρ₁ σ₁ T₀) (b : Step X w₁ ρ₁ σ₁ w₂ ρ₂ σ₂ T₁) : Step X w₀ ρ₀ σ₀ w₂ ρ₂ σ₂ (fun _ => True) :=
  a.trans b (fun _ _ => trivial) (fun id r k c g1 g2 g3 _ hc => by
    obtain ⟨i, r', k', q1, q2, q3⟩ := a.own_back hc ⟨id, r, k, g1, g2, g3⟩
    exact ⟨i, r', k', q1, q2, q3, trivial⟩)

/-- Nothing in memory turns; rows may be settled, a row of none may come. -/
theorem Step.still {X : XO W₀} {w : World} {ρ₀ ρ₁ ρ₂ : List RB} {σ₀ σ₁ σ₂ : List Blk} (a : Step X w ρ₀ σ₀ w ρ₁ σ₁ NoT) (b : Step X w ρ₁ σ₁ w ρ₂ σ₂ NoT) : Step X w ρ₀ σ₀ w ρ₂ σ₂ NoT :=
  a.trans b (fun _ h => h) (fun _ _ _ _ _ _ _ h _ => h.elim)

section
variable {X : XO W₀} {w : World} {ρ : List RB} {σ σ' : List Blk}

theorem nil_row (m : Mem X w ρ σ) (e : Sh) : Step X w ρ σ w (ρ ++ [.s none 0 0 e.size]) (σ ++ [.elems e []]) NoT ∧ ∀ A, ScR (OX X (ρ ++ [.s none 0 0 e.size]) (σ ++ [.elems e []])) w (ρ ++ [.s none 0 0 e.size]) (.own σ.length none) (.slice A 0 0) := by
  obtain ⟨m', t'⟩ := m.push (w' := w) (r := .s none 0 0 e.size) (k := .elems e []) (Nat.le_refl _) (fun _ _ => rfl) (by intro b h; cases h) (.elems rfl (Nat.le_refl _) rfl)
  exact ⟨⟨m', Ext.app _ _, t', rfl, rfl, rfl, fun _ _ _ => rfl, orig_push m.len (fun b h _ => by cases h)⟩, fun A => .own (b := none) (sz := e.size) (by rw [List.getElem?_append_right (by rw [m.len]; exact Nat.le_refl _), m.len]; simp) (fun x h => by cases h)⟩

theorem coerce1_ok {p : Ps} {v v' : AV1} {u : Value} (m : Mem X w ρ σ) (hv : AV1R (OX X ρ σ) w ρ v u) (h : coerce1 p v σ = some (v', σ')) :
    ∃ ρ', Step X w ρ σ w ρ' σ' NoT ∧ AV1R (OX X ρ' σ') w ρ' v' u ∧ (σ'.length = σ.length → ρ' = ρ ∧ Frz X w ρ σ σ') ∧ (∀ (i : Nat) r k b, ρ'[i]? = some r → σ'[i]? = some k → Live r k b → ρ[i]? = some r ∧ σ[i]? = some k) := by
  unfold coerce1 at h
  split at h
  · cases h; exact ⟨ρ, .refl m _, hv, fun _ => ⟨rfl, .refl m⟩, fun _ _ _ _ h1 h2 _ => ⟨h1, h2⟩⟩
  · rename_i s c
    split at h
    · rename_i x σ₁ hp
      split at h
      · rename_i c' hi
        cases h
        cases hv with
        | sc hv =>
          obtain ⟨f, hs⟩ := projAll_inj (vs := [u]) m (ScsR.cons hv ⟨rfl, by simp⟩) hp
          rw [hi] at hs
          exact ⟨ρ, .frz f _, .sc (hs.2 0 _ _ rfl rfl), fun _ => ⟨rfl, f⟩, fun _ _ _ _ h1 h2 h3 => ⟨h1, f.back h2 h3⟩⟩
      · cases h
    · cases h
  · rename_i s cs
    split at h
    · rename_i x σ₁ hp
      cases h
      cases hv with
      | agg hv =>
        obtain ⟨f, hs⟩ := projAll_inj m hv hp
        exact ⟨ρ, .frz f _, .agg hs, fun _ => ⟨rfl, f⟩, fun _ _ _ _ h1 h2 h3 => ⟨h1, f.back h2 h3⟩⟩
    · cases h
  · rename_i e
    cases h
    have := hv.val_eq
    subst this
    obtain ⟨s, hr⟩ := nil_row m e
    refine ⟨_, s, .sc (hr none), fun h => by simp at h, fun i r k b h1 h2 h3 => ?_⟩
    rcases app_get h1 with g1 | ⟨g1, e1⟩ <;> rcases app_get h2 with g2 | ⟨g2, e2⟩
    · exact ⟨g1, g2⟩
    · have := get_lt g1; have := m.len; omega
    · have := get_lt g2; have := m.len; omega
    · subst e1; cases h3
  · cases h
    exact ⟨ρ, .refl m _, hv, fun _ => ⟨rfl, .refl m⟩, fun _ _ _ _ h1 h2 _ => ⟨h1, h2⟩⟩
  · cases h

theorem AV1sR.tail {O : Own} {c : AV1} {cs : List AV1} {vs : List Value} (h : AV1sR O w ρ (c :: cs) vs) : ∃ v vs', vs = v :: vs' ∧ AV1R O w ρ c v ∧ AV1sR O w ρ cs vs' := by
  cases vs with
  | nil => simpa using h.1
  | cons v vs' => exact ⟨v, vs', rfl, h.2 0 c v rfl rfl, by simpa using h.1, fun i c' v' hc hv => h.2 (i + 1) c' v' hc hv⟩

theorem AV1sR.cons {O : Own} {c : AV1} {cs : List AV1} {v : Value} {vs : List Value} (h : AV1R O w ρ c v) (hs : AV1sR O w ρ cs vs) : AV1sR O w ρ (c :: cs) (v :: vs) :=
  ⟨by simp [hs.1], fun i c' v' hc hv => by
    cases i with
    | zero => simp at hc hv; subst hc; subst hv; exact h
    | succ i => exact hs.2 i c' v' (by simpa using hc) (by simpa using hv)⟩

theorem AV1sR.turn {O O' : Own} {w' : World} {ρ' : List RB} (t : Turn O w O' w') (x : Ext ρ ρ') {cs : List AV1} {vs : List Value} (h : AV1sR O w ρ cs vs) : AV1sR O' w' ρ' cs vs :=
  ⟨h.1, fun i c v hc hv => (h.2 i c v hc hv).turn t x⟩

theorem coerce1_len {p : Ps} {v v' : AV1} (h : coerce1 p v σ = some (v', σ')) (m : Mem X w ρ σ) {u : Value} (hv : AV1R (OX X ρ σ) w ρ v u) : σ.length ≤ σ'.length := by
  obtain ⟨ρ', s, _, _, _⟩ := coerce1_ok m hv h
  have h1 := s.mem.len
  have h2 := m.len
  rcases Nat.lt_or_ge ρ'.length ρ.length with hlt | hge
  · exfalso
    have := s.ext ρ'.length (ρ[ρ'.length]'hlt) (List.getElem?_eq_getElem hlt)
    simp at this
  · omega

theorem coerceArgs_ok : ∀ {ps : List Ps} {vs vs' : List AV1} {ρ : List RB} {σ σ' : List Blk} {us : List Value}, Mem X w ρ σ → AV1sR (OX X ρ σ) w ρ vs us → coerceArgs ps vs σ = some (vs', σ') →
    ∃ ρ', Step X w ρ σ w ρ' σ' NoT ∧ AV1sR (OX X ρ' σ') w ρ' vs' us ∧ σ.length ≤ σ'.length ∧ (σ'.length = σ.length → ρ' = ρ ∧ Frz X w ρ σ σ') ∧ (∀ (i : Nat) r k b, ρ'[i]? = some r → σ'[i]? = some k → Live r k b → ρ[i]? = some r ∧ σ[i]? = some k)
  | ps, [], vs', ρ, σ, σ', us, m, hv, h => by
    have : coerceArgs ps [] σ = some ([], σ) := by cases ps <;> rfl
    rw [this] at h; cases h
    have : us = [] := List.length_eq_zero_iff.1 hv.1.symm
    subst this
    exact ⟨ρ, .refl m _, hv, Nat.le_refl _, fun _ => ⟨rfl, .refl m⟩, fun _ _ _ _ h1 h2 _ => ⟨h1, h2⟩⟩
  | [], v :: vs, vs', ρ, σ, σ', us, m, hv, h => by
    obtain ⟨u, us', rfl, hu, hs⟩ := hv.tail
    simp only [coerceArgs] at h
    split at h
    · rename_i ws σ₁ h₁
      cases h
      obtain ⟨ρ', s, h1, h2, h3⟩ := coerceArgs_ok m hs h₁
      exact ⟨ρ', s, .cons (hu.turn s.turn s.ext) h1, h2, h3⟩
    · cases h
  | p :: ps, v :: vs, vs', ρ, σ, σ', us, m, hv, h => by
    obtain ⟨u, us', rfl, hu, hs⟩ := hv.tail
    simp only [coerceArgs] at h
    split at h
    · rename_i v₁ σ₁ h₁
      split at h
      · rename_i ws σ₂ h₂
        cases h
        have hl1 := coerce1_len h₁ m hu
        obtain ⟨ρ₁, s₁, hu₁, f₁, b₁⟩ := coerce1_ok m hu h₁
        obtain ⟨ρ₂, s₂, hs₂, hl2, f₂, b₂⟩ := coerceArgs_ok s₁.mem (hs.turn s₁.turn s₁.ext) h₂
        refine ⟨ρ₂, s₁.still s₂, .cons (hu₁.turn s₂.turn s₂.ext) hs₂, by omega, fun hl => ?_, fun i r k b q1 q2 q3 => by
          obtain ⟨p1, p2⟩ := b₂ i r k b q1 q2 q3
          exact b₁ i r k b p1 p2 q3⟩
        obtain ⟨rfl, g1⟩ := f₁ (by omega)
        obtain ⟨rfl, g2⟩ := f₂ (by omega)
        exact ⟨rfl, g1.trans g2⟩
      · cases h
    · cases h

/-! ### Other numbers -/

theorem newId_go : ∀ (m : List Nat) (i n j : Nat), newId.go i m n = some j → n ≤ j ∧ m[j - n]? = some i
  | [], i, n, j, h => by simp [newId.go] at h
  | x :: m, i, n, j, h => by
    simp only [newId.go] at h
    split at h
    · rename_i hx
      cases h
      have : x = i := by simpa using hx
      exact ⟨Nat.le_refl _, by simp [this]⟩
    · obtain ⟨h1, h2⟩ := newId_go m i (n + 1) j h
      refine ⟨by omega, ?_⟩
      obtain ⟨k, hk⟩ : ∃ k, j - n = k + 1 := ⟨j - n - 1, by omega⟩
      rw [hk, List.getElem?_cons_succ, ← h2]
      congr 1; omega

theorem newId_ok {m : List Nat} {i j : Nat} (h : newId m i = some j) : m[j]? = some i := by
  have := (newId_go m i 0 j h).2
  simpa using this

/-- The words for the blocks of 'm', in its order. -/
def pickR (ρ : List RB) (m : List Nat) : List RB := m.map fun i => (ρ[i]?).getD (.c 0)

theorem pickR_get {m : List Nat} {i j : Nat} {r : RB} (hm : m[j]? = some i) (hr : ρ[i]? = some r) : (pickR ρ m)[j]? = some r := by
  simp [pickR, hm, hr]

theorem optMap_get {α β : Type} {g : α → Option β} : ∀ {l : List α} {l' : List β}, optMap g l = some l' → l'.length = l.length ∧ ∀ (i : Nat) x, l[i]? = some x → ∃ y, l'[i]? = some y ∧ g x = some y
  | [], l', h => by simp [optMap] at h; subst h; simp
  | a :: l, l', h => by
    simp only [optMap] at h
    split at h
    · rename_i b s h1 h2
      cases h
      obtain ⟨g1, g2⟩ := optMap_get h2
      refine ⟨by simp [g1], fun i x hx => ?_⟩
      cases i with
      | zero => simp at hx; subst hx; exact ⟨b, rfl, h1⟩
      | succ i => exact g2 i x (by simpa using hx)
    · cases h

theorem optMap_back {α β : Type} {g : α → Option β} {l : List α} {l' : List β} (h : optMap g l = some l') {i : Nat} {y : β} (hy : l'[i]? = some y) : ∃ x, l[i]? = some x ∧ g x = some y := by
  obtain ⟨h1, h2⟩ := optMap_get h
  have hlt : i < l.length := by have := get_lt hy; omega
  obtain ⟨z, h3, h4⟩ := h2 i l[i] (List.getElem?_eq_getElem hlt)
  rw [hy] at h3; cases h3
  exact ⟨_, List.getElem?_eq_getElem hlt, h4⟩

theorem renFlat_ok {O : Own} {m : List Nat} {c c' : Sc} {v : Value} (h : ScR O w ρ c v) (hr : renFlat m c = some c') : ScR O w (pickR ρ m) c' v := by
  cases h with
  | val v => simp [renFlat] at hr; subst hr; exact .val v
  | any v => simp [renFlat] at hr; subst hr; exact .any v
  | nilI => simp [renFlat] at hr; subst hr; exact .nilI
  | ifc t p => simp [renFlat] at hr; subst hr; exact .ifc t p
  | list h hf => simp [renFlat] at hr; subst hr; exact .list h hf
  | ref h =>
    simp only [renFlat, Option.map_eq_some_iff] at hr
    obtain ⟨j, h1, rfl⟩ := hr
    exact .ref (pickR_get (newId_ok h1) h)
  | own h hA =>
    simp only [renFlat, Option.map_eq_some_iff] at hr
    obtain ⟨j, h1, rfl⟩ := hr
    exact .own (pickR_get (newId_ok h1) h) hA
  | view h h1 h2 hA hc =>
    simp only [renFlat, Option.map_eq_some_iff] at hr
    obtain ⟨j, g1, rfl⟩ := hr
    exact .view (pickR_get (newId_ok g1) h) h1 h2 hA hc
  | eref h hi =>
    simp only [renFlat, Option.map_eq_some_iff] at hr
    obtain ⟨j, h1, rfl⟩ := hr
    exact .eref (pickR_get (newId_ok h1) h) hi
  | rref h1 h2 h3 => simp [renFlat] at hr; subst hr; exact .rref h1 h2 h3
  | fn hl h =>
    simp only [renFlat] at hr
    split at hr
    · cases hr
      exact .fn hl (by simp)
    · cases hr
  | bnd hl h =>
    simp only [renFlat] at hr
    split at hr
    · cases hr
      exact .bnd hl (by simp)
    · cases hr
  | mref h =>
    simp only [renFlat, Option.map_eq_some_iff] at hr
    obtain ⟨j, h1, rfl⟩ := hr
    exact .mref (pickR_get (newId_ok h1) h)

theorem renSc_ok {O : Own} {m : List Nat} {c c' : Sc} {v : Value} (h : ScR O w ρ c v) (hr : renSc m c = some c') : ScR O w (pickR ρ m) c' v := by
  unfold renSc at hr
  split at hr
  · rename_i f caps
    simp only [Option.map_eq_some_iff] at hr
    obtain ⟨caps', h1, rfl⟩ := hr
    cases h with
    | fn hl h =>
      obtain ⟨g1, g2⟩ := optMap_get h1
      refine .fn (g1.trans hl) (fun i c v hc hv => ?_)
      obtain ⟨x, hx, hy⟩ := optMap_back h1 hc
      exact renFlat_ok (h i x v hx hv) hy
  · rename_i f caps
    simp only [Option.map_eq_some_iff] at hr
    obtain ⟨caps', h1, rfl⟩ := hr
    cases h with
    | bnd hl h =>
      obtain ⟨g1, g2⟩ := optMap_get h1
      refine .bnd (g1.trans hl) (fun i c v hc hv => ?_)
      obtain ⟨x, hx, hy⟩ := optMap_back h1 hc
      exact renFlat_ok (h i x v hx hv) hy
  · exact renFlat_ok h hr

theorem renScs_ok {O : Own} {m : List Nat} {cs cs' : List Sc} {vs : List Value} (h : ScsR O w ρ cs vs) (hr : optMap (renSc m) cs = some cs') : ScsR O w (pickR ρ m) cs' vs := by
  obtain ⟨g1, g2⟩ := optMap_get hr
  refine ⟨g1.trans h.1, fun i c v hc hv => ?_⟩
  obtain ⟨x, hx, hy⟩ := optMap_back hr hc
  exact renSc_ok (h.2 i x v hx hv) hy

theorem renAV1_ok {O : Own} {m : List Nat} {c c' : AV1} {v : Value} (h : AV1R O w ρ c v) (hr : renAV1 m c = some c') : AV1R O w (pickR ρ m) c' v := by
  cases h with
  | sc h =>
    simp only [renAV1, Option.map_eq_some_iff] at hr
    obtain ⟨x, h1, rfl⟩ := hr
    exact .sc (renSc_ok h h1)
  | agg h =>
    simp only [renAV1, Option.map_eq_some_iff] at hr
    obtain ⟨x, h1, rfl⟩ := hr
    exact .agg (renScs_ok h h1)

theorem renAV1s_ok {O : Own} {m : List Nat} {cs cs' : List AV1} {vs : List Value} (h : AV1sR O w ρ cs vs) (hr : optMap (renAV1 m) cs = some cs') : AV1sR O w (pickR ρ m) cs' vs := by
  obtain ⟨g1, g2⟩ := optMap_get hr
  refine ⟨g1.trans h.1, fun i c v hc hv => ?_⟩
  obtain ⟨x, hx, hy⟩ := optMap_back hr hc
  exact renAV1_ok (h.2 i x v hx hv) hy

theorem renAV_ok {O : Own} {m : List Nat} {c c' : AV} {v : Value} (h : AVR O w ρ c v) (hr : renAV m c = some c') : AVR O w (pickR ρ m) c' v := by
  cases h with
  | one h =>
    simp only [renAV, Option.map_eq_some_iff] at hr
    obtain ⟨x, h1, rfl⟩ := hr
    exact .one (renAV1_ok h h1)
  | tup h =>
    simp only [renAV, Option.map_eq_some_iff] at hr
    obtain ⟨x, h1, rfl⟩ := hr
    exact .tup (renAV1s_ok h h1)

end

end Go.Proofs.Ytmenplonaapliaa.AE
end
section
set_option linter.unusedVariables false
set_option linter.unusedSimpArgs false
namespace Go.Proofs.Ytmenplonaapliaa.AE
open Go Go.RowKit
variable {W₀ : World}

theorem nodupB_ok : ∀ {m : List Nat}, nodupB m = true → m.Nodup
  | [], _ => List.nodup_nil
  | x :: m, h => by
    simp only [nodupB, Bool.and_eq_true, Bool.not_eq_true', List.contains_eq_mem, decide_eq_false_iff_not] at h
    exact List.nodup_cons.2 ⟨h.1, nodupB_ok h.2⟩

section
variable {X : XO W₀} {w : World} {ρ : List RB} {σ σ' : List Blk}

theorem renBlk_live {m : List Nat} {k k' : Blk} (h : renBlk m k = some k') {r : RB} {b : Nat} : Live r k' b ↔ Live r k b := by
  unfold renBlk at h
  split at h
  · simp only [Option.map_eq_some_iff] at h
    obtain ⟨cs, _, rfl⟩ := h
    constructor <;> intro hl <;> cases hl <;> exact .cells
  · cases h; exact Iff.rfl

theorem renBlk_ok {O : Own} {m : List Nat} {k k' : Blk} {r : RB} (h : BlkR O w ρ r k) (hr : renBlk m k = some k') : BlkR O w (pickR ρ m) r k' := by
  cases h with
  | cells h hu hc =>
    simp only [renBlk, Option.map_eq_some_iff] at hr
    obtain ⟨cs, h1, rfl⟩ := hr
    exact .cells h hu (renScs_ok hc h1)
  | elems hl hc h => simp [renBlk] at hr; subst hr; exact .elems hl hc h
  | froz hl hc h => simp [renBlk] at hr; subst hr; exact .froz hl hc h
  | mp h he => simp [renBlk] at hr; subst hr; exact .mp h he
  | dead r => simp [renBlk] at hr; subst hr; exact .dead r

theorem pick_get (m : Mem X w ρ σ) {l : List Nat} {bs : List Blk} (hp : pickBlks σ l = some bs) : bs.length = l.length ∧ l.Nodup ∧ ∀ (j : Nat) k', bs[j]? = some k' → ∃ i k r, l[j]? = some i ∧ σ[i]? = some k ∧ ρ[i]? = some r ∧ (pickR ρ l)[j]? = some r ∧ renBlk l k = some k' := by
  unfold pickBlks at hp
  split at hp
  · rename_i hn
    obtain ⟨g1, g2⟩ := optMap_get hp
    refine ⟨g1, nodupB_ok hn, fun j k' hk' => ?_⟩
    obtain ⟨i, hi, hy⟩ := optMap_back hp hk'
    rw [getAt_eq] at hy
    split at hy
    · rename_i k hk
      obtain ⟨r, hr⟩ := m.rho hk
      exact ⟨i, k, r, hi, hk, hr, pickR_get hi hr, hy⟩
    · cases hy
  · cases hp

theorem pick_own (m : Mem X w ρ σ) {l : List Nat} {bs : List Blk} (hp : pickBlks σ l = some bs) {b : Nat} (h : owns (pickR ρ l) bs b) : ∃ (j i : Nat) (r : RB) (k : Blk), l[j]? = some i ∧ ρ[i]? = some r ∧ σ[i]? = some k ∧ Live r k b := by
  obtain ⟨j, r', k', h1, h2, h3⟩ := h
  obtain ⟨i, k, r, g1, g2, g3, g4, g5⟩ := (pick_get m hp).2.2 j k' h2
  rw [g4] at h1; cases h1
  exact ⟨j, i, _, k, g1, g3, g2, (renBlk_live g5).1 h3⟩

theorem pick_mem (m : Mem X w ρ σ) {l : List Nat} {bs : List Blk} (hp : pickBlks σ l = some bs) {X' : XO W₀} (hX : ∀ b, X' b → OX X ρ σ b) (hdis : ∀ b, owns (pickR ρ l) bs b → ¬ X' b) : Mem X' w (pickR ρ l) bs ∧ Turn (OX X ρ σ) w (OX X' (pickR ρ l) bs) w := by
  obtain ⟨g1, g2, g3⟩ := pick_get m hp
  have t : Turn (OX X ρ σ) w (OX X' (pickR ρ l) bs) w := .less w (fun b h => by
    rcases h with h | h
    · obtain ⟨j, i, r, k, _, h1, h2, h3⟩ := pick_own m hp h
      exact .inl ⟨i, r, k, h1, h2, h3⟩
    · exact hX b h)
  refine ⟨⟨by simp [pickR, g1], fun j r k' hr hk' => ?_, fun i j r k r' k' b h1 h2 h3 h4 h5 h6 => ?_, hdis, fun b hb => ?_, m.top.trans t⟩, t⟩
  · obtain ⟨i, k, r', q1, q2, q3, q4, q5⟩ := g3 j k' hk'
    rw [q4] at hr; cases hr
    exact (renBlk_ok (m.blk i _ k q3 q2) q5).turn t (Ext.refl _) (fun _ _ => rfl)
  · obtain ⟨i', k₁, r₁, q1, q2, q3, q4, q5⟩ := g3 i k h2
    obtain ⟨j', k₂, r₂, p1, p2, p3, p4, p5⟩ := g3 j k' h5
    rw [q4] at h1; cases h1
    rw [p4] at h4; cases h4
    have e := m.inj i' j' _ k₁ _ k₂ b q3 q2 ((renBlk_live q5).1 h3) p3 p2 ((renBlk_live p5).1 h6)
    subst e
    have hi := get_lt q1
    have hj := get_lt p1
    exact (List.getElem?_inj hi g2).1 (q1.trans p1.symm)
  · rcases hX b hb with h | h
    · exact m.low h
    · exact m.xlow b h

end

/-! ### What a call gives, in its caller -/

abbrev XC (X : XO W₀) (ρc : List RB) (σc : List Blk) : XO W₀ := fun b => X b ∨ owns ρc σc b

abbrev XP (X : XO W₀) (p : Nat → Prop) : XO W₀ := fun b => X b ∨ p b

/-- On the way back: 'σc' what is left of the called one's blocks, 'σ' the caller's. -/
structure Back (fl : Bool) (E : Nat → Nat → Prop) (D : Own) (n₀ : Nat) (Xc X : XO W₀) (w : World) (ρc : List RB) (σc : List Blk) (ρ : List RB) (σ : List Blk) : Prop where
  callee : Mem Xc w ρc σc
  caller : Mem (XC X ρc σc) w ρ σ
  disj : ∀ b, owns ρc σc b → ¬ owns ρ σ b ∧ ¬ X b
  sub : fl = false → ∀ b, owns ρ σ b ∨ X b → Xc b
  prov : ∀ (id : Nat) r k b, ρ[id]? = some r → σ[id]? = some k → Live r k b → b < n₀ → E id b ∨ D b
  provc : ∀ b, owns ρc σc b → b < n₀ → D b

theorem Back.turn {fl : Bool} {E : Nat → Nat → Prop} {D : Own} {n₀ : Nat} {Xc X : XO W₀} {w : World} {ρc ρ : List RB} {σc σ : List Blk} (b : Back fl E D n₀ Xc X w ρc σc ρ σ) (hfl : fl = false) : Turn (OX Xc ρc σc) w (OX (XC X ρc σc) ρ σ) w := .less w (fun c h => by
  rcases h with h | h | h
  · exact .inr (b.sub hfl c (.inl h))
  · exact .inr (b.sub hfl c (.inr h))
  · exact .inl h)

theorem Mem.lessX {X X' : XO W₀} {w : World} {ρ : List RB} {σ : List Blk} (m : Mem X' w ρ σ) (h : ∀ b, X b → X' b) : Mem X w ρ σ ∧ Turn (OX X' ρ σ) w (OX X ρ σ) w := by
  have t : Turn (OX X' ρ σ) w (OX X ρ σ) w := .less w (fun b hb => hb.imp (fun x => x) (h b))
  exact ⟨⟨m.len, fun id r k h1 h2 => (m.blk id r k h1 h2).turn t (Ext.refl _) (fun _ _ => rfl), m.inj, fun b hb hx => m.dis b hb (h b hx), fun b hb => m.xlow b (h b hb), m.top.trans t⟩, t⟩

theorem Back.frz {fl : Bool} {E : Nat → Nat → Prop} {D : Own} {n₀ : Nat} {Xc X : XO W₀} {w : World} {ρc ρ : List RB} {σc σc' σ : List Blk} (b : Back fl E D n₀ Xc X w ρc σc ρ σ) (f : Frz Xc w ρc σc σc') : Back fl E D n₀ Xc X w ρc σc' ρ σ ∧ Turn (OX (XC X ρc σc) ρ σ) w (OX (XC X ρc σc') ρ σ) w := by
  have ho : ∀ c, owns ρc σc' c → owns ρc σc c := by
    rintro c ⟨id, r, k, h1, h2, h3⟩
    exact ⟨id, r, k, h1, f.back h2 h3, h3⟩
  obtain ⟨m, t⟩ := b.caller.lessX (X := XC X ρc σc') (fun c h => h.imp (fun x => x) (ho c))
  exact ⟨⟨f.mem, m, fun c h => b.disj c (ho c h), b.sub, b.prov, fun c h => b.provc c (ho c h)⟩, t⟩

theorem flat_val : ∀ {e : Sh} {x : den e}, e.flat = true → ∀ (i : Nat) c, (inj e x)[i]? = some c → ∃ v, c = .val v
  | .int _, x, _, i, c, h => by cases i with | zero => simp [inj] at h; exact ⟨_, h.symm⟩ | succ i => simp [inj] at h
  | .bool, x, _, i, c, h => by cases i with | zero => simp [inj] at h; exact ⟨_, h.symm⟩ | succ i => simp [inj] at h
  | .str, x, _, i, c, h => by cases i with | zero => simp [inj] at h; exact ⟨_, h.symm⟩ | succ i => simp [inj] at h
  | .list _, x, hf, i, c, h => by simp [Sh.flat] at hf
  | .prod a b, x, hf, i, c, h => by
    simp only [Sh.flat, Bool.and_eq_true] at hf
    simp only [inj] at h
    rcases Nat.lt_or_ge i (inj a x.1).length with hi | hi
    · rw [List.getElem?_append_left hi] at h; exact flat_val hf.1 i c h
    · rw [List.getElem?_append_right hi] at h; exact flat_val hf.2 _ c h

theorem ScsR.flat {O O' : Own} {w w' : World} {ρ ρ' : List RB} {e : Sh} {x : den e} {vs : List Value} (hf : e.flat = true) (h : ScsR O w ρ (inj e x) vs) : ScsR O' w' ρ' (inj e x) vs := by
  refine ⟨h.1, fun i c v hc hv => ?_⟩
  have h1 := h.2 i c v hc hv
  obtain ⟨u, rfl⟩ := flat_val hf i c hc
  cases h1; exact .val _

theorem ScR.noref {O : Own} {w : World} {ρ ρ' : List RB} {e : Sh} {x : den e} {vs : List Value} (h : ScsR O w ρ (inj e x) vs) : ScsR O w ρ' (inj e x) vs := by
  refine ⟨h.1, fun i c v hc hv => ?_⟩
  have h1 := h.2 i c v hc hv
  have key : ∀ {e : Sh} {x : den e} {i : Nat} {c : Sc}, (inj e x)[i]? = some c → (∃ v, c = .val v) ∨ ∃ e' l, c = .list e' l false := by
    intro e
    induction e with
    | int k => intro x i c h; cases i with | zero => simp [inj] at h; exact .inl ⟨_, h.symm⟩ | succ i => simp [inj] at h
    | bool => intro x i c h; cases i with | zero => simp [inj] at h; exact .inl ⟨_, h.symm⟩ | succ i => simp [inj] at h
    | str => intro x i c h; cases i with | zero => simp [inj] at h; exact .inl ⟨_, h.symm⟩ | succ i => simp [inj] at h
    | list e ih => intro x i c h; cases i with | zero => simp [inj] at h; exact .inr ⟨_, _, h.symm⟩ | succ i => simp [inj] at h
    | prod a b iha ihb =>
      intro x i c h
      simp only [inj] at h
      rcases Nat.lt_or_ge i (inj a x.1).length with hi | hi
      · rw [List.getElem?_append_left hi] at h; exact iha h
      · rw [List.getElem?_append_right hi] at h; exact ihb h
  rcases key hc with ⟨u, rfl⟩ | ⟨e', l, rfl⟩
  · cases h1; exact .val _
  · cases h1 with
    | list h hf => exact .list h hf

/-- A row of the called one's becomes one of the caller's: under a new number, or under an old one that is dead. -/
theorem Back.hand {fl : Bool} {E : Nat → Nat → Prop} {D : Own} {n₀ : Nat} {Xc X : XO W₀} {w : World} {ρc ρ ρ' : List RB} {σc σ σ' : List Blk} (bk : Back fl E D n₀ Xc X w ρc σc ρ σ) {id j₀ : Nat} {r r' : RB} {k k' : Blk} (hr : ρc[id]? = some r) (hk : σc[id]? = some k) (hlive : ∀ b, Live r' k' b ↔ Live r k b)
    (hext : Ext ρ ρ') (hlen' : ρ'.length = σ'.length) (hj : ρ'[j₀]? = some r' ∧ σ'[j₀]? = some k') (hold : ∀ (j : Nat) r₁ k₁, j ≠ j₀ → ρ'[j]? = some r₁ → σ'[j]? = some k₁ → ρ[j]? = some r₁ ∧ σ[j]? = some k₁)
    (hold' : ∀ (j : Nat) r₁ k₁ b, ρ[j]? = some r₁ → σ[j]? = some k₁ → Live r₁ k₁ b → j ≠ j₀)
    (hb : ∀ O : Own, (fl = false → ∀ b, O b → OX Xc ρc σc b) → (∀ b, O b → OX (XC X ρc σc) ρ σ b) → BlkR O w ρ' r' k') :
    Back fl E D n₀ (XP Xc (Live r k)) X w ρc (σc.set id .dead) ρ' σ' ∧ Turn (OX (XC X ρc σc) ρ σ) w (OX (XC X ρc (σc.set id .dead)) ρ' σ') w ∧ Turn (OX Xc ρc σc) w (OX (XP Xc (Live r k)) ρc (σc.set id .dead)) w := by
  have hlt := get_lt hk
  have hownc : ∀ b, owns ρc (σc.set id .dead) b → owns ρc σc b ∧ ¬ Live r k b := by
    rintro b ⟨j, r', k₁, h1, h2, h3⟩
    by_cases e : id = j
    · subst e
      rw [List.getElem?_set_self hlt] at h2; cases h2; cases h3
    · rw [List.getElem?_set_ne e] at h2
      exact ⟨⟨j, r', k₁, h1, h2, h3⟩, fun hl => e (bk.callee.inj id j r k r' k₁ b hr hk hl h1 h2 h3)⟩
  have hmine : ∀ b, Live r k b → owns ρc σc b := fun b h => ⟨id, r, k, hr, hk, h⟩
  have hO : ∀ b, OX (XP Xc (Live r k)) ρc (σc.set id .dead) b → OX Xc ρc σc b := by
    rintro b (h | h | h)
    · exact .inl (hownc b h).1
    · exact .inr h
    · exact .inl (hmine b h)
  have tc : Turn (OX Xc ρc σc) w (OX (XP Xc (Live r k)) ρc (σc.set id .dead)) w := .less w hO
  have hown : ∀ b, owns ρ' σ' b → owns ρ σ b ∨ Live r k b := by
    rintro b ⟨j, r', k₁, h1, h2, h3⟩
    by_cases e : j = j₀
    · subst e
      rw [hj.1] at h1; rw [hj.2] at h2
      cases h1; cases h2
      exact .inr ((hlive b).1 h3)
    · obtain ⟨g1, g2⟩ := hold j r' k₁ e h1 h2
      exact .inl ⟨j, r', k₁, g1, g2, h3⟩
  have hdisj : ∀ b, owns ρ σ b → ¬ owns ρc σc b := fun b h hc => (bk.disj b hc).1 h
  have hO2 : ∀ b, OX (XC X ρc (σc.set id .dead)) ρ' σ' b → OX (XC X ρc σc) ρ σ b := by
    rintro b (h | h | h)
    · rcases hown b h with h | h
      · exact .inl h
      · exact .inr (.inr (hmine b h))
    · exact .inr (.inl h)
    · exact .inr (.inr (hownc b h).1)
  have tcl : Turn (OX (XC X ρc σc) ρ σ) w (OX (XC X ρc (σc.set id .dead)) ρ' σ') w := .less w hO2
  have upc : ∀ {i : Nat} {k₁ : Blk} {r₁ : RB} {b : Nat}, (σc.set id .dead)[i]? = some k₁ → Live r₁ k₁ b → σc[i]? = some k₁ := by
    intro i k₁ r₁ b h2 h3
    by_cases e : id = i
    · subst e
      rw [List.getElem?_set_self hlt] at h2; cases h2; cases h3
    · rw [List.getElem?_set_ne e] at h2; exact h2
  refine ⟨⟨⟨by simp [bk.callee.len], ?_, ?_, ?_, ?_, bk.callee.top.trans tc⟩, ⟨hlen', ?_, ?_, ?_, ?_, bk.caller.top.trans tcl⟩, ?_, ?_, ?_, ?_⟩, tcl, tc⟩
  · intro j r' k₁ h1 h2
    by_cases e : id = j
    · subst e
      rw [List.getElem?_set_self hlt] at h2; cases h2; exact .dead _
    · rw [List.getElem?_set_ne e] at h2
      exact (bk.callee.blk j r' k₁ h1 h2).turn tc (Ext.refl _) (fun _ _ => rfl)
  · intro i j r₁ k₁ r₂ k₂ b h1 h2 h3 h4 h5 h6
    exact bk.callee.inj i j r₁ k₁ r₂ k₂ b h1 (upc h2 h3) h3 h4 (upc h5 h6) h6
  · rintro b hb (h | h)
    · exact bk.callee.dis b (hownc b hb).1 h
    · exact (hownc b hb).2 h
  · rintro b (h | h)
    · exact bk.callee.xlow b h
    · exact bk.callee.low (hmine b h)
  · intro j r' k₁ h1 h2
    by_cases e : j = j₀
    · subst e
      rw [hj.1] at h1; rw [hj.2] at h2
      cases h1; cases h2
      refine hb _ (fun hfl b h => ?_) hO2
      rcases hO2 b h with h | h | h
      · exact .inr (bk.sub hfl b (.inl h))
      · exact .inr (bk.sub hfl b (.inr h))
      · exact .inl h
    · obtain ⟨g1, g2⟩ := hold j r' k₁ e h1 h2
      exact (bk.caller.blk j r' k₁ g1 g2).turn tcl hext (fun _ _ => rfl)
  · intro i j r₁ k₁ r₂ k₂ b h1 h2 h3 h4 h5 h6
    by_cases e1 : i = j₀ <;> by_cases e2 : j = j₀
    · omega
    · subst e1
      rw [hj.1] at h1; rw [hj.2] at h2
      cases h1; cases h2
      obtain ⟨g1, g2⟩ := hold j r₂ k₂ e2 h4 h5
      exact absurd (hmine b ((hlive b).1 h3)) (hdisj b ⟨j, r₂, k₂, g1, g2, h6⟩)
    · subst e2
      rw [hj.1] at h4; rw [hj.2] at h5
      cases h4; cases h5
      obtain ⟨g1, g2⟩ := hold i r₁ k₁ e1 h1 h2
      exact absurd (hmine b ((hlive b).1 h6)) (hdisj b ⟨i, r₁, k₁, g1, g2, h3⟩)
    · obtain ⟨g1, g2⟩ := hold i r₁ k₁ e1 h1 h2
      obtain ⟨g3, g4⟩ := hold j r₂ k₂ e2 h4 h5
      exact bk.caller.inj i j r₁ k₁ r₂ k₂ b g1 g2 h3 g3 g4 h6
  · rintro b hb (h | h)
    · rcases hown b hb with g | g
      · exact bk.caller.dis b g (.inl h)
      · exact (bk.disj b (hmine b g)).2 h
    · rcases hown b hb with g | g
      · exact hdisj b g (hownc b h).1
      · exact (hownc b h).2 g
  · rintro b (h | h)
    · exact bk.caller.xlow b (.inl h)
    · exact bk.callee.low (hownc b h).1
  · rintro b h
    obtain ⟨h1, h2⟩ := hownc b h
    obtain ⟨h3, h4⟩ := bk.disj b h1
    exact ⟨fun h5 => (hown b h5).elim h3 h2, h4⟩
  · rintro hfl b (h | h)
    · rcases hown b h with h | h
      · exact .inl (bk.sub hfl b (.inl h))
      · exact .inr h
    · exact .inl (bk.sub hfl b (.inr h))
  · intro i r₁ k₁ b h1 h2 h3 hn
    by_cases e : i = j₀
    · subst e
      rw [hj.1] at h1; rw [hj.2] at h2
      cases h1; cases h2
      exact .inr (bk.provc b (hmine b ((hlive b).1 h3)) hn)
    · obtain ⟨g1, g2⟩ := hold i r₁ k₁ e h1 h2
      exact bk.prov i r₁ k₁ b g1 g2 h3 hn
  · exact fun b h hn => bk.provc b (hownc b h).1 hn

end Go.Proofs.Ytmenplonaapliaa.AE
end
section
set_option linter.unusedVariables false
set_option linter.unusedSimpArgs false
namespace Go.Proofs.Ytmenplonaapliaa.AE
open Go Go.RowKit
variable {W₀ : World}

/-- The joint state on the way back. -/
structure Joint (fl : Bool) (E : Nat → Nat → Prop) (D : Own) (n₀ : Nat) (Xc X : XO W₀) (w : World) (m : List Nat) (ρc : List RB) (σc : List Blk) (ρ : List RB) (σ : List Blk) (vals : List AV1) (us : List Value) (vs : List AV1) (dn : List Value) : Prop where
  back : Back fl E D n₀ Xc X w ρc σc ρ σ
  left : AV1sR (OX Xc ρc σc) w ρc vals us
  done : AV1sR (OX (XC X ρc σc) ρ σ) w ρ vs dn
  same : ∀ (i j : Nat), m[i]? = some j → ∃ r, ρc[i]? = some r ∧ ρ[j]? = some r
  dead : ∀ (i j : Nat) k, m[i]? = some j → σc[i]? = some k → k ≠ .dead → σ[j]? = some .dead
  nd : m.Nodup

theorem AV1sR.snoc {O : Own} {w : World} {ρ : List RB} {cs : List AV1} {vs : List Value} {c : AV1} {v : Value} (hs : AV1sR O w ρ cs vs) (h : AV1R O w ρ c v) : AV1sR O w ρ (cs ++ [c]) (vs ++ [v]) := by
  refine ⟨by simp [hs.1], fun i c' v' hc hv => ?_⟩
  rcases app_get hc with g | ⟨g, e⟩
  · rcases app_get hv with q | ⟨q, e'⟩
    · exact hs.2 i c' v' g q
    · have := get_lt g; have := hs.1; omega
  · rcases app_get hv with q | ⟨q, e'⟩
    · have := get_lt q; have := hs.1; omega
    · subst e; subst e'; exact h

theorem noref1 {O : Own} {w : World} {ρ ρ' : List RB} {e : Sh} {x : den e} {c : Sc} {u : Value} (hi : inj e x = [c]) (h : ScR O w ρ c u) : ScR O w ρ' c u := by
  have : ScsR O w ρ (inj e x) [u] := by rw [hi]; exact .cons h ⟨rfl, by simp⟩
  have := ScR.noref (ρ' := ρ') this
  rw [hi] at this
  exact this.2 0 _ _ rfl rfl

theorem flat1 {O O' : Own} {w w' : World} {ρ ρ' : List RB} {e : Sh} {x : den e} {c : Sc} {u : Value} (hi : inj e x = [c]) (hf : e.flat = true) (h : ScR O w ρ c u) : ScR O' w' ρ' c u := by
  obtain ⟨v, rfl⟩ := flat_val hf 0 c (by rw [hi]; rfl)
  cases h; exact .val _

section
variable {fl : Bool} {E : Nat → Nat → Prop} {D : Own} {n₀ : Nat} {Xc X : XO W₀} {w : World} {m : List Nat} {ρc ρ : List RB} {σc σ : List Blk} {vals vs : List AV1} {us dn : List Value}

theorem Joint.frz (J : Joint fl E D n₀ Xc X w m ρc σc ρ σ vals us vs dn) {σc' : List Blk} (f : Frz Xc w ρc σc σc') : Joint fl E D n₀ Xc X w m ρc σc' ρ σ vals us vs dn := by
  obtain ⟨b, t⟩ := J.back.frz f
  refine ⟨b, J.left.turn f.turn (Ext.refl _), J.done.turn t (Ext.refl _), J.same, fun i j k h1 h2 h3 => ?_, J.nd⟩
  have hlt : i < σc.length := by have := get_lt h2; rw [f.len] at this; exact this
  refine J.dead i j _ h1 (List.getElem?_eq_getElem hlt) (fun h0 => ?_)
  rcases f.old i _ (List.getElem?_eq_getElem hlt) with g | ⟨e, l, g1, g2⟩
  · rw [h2] at g; cases g; exact h3 h0
  · rw [g1] at h0; cases h0

/-- A row of the called one's, under a new number. -/
theorem Joint.new (J : Joint fl E D n₀ Xc X w m ρc σc ρ σ vals us vs dn) {id : Nat} {r q : RB} {k k' : Blk} (hr : ρc[id]? = some r) (hk : σc[id]? = some k) (hlive : ∀ b, Live q k' b ↔ Live r k b) (hb : ∀ O, (fl = false → ∀ b, O b → OX Xc ρc σc b) → (∀ b, O b → OX (XC X ρc σc) ρ σ b) → BlkR O w (ρ ++ [q]) q k') :
    Joint fl E D n₀ (XP Xc (Live r k)) X w m ρc (σc.set id .dead) (ρ ++ [q]) (σ ++ [k']) vals us vs dn := by
  have hl := J.back.caller.len
  obtain ⟨b, t1, t2⟩ := J.back.hand (j₀ := σ.length) (ρ' := ρ ++ [q]) (σ' := σ ++ [k']) hr hk hlive (Ext.app _ _) (by simp [hl]) ⟨by rw [List.getElem?_append_right (by omega), hl]; simp, by simp⟩
    (fun j r₁ k₁ hj h1 h2 => by
      rcases app_get h1 with g1 | ⟨g1, e1⟩
      · rcases app_get h2 with g2 | ⟨g2, e2⟩
        · exact ⟨g1, g2⟩
        · exact absurd g2 hj
      · omega)
    (fun j r₁ k₁ b h1 h2 h3 => by have := get_lt h2; omega) hb
  refine ⟨b, J.left.turn t2 (Ext.refl _), J.done.turn t1 (Ext.app _ _), fun i j h => ?_, fun i j k₁ h1 h2 h3 => ?_, J.nd⟩
  · obtain ⟨r', g1, g2⟩ := J.same i j h
    exact ⟨r', g1, Ext.app _ _ _ _ g2⟩
  · have h4 : σc[i]? = some k₁ := by
      by_cases e : id = i
      · subst e
        rw [List.getElem?_set_self (get_lt hk)] at h2; cases h2; exact absurd rfl h3
      · rw [List.getElem?_set_ne e] at h2; exact h2
    have := J.dead i j k₁ h1 h4 h3
    rw [List.getElem?_append_left (get_lt this)]; exact this

/-- A row that was handed in, under its old number again. -/
theorem Joint.old (J : Joint fl E D n₀ Xc X w m ρc σc ρ σ vals us vs dn) {i j : Nat} {r : RB} {k k' : Blk} (hm : m[i]? = some j) (hr : ρc[i]? = some r) (hk : σc[i]? = some k) (hkd : k ≠ .dead) (hlive : ∀ b, Live r k' b ↔ Live r k b) (hb : ∀ O, (fl = false → ∀ b, O b → OX Xc ρc σc b) → (∀ b, O b → OX (XC X ρc σc) ρ σ b) → BlkR O w ρ r k') :
    Joint fl E D n₀ (XP Xc (Live r k)) X w m ρc (σc.set i .dead) ρ (σ.set j k') vals us vs dn := by
  have hl := J.back.caller.len
  have hdead := J.dead i j k hm hk hkd
  have hlt := get_lt hdead
  obtain ⟨r', g1, g2⟩ := J.same i j hm
  rw [hr] at g1; cases g1
  obtain ⟨b, t1, t2⟩ := J.back.hand (j₀ := j) (ρ' := ρ) (σ' := σ.set j k') hr hk hlive (Ext.refl _) (by simp [hl]) ⟨g2, List.getElem?_set_self hlt⟩
    (fun j' r₁ k₁ hj h1 h2 => ⟨h1, by rw [List.getElem?_set_ne (fun e => hj e.symm)] at h2; exact h2⟩)
    (fun j' r₁ k₁ b h1 h2 h3 e => by subst e; rw [hdead] at h2; cases h2; cases h3) hb
  refine ⟨b, J.left.turn t2 (Ext.refl _), J.done.turn t1 (Ext.refl _), J.same, fun i' j' k₁ h1 h2 h3 => ?_, J.nd⟩
  have hne : i ≠ i' := by
    intro e; subst e
    rw [List.getElem?_set_self (get_lt hk)] at h2; cases h2; exact h3 rfl
  rw [List.getElem?_set_ne hne] at h2
  have := J.dead i' j' k₁ h1 h2 h3
  have hnj : j ≠ j' := by
    intro e; subst e
    exact hne ((List.getElem?_inj (get_lt hm) J.nd).1 (hm.trans h1.symm))
  rw [List.getElem?_set_ne hnj]; exact this

theorem live_same {r : RB} {e : Sh} {l : List (den e)} (b : Nat) : Live r (.elems e l) b ↔ Live r (.elems e l) b := Iff.rfl

theorem live_cells {r : RB} {T T' : TypeId} {cs cs' : List Sc} (b : Nat) : Live r (.cells T cs) b ↔ Live r (.cells T' cs') b := by
  constructor <;> intro h <;> cases h <;> exact .cells

theorem elems_less {O O' : Own} {w : World} {ρ ρ' : List RB} {r : RB} {e : Sh} {l : List (den e)} (h : BlkR O w ρ r (.elems e l)) (hO : ∀ b, O' b → O b) : BlkR O' w ρ' r (.elems e l) := by
  cases h with
  | @elems b len cap _ _ hl hc h =>
    refine .elems hl hc ?_
    cases b with
    | none => exact h
    | some b =>
      obtain ⟨h0, vs, T, fr, h1, h2, h3, h4⟩ := h
      exact ⟨fun e => by simp at e, vs, T, fr, h1, h2, h3, fun i x hi => (h4 i x hi).turn (.less w hO)⟩

theorem elems_inv {O : Own} {w : World} {ρ : List RB} {r : RB} {e : Sh} {l : List (den e)} (h : BlkR O w ρ r (.elems e l)) : ∃ b len cap, r = .s b len cap e.size ∧ len = l.length ∧ len ≤ cap ∧ RowR O w b cap e l true := by
  cases h with
  | elems hl hc h => exact ⟨_, _, _, rfl, hl, hc, h⟩

theorem frz_cells {σc' : List Blk} (f : Frz Xc w ρc σc σc') {id : Nat} {T : TypeId} {cs : List Sc} (h : σc[id]? = some (.cells T cs)) : σc'[id]? = some (.cells T cs) := by
  rcases f.old id _ h with g | ⟨e, l, g, _⟩
  · exact g
  · cases g

theorem sc_ok {s : Sh} (hflat : fl = true → s.flat = true) {x : den s} {vals' : List AV1} {σc' : List Blk} {vs' : List AV1} {σ' : List Blk} (J : Joint fl E D n₀ Xc X w m ρc σc ρ σ vals us vs dn) (hp : projSc s vals σc = some (x, vals', σc')) (hr : reconSc s x vs σ = some (vs', σ')) :
    ∃ Xc' ρ' us' dn', Joint fl E D n₀ Xc' X w m ρc σc' ρ' σ' vals' us' vs' dn' ∧ Ext ρ ρ' ∧ dn' ++ us' = dn ++ us := by
  cases vals with
  | nil => simp [projSc] at hp
  | cons v vals =>
    cases v with
    | agg cs => simp [projSc] at hp
    | sc c =>
      obtain ⟨u, us', rfl, hu, hus⟩ := J.left.tail
      simp only [projSc] at hp
      split at hp
      · rename_i x' σ₁ h1
        cases hp
        cases hu with
        | sc hu =>
        obtain ⟨f, hs⟩ := projAll_inj (vs := [u]) J.back.callee (ScsR.cons hu ⟨rfl, by simp⟩) h1
        simp only [reconSc] at hr
        split at hr
        · rename_i c' hi
          cases hr
          have J' := J.frz f
          refine ⟨Xc, ρ, us', dn ++ [u], ⟨J'.back, hus.turn f.turn (Ext.refl _), J'.done.snoc (.sc ?_), J'.same, J'.dead, J'.nd⟩, Ext.refl _, by simp⟩
          cases hfl : fl with
          | true =>
            rw [hi] at hs
            exact flat1 hi (hflat hfl) (hs.2 0 _ _ rfl rfl)
          | false =>
            rw [hi] at hs
            exact (noref1 hi (hs.2 0 _ _ rfl rfl)).turn (J'.back.turn hfl) (Ext.refl _)
        · cases hr
      · cases hp

theorem own_ok {e : Sh} (hfl : fl = false) {x : List (den e)} {vals' : List AV1} {σc' : List Blk} {vs' : List AV1} {σ' : List Blk} (J : Joint fl E D n₀ Xc X w m ρc σc ρ σ vals us vs dn) (hp : projOwn e vals σc = some (x, vals', σc')) (hr : reconOwn e x vs σ = (vs', σ')) :
    ∃ Xc' ρ' us' dn', Joint fl E D n₀ Xc' X w m ρc σc' ρ' σ' vals' us' vs' dn' ∧ Ext ρ ρ' ∧ dn' ++ us' = dn ++ us := by
  cases vals with
  | nil => simp [projOwn] at hp
  | cons v vals =>
    cases v with
    | agg cs => simp [projOwn] at hp
    | sc c =>
      obtain ⟨u, us', rfl, hu, hus⟩ := J.left.tail
      simp only [projOwn] at hp
      simp only [reconOwn] at hr
      cases hr
      split at hp
      · cases hp
        have := hu.val_eq
        subst this
        obtain ⟨s, hn⟩ := nil_row J.back.caller e
        have ownup : ∀ b, owns (ρ ++ [.s none 0 0 e.size]) (σ ++ [.elems e []]) b → owns ρ σ b := by
          rintro b ⟨j, r', k₁, h1, h2, h3⟩
          rcases app_get h1 with g1 | ⟨g1, e1⟩ <;> rcases app_get h2 with g2 | ⟨g2, e2⟩
          · exact ⟨j, r', k₁, g1, g2, h3⟩
          · have := get_lt g1; have := J.back.caller.len; omega
          · have := get_lt g2; have := J.back.caller.len; omega
          · subst e1; cases h3
        refine ⟨Xc, _, us', dn ++ [.slice none 0 0], ⟨⟨J.back.callee, s.mem, fun b h => ⟨fun h' => (J.back.disj b h).1 (ownup b h'), (J.back.disj b h).2⟩, fun hfl b h => J.back.sub hfl b (h.imp (ownup b) (fun x => x)), fun i r k b h1 h2 h3 hn' => ?_, J.back.provc⟩, hus, (J.done.turn s.turn s.ext).snoc (.sc (hn none)), fun i j h => ?_, fun i j k h1 h2 h3 => ?_, J.nd⟩, s.ext, by simp⟩
        · rcases app_get h1 with g1 | ⟨g1, e1⟩ <;> rcases app_get h2 with g2 | ⟨g2, e2⟩
          · exact J.back.prov i r k b g1 g2 h3 hn'
          · have := get_lt g1; have := J.back.caller.len; omega
          · have := get_lt g2; have := J.back.caller.len; omega
          · subst e1; cases h3
        · obtain ⟨r', g1, g2⟩ := J.same i j h
          exact ⟨r', g1, s.ext _ _ g2⟩
        · have := J.dead i j k h1 h2 h3
          rw [List.getElem?_append_left (get_lt this)]; exact this
      · rename_i id v
        rw [getAt_eq] at hp
        split at hp
        · rename_i e' l hk
          split at hp
          · rename_i he; subst he
            obtain ⟨r, hr⟩ := J.back.callee.rho hk
            have hbk := J.back.callee.blk id r _ hr hk
            have hx := fun (z : RB) => (show (ρ ++ [z])[σ.length]? = some z by rw [List.getElem?_append_right (by rw [J.back.caller.len]; exact Nat.le_refl _), J.back.caller.len]; simp)
            split at hp
            · cases hp
              have J' := J.new hr hk (fun b => live_same b) (fun O hO _ => elems_less hbk (hO hfl))
              rw [setAt_eq]
              refine ⟨_, _, us', dn ++ [u], ⟨J'.back, ?_, J'.done.snoc (.sc ?_), J'.same, J'.dead, J'.nd⟩, Ext.app _ _, by simp⟩
              · obtain ⟨_, _, h', _, h3⟩ := J'.left.tail; simp at h'; obtain ⟨rfl, rfl⟩ := h'; exact h3
              · cases hu with
                | sc hu =>
                  cases hu with
                  | own ho hA =>
                    rw [hr] at ho; cases ho
                    exact .own (hx _) hA
            · rename_i hi
              cases hp
              cases hu with
              | sc hu =>
                cases hu with
                | @view _ len cap sz lo _ c b A ho h1 h2 hA hcc =>
                  have hbk' := hbk
                  cases hbk' with
                  | elems hlt _ _ =>
                  rw [hr] at ho; cases ho
                  have J' := J.new (q := .s b hi c e'.size) (k' := .elems e' (l.take hi)) hr hk (fun b => by constructor <;> intro h <;> cases h <;> exact .elems) (fun O hO _ => by
                    have := elems_less (ρ' := ρ ++ [.s b hi c e'.size]) hbk (hO hfl)
                    obtain ⟨_, _, _, e1, hl, hc, h⟩ := elems_inv this
                    cases e1
                    · refine .elems (by rw [List.length_take]; omega) (by omega) ?_
                      cases b with
                      | none => have : cap = 0 := h; show c = 0; omega
                      | some b =>
                        obtain ⟨g0, vs, T, fr, g1, g2, g3, g4⟩ := h
                        refine ⟨g0, vs, T, fr, g1, Nat.le_trans (Nat.mul_le_mul_right _ (by omega)) g2, g3, fun i x hi => g4 i x ?_⟩
                        rw [List.getElem?_take] at hi
                        split at hi
                        · exact hi
                        · cases hi)
                  rw [setAt_eq]
                  refine ⟨_, _, us', dn ++ [_], ⟨J'.back, ?_, J'.done.snoc (.sc (show ScR _ _ _ (.own σ.length none) (.slice A (hi - 0) c) from .own (b := b) (hx _) ?_)), J'.same, J'.dead, J'.nd⟩, Ext.app _ _, by simp⟩
                  · obtain ⟨_, _, h', _, h3⟩ := J'.left.tail; simp at h'; obtain ⟨rfl, rfl⟩ := h'; exact h3
                  · intro z hz
                    have := hA z hz (.inl rfl)
                    rw [Nat.zero_mul] at this
                    exact this
            · cases hp
          · cases hp
        · cases hp
      · cases hp

theorem map_ok {e : Sh} (hfl : fl = false) {x : List (den e)} {vals' : List AV1} {σc' : List Blk} {vs' : List AV1} {σ' : List Blk} (J : Joint fl E D n₀ Xc X w m ρc σc ρ σ vals us vs dn) (hp : projMap e vals σc = some (x, vals', σc')) (hr : reconMap e x vs σ = some (vs', σ')) :
    ∃ Xc' ρ' us' dn', Joint fl E D n₀ Xc' X w m ρc σc' ρ' σ' vals' us' vs' dn' ∧ Ext ρ ρ' ∧ dn' ++ us' = dn ++ us := by
  unfold projMap at hp
  split at hp
  · rename_i id rest
    obtain ⟨u, us', rfl, hu, hus⟩ := J.left.tail
    rw [getAt_eq] at hp
    split at hp
    · rename_i k v es hk
      split at hp
      · rename_i he; subst he
        cases hp
        simp only [reconMap, Option.some.injEq, Prod.mk.injEq] at hr
        obtain ⟨rfl, rfl⟩ := hr
        obtain ⟨r, hr⟩ := J.back.callee.rho hk
        have hbk := J.back.callee.blk id r _ hr hk
        cases hu with
        | sc hu =>
        cases hu with
        | @mref _ b ho =>
          rw [hr] at ho; cases ho
          have J' := J.new (q := .c b) (k' := .mp k v es) hr hk (fun b => by constructor <;> intro h <;> cases h <;> exact .mp) (fun O _ _ => by
            cases hbk with
            | mp h he => exact .mp h he)
          rw [setAt_eq]
          refine ⟨_, _, us', dn ++ [.map (some b)], ⟨J'.back, ?_, J'.done.snoc (.sc (.mref ?_)), J'.same, J'.dead, J'.nd⟩, Ext.app _ _, by simp⟩
          · obtain ⟨_, _, h', _, h3⟩ := J'.left.tail; simp at h'; obtain ⟨rfl, rfl⟩ := h'; exact h3
          · rw [List.getElem?_append_right (by rw [J.back.caller.len]; exact Nat.le_refl _), J.back.caller.len]; simp
      · cases hp
    · cases hp
  · cases hp

theorem keep_ok {e : Sh} {j : Nat} (hfl : fl = false) {x : List (den e)} {vals' : List AV1} {σc' : List Blk} {vs' : List AV1} {σ' : List Blk} (J : Joint fl E D n₀ Xc X w m ρc σc ρ σ vals us vs dn) (hp : projKeep e j vals σc = some (x, vals', σc')) (hr : reconKeep m e j x vs σ = some (vs', σ')) :
    ∃ Xc' ρ' us' dn', Joint fl E D n₀ Xc' X w m ρc σc' ρ' σ' vals' us' vs' dn' ∧ Ext ρ ρ' ∧ dn' ++ us' = dn ++ us := by
  unfold projKeep at hp
  split at hp
  · rename_i id rest
    obtain ⟨u, us', rfl, hu, hus⟩ := J.left.tail
    split at hp
    · rename_i hid
      obtain rfl := Nat.eq_of_beq_eq_true hid
      rw [getAt_eq] at hp
      split at hp
      · rename_i e' l hk
        split at hp
        · rename_i he; subst he
          cases hp
          unfold reconKeep at hr
          rw [getAt_eq] at hr
          split at hr
          · rename_i i hm
            simp only [Option.some.injEq, Prod.mk.injEq] at hr
            obtain ⟨rfl, rfl⟩ := hr
            obtain ⟨r, hr⟩ := J.back.callee.rho hk
            have hbk := J.back.callee.blk id r _ hr hk
            have J' := J.old hm hr hk (by simp) (fun b => live_same b) (fun O hO _ => elems_less hbk (hO hfl))
            obtain ⟨r', q1, q2⟩ := J.same id i hm
            rw [hr] at q1; cases q1
            rw [setAt_eq, setAt_eq]
            cases hu with
            | sc hu =>
            cases hu with
            | own ho hA =>
              rw [hr] at ho; cases ho
              refine ⟨_, ρ, us', dn ++ [_], ⟨J'.back, ?_, J'.done.snoc (.sc (.own q2 hA)), J'.same, J'.dead, J'.nd⟩, Ext.refl _, by simp⟩
              obtain ⟨_, _, h', _, h3⟩ := J'.left.tail; simp at h'; obtain ⟨rfl, rfl⟩ := h'; exact h3
          · cases hr
        · cases hp
      · cases hp
    · cases hp
  · cases hp

/-- Cell by cell. -/
theorem cellsO_ok {ow : List Nat} (how : fl = true → ow = []) : ∀ {e : Sh} {p : Nat} {x : den e} {Xc : XO W₀} {ρ : List RB} {σc σ σc' σ' : List Blk} {vals vals' vs vs' : List AV1} {us dn : List Value}, (fl = true → e.flat = true) → Joint fl E D n₀ Xc X w m ρc σc ρ σ vals us vs dn → projO ow e p vals σc = some (x, vals', σc') → reconO m ow e p x vs σ = some (vs', σ') →
    ∃ Xc' ρ' us' dn', Joint fl E D n₀ Xc' X w m ρc σc' ρ' σ' vals' us' vs' dn' ∧ Ext ρ ρ' ∧ dn' ++ us' = dn ++ us
  | .int k, _, _, _, _, _, _, _, _, _, _, _, _, _, _, hf, J, hp, hr => sc_ok hf J hp hr
  | .bool, _, _, _, _, _, _, _, _, _, _, _, _, _, _, hf, J, hp, hr => sc_ok hf J hp hr
  | .str, _, _, _, _, _, _, _, _, _, _, _, _, _, _, hf, J, hp, hr => sc_ok hf J hp hr
  | .list e, p, x, Xc, ρ, σc, σ, σc', σ', vals, vals', vs, vs', us, dn, hf, J, hp, hr => by
    simp only [projO] at hp
    simp only [reconO] at hr
    split at hp
    · rename_i hc
      rw [hc] at hr
      cases hfl : fl with
      | true => rw [how hfl] at hc; simp at hc
      | false =>
        simp only [Option.some.injEq] at hr
        subst hfl
        exact own_ok rfl J hp hr
    · rename_i hc
      rw [hc] at hr
      split at hp
      · rename_i hc2
        simp only [hc2] at hr
        cases hfl : fl with
        | true => rw [how hfl] at hc2; simp at hc2
        | false =>
          subst hfl
          exact map_ok rfl J hp hr
      · rename_i hc2
        simp only [hc2] at hr
        split at hp
        · rename_i j hk
          simp only [hk] at hr
          cases hfl : fl with
          | true => rw [how hfl] at hk; simp [keepOf] at hk
          | false =>
            subst hfl
            exact keep_ok rfl J hp hr
        · rename_i hk
          simp only [hk] at hr
          exact sc_ok hf J hp hr
  | .prod a b, p, x, Xc, ρ, σc, σ, σc', σ', vals, vals', vs, vs', us, dn, hf, J, hp, hr => by
    simp only [projO] at hp
    simp only [reconO] at hr
    split at hp
    · rename_i y r₁ σ₁ h1
      split at hp
      · rename_i z r₂ σ₂ h2
        cases hp
        split at hr
        · rename_i vs₁ σ₃ h3
          have hfa : fl = true → a.flat = true ∧ b.flat = true := fun h => by have := hf h; simpa [Sh.flat] using this
          obtain ⟨X1, ρ1, us1, dn1, J1, e1, q1⟩ := cellsO_ok how (fun h => (hfa h).1) J h1 h3
          obtain ⟨X2, ρ2, us2, dn2, J2, e2, q2⟩ := cellsO_ok how (fun h => (hfa h).2) J1 h2 hr
          exact ⟨X2, ρ2, us2, dn2, J2, e1.trans e2, q2.trans q1⟩
        · cases hr
      · cases hp
    · cases hp

theorem projSc_app {s : Sh} {vs r rest : List AV1} {σ σ' : List Blk} {x : den s} (h : projSc s vs σ = some (x, rest, σ')) : projSc s (vs ++ r) σ = some (x, rest ++ r, σ') := by
  cases vs with
  | nil => simp [projSc] at h
  | cons v vs =>
    cases v with
    | agg => simp [projSc] at h
    | sc c =>
      simp only [projSc, List.cons_append] at h ⊢
      split at h
      · cases h; rfl
      · cases h

theorem projOwn_app {s : Sh} {vs r rest : List AV1} {σ σ' : List Blk} {x : List (den s)} (h : projOwn s vs σ = some (x, rest, σ')) : projOwn s (vs ++ r) σ = some (x, rest ++ r, σ') := by
  cases vs with
  | nil => simp [projOwn] at h
  | cons v vs =>
    cases v with
    | agg => simp [projOwn] at h
    | sc c =>
      simp only [projOwn, List.cons_append] at h ⊢
      split at h
      · cases h; rfl
      · rename_i id v
        split at h
        · rename_i e' l hk
          split at h
          · rename_i he; subst he
            split at h
            · cases h; simp
            · cases h; simp
            · cases h
          · cases h
        · cases h
      · cases h

theorem projMap_app {s : Sh} {vs r rest : List AV1} {σ σ' : List Blk} {x : List (den s)} (h : projMap s vs σ = some (x, rest, σ')) : projMap s (vs ++ r) σ = some (x, rest ++ r, σ') := by
  unfold projMap at h
  split at h
  · rename_i id r'
    simp only [projMap, List.cons_append]
    split at h
    · rename_i hk
      split at h
      · rename_i he; subst he
        cases h
        simp
      · cases h
    · cases h
  · cases h

theorem projKeep_app {s : Sh} {j : Nat} {vs r rest : List AV1} {σ σ' : List Blk} {x : List (den s)} (h : projKeep s j vs σ = some (x, rest, σ')) : projKeep s j (vs ++ r) σ = some (x, rest ++ r, σ') := by
  unfold projKeep at h
  split at h
  · rename_i id r'
    simp only [projKeep, List.cons_append]
    split at h
    · rename_i hid
      split at h
      · rename_i hk
        split at h
        · rename_i he; subst he
          cases h
          simp
        · cases h
      · cases h
    · cases h
  · cases h

theorem projO_app {ow : List Nat} : ∀ {e : Sh} {p : Nat} {vs r rest : List AV1} {σ σ' : List Blk} {x : den e}, projO ow e p vs σ = some (x, rest, σ') → projO ow e p (vs ++ r) σ = some (x, rest ++ r, σ')
  | .int k, _, _, _, _, _, _, _, h => projSc_app h
  | .bool, _, _, _, _, _, _, _, h => projSc_app h
  | .str, _, _, _, _, _, _, _, h => projSc_app h
  | .list e, p, vs, r, rest, σ, σ', x, h => by
    simp only [projO] at h ⊢
    split at h
    · exact projOwn_app h
    · split at h
      · exact projMap_app h
      · split at h
        · exact projKeep_app h
        · exact projSc_app h
  | .prod a b, p, vs, r, rest, σ, σ', x, h => by
    simp only [projO] at h ⊢
    split at h
    · rename_i h1
      split at h
      · rename_i h2
        cases h
        rw [projO_app h1]
        dsimp only
        rw [projO_app h2]
      · cases h
    · cases h

/-- Variables stay what they are. -/
def Keeps (σ σ' : List Blk) : Prop := ∀ (id : Nat) T cs, σ[id]? = some (.cells T cs) → σ'[id]? = some (.cells T cs)

theorem Keeps.refl (σ : List Blk) : Keeps σ σ := fun _ _ _ h => h
theorem Keeps.set {σ : List Blk} {i : Nat} {e : Sh} {l : List (den e)} {k : Blk} (h : σ[i]? = some (.elems e l)) : Keeps σ (σ.set i k) := fun id T cs hc => by
  by_cases e : i = id
  · subst e; rw [h] at hc; cases hc
  · rw [List.getElem?_set_ne e]; exact hc

theorem asList_keeps {e : Sh} {c : Sc} {σ σ' : List Blk} {l : List (den e)} (h : asList e c σ = some (l, σ')) : Keeps σ σ' := by
  unfold asList at h
  split at h
  · split at h
    · cases h; exact .refl _
    · cases h
  · cases h; exact .refl _
  · rw [getAt_eq] at h
    split at h
    · rename_i hk
      split at h
      · rename_i he; subst he
        cases h; rw [setAt_eq]; exact .set hk
      · cases h
    · split at h
      · cases h; exact .refl _
      · cases h
    · cases h
  · cases h

theorem proj_keeps : ∀ {e : Sh} {cs r : List Sc} {σ σ' : List Blk} {x : den e}, proj e cs σ = some (x, r, σ') → Keeps σ σ'
  | .prod a b, cs, r, σ, σ', x, h => by
    simp only [proj] at h
    split at h
    · rename_i h1
      split at h
      · rename_i h2
        cases h
        exact fun id T c hc => proj_keeps h2 id T c (proj_keeps h1 id T c hc)
      · cases h
    · cases h
  | .list e, [], r, σ, σ', x, h => by simp [proj] at h
  | .list e, c :: cs, r, σ, σ', x, h => by
    simp only [proj] at h
    split at h
    · rename_i h1
      cases h
      exact asList_keeps h1
    · cases h
  | .int k, [], r, σ, σ', x, h => by simp [proj] at h
  | .int k, c :: cs, r, σ, σ', x, h => by
    simp only [proj] at h
    split at h
    · split at h
      · cases h; exact .refl _
      · cases h
    · cases h
  | .bool, [], r, σ, σ', x, h => by simp [proj] at h
  | .bool, c :: cs, r, σ, σ', x, h => by
    simp only [proj] at h
    split at h
    · cases h; exact .refl _
    · cases h
  | .str, [], r, σ, σ', x, h => by simp [proj] at h
  | .str, c :: cs, r, σ, σ', x, h => by
    simp only [proj] at h
    split at h
    · cases h; exact .refl _
    · cases h

theorem projSc_keeps {s : Sh} {vs r : List AV1} {σ σ' : List Blk} {x : den s} (h : projSc s vs σ = some (x, r, σ')) : Keeps σ σ' := by
  unfold projSc at h
  split at h
  · split at h
    · rename_i h1
      cases h
      unfold projAll at h1
      split at h1
      · rename_i h2
        cases h1
        exact proj_keeps h2
      · cases h1
    · cases h
  · cases h

theorem projOwn_keeps {s : Sh} {vs r : List AV1} {σ σ' : List Blk} {x : List (den s)} (h : projOwn s vs σ = some (x, r, σ')) : Keeps σ σ' := by
  unfold projOwn at h
  split at h
  · split at h
    · cases h; exact .refl _
    · rw [getAt_eq] at h
      split at h
      · rename_i hk
        split at h
        · rename_i he; subst he
          split at h
          · cases h; rw [setAt_eq]; exact .set hk
          · cases h; rw [setAt_eq]; exact .set hk
          · cases h
        · cases h
      · cases h
    · cases h
  · cases h

theorem projMap_keeps {s : Sh} {vs r : List AV1} {σ σ' : List Blk} {x : List (den s)} (h : projMap s vs σ = some (x, r, σ')) : Keeps σ σ' := by
  unfold projMap at h
  split at h
  · rename_i id rest
    rw [getAt_eq] at h
    split at h
    · rename_i k v es hk
      split at h
      · rename_i he; subst he
        cases h
        rw [setAt_eq]
        intro i T cs hc
        by_cases e : id = i
        · subst e; rw [hk] at hc; cases hc
        · rw [List.getElem?_set_ne e]; exact hc
      · cases h
    · cases h
  · cases h

theorem projKeep_keeps {s : Sh} {j : Nat} {vs r : List AV1} {σ σ' : List Blk} {x : List (den s)} (h : projKeep s j vs σ = some (x, r, σ')) : Keeps σ σ' := by
  unfold projKeep at h
  split at h
  · split at h
    · rw [getAt_eq] at h
      split at h
      · rename_i hk
        split at h
        · rename_i he; subst he
          cases h; rw [setAt_eq]; exact .set hk
        · cases h
      · cases h
    · cases h
  · cases h

theorem projO_cells {ow : List Nat} : ∀ {e : Sh} {p : Nat} {vs rest : List AV1} {σ σ' : List Blk} {x : den e}, projO ow e p vs σ = some (x, rest, σ') → Keeps σ σ'
  | .int k, _, _, _, _, _, _, h => projSc_keeps h
  | .bool, _, _, _, _, _, _, h => projSc_keeps h
  | .str, _, _, _, _, _, _, h => projSc_keeps h
  | .list e, _, _, _, _, _, _, h => by
    simp only [projO] at h
    split at h
    · exact projOwn_keeps h
    · split at h
      · exact projMap_keeps h
      · split at h
        · exact projKeep_keeps h
        · exact projSc_keeps h
  | .prod a b, _, _, _, σ, _, _, h => by
    simp only [projO] at h
    split at h
    · rename_i h1
      split at h
      · rename_i h2
        cases h
        exact fun id T c hc => projO_cells h2 id T c (projO_cells h1 id T c hc)
      · cases h
    · cases h

theorem reconSc_form {s : Sh} {x : den s} {vs vs' : List AV1} {σ σ' : List Blk} (h : reconSc s x vs σ = some (vs', σ')) : ∃ cs : List Sc, vs' = vs ++ cs.map .sc ∧ cs.length = s.size := by
  unfold reconSc at h
  split at h
  · rename_i c hi
    cases h
    exact ⟨[c], rfl, by rw [← inj_len s x, hi]⟩
  · cases h

theorem reconMap_form {e : Sh} {x : List (den e)} {vs vs' : List AV1} {σ σ' : List Blk} (h : reconMap e x vs σ = some (vs', σ')) : ∃ cs : List Sc, vs' = vs ++ cs.map .sc ∧ cs.length = 1 := by
  unfold reconMap at h
  split at h
  · cases h; exact ⟨[_], rfl, rfl⟩
  · cases h

theorem reconMap_app {e : Sh} {x : List (den e)} {vs vs' r : List AV1} {σ σ' : List Blk} (h : reconMap e x vs σ = some (vs', σ')) : reconMap e x (r ++ vs) σ = some (r ++ vs', σ') := by
  cases e with
  | prod k v => simp only [reconMap, Option.some.injEq, Prod.mk.injEq] at h ⊢; obtain ⟨rfl, rfl⟩ := h; simp
  | _ => simp [reconMap] at h

theorem reconKeep_form {m : List Nat} {e : Sh} {j : Nat} {x : List (den e)} {vs vs' : List AV1} {σ σ' : List Blk} (h : reconKeep m e j x vs σ = some (vs', σ')) : ∃ cs : List Sc, vs' = vs ++ cs.map .sc ∧ cs.length = 1 := by
  unfold reconKeep at h
  split at h
  · cases h; exact ⟨[_], rfl, rfl⟩
  · cases h

theorem reconKeep_app {m : List Nat} {e : Sh} {j : Nat} {x : List (den e)} {vs vs' r : List AV1} {σ σ' : List Blk} (h : reconKeep m e j x vs σ = some (vs', σ')) : reconKeep m e j x (r ++ vs) σ = some (r ++ vs', σ') := by
  unfold reconKeep at h ⊢
  split at h
  · simp only [Option.some.injEq, Prod.mk.injEq] at h ⊢; obtain ⟨rfl, rfl⟩ := h; simp
  · cases h

theorem reconO_form {m ow : List Nat} : ∀ {e : Sh} {p : Nat} {x : den e} {vs vs' : List AV1} {σ σ' : List Blk}, reconO m ow e p x vs σ = some (vs', σ') → ∃ cs : List Sc, vs' = vs ++ cs.map .sc ∧ cs.length = e.size
  | .int k, _, _, _, _, _, _, h => reconSc_form h
  | .bool, _, _, _, _, _, _, h => reconSc_form h
  | .str, _, _, _, _, _, _, h => reconSc_form h
  | .list e, p, x, vs, vs', σ, σ', h => by
    simp only [reconO] at h
    split at h
    · cases h; exact ⟨[_], rfl, rfl⟩
    · split at h
      · exact reconMap_form h
      · split at h
        · exact reconKeep_form h
        · exact reconSc_form h
  | .prod a b, p, x, vs, vs', σ, σ', h => by
    simp only [reconO] at h
    split at h
    · rename_i h1
      obtain ⟨c1, rfl, l1⟩ := reconO_form h1
      obtain ⟨c2, rfl, l2⟩ := reconO_form h
      exact ⟨c1 ++ c2, by simp, by simp [Sh.size, l1, l2]⟩
    · cases h

theorem reconSc_app {s : Sh} {x : den s} {vs vs' r : List AV1} {σ σ' : List Blk} (h : reconSc s x vs σ = some (vs', σ')) : reconSc s x (r ++ vs) σ = some (r ++ vs', σ') := by
  unfold reconSc at h ⊢
  split at h
  · cases h; simp
  · cases h

theorem reconO_app {m ow : List Nat} : ∀ {e : Sh} {p : Nat} {x : den e} {vs vs' r : List AV1} {σ σ' : List Blk}, reconO m ow e p x vs σ = some (vs', σ') → reconO m ow e p x (r ++ vs) σ = some (r ++ vs', σ')
  | .int k, _, _, _, _, _, _, _, h => reconSc_app h
  | .bool, _, _, _, _, _, _, _, h => reconSc_app h
  | .str, _, _, _, _, _, _, _, h => reconSc_app h
  | .list e, p, x, vs, vs', r, σ, σ', h => by
    simp only [reconO] at h ⊢
    split at h
    · cases h; simp [reconOwn]
    · split at h
      · exact reconMap_app h
      · split at h
        · exact reconKeep_app h
        · exact reconSc_app h
  | .prod a b, p, x, vs, vs', r, σ, σ', h => by
    simp only [reconO] at h ⊢
    split at h
    · rename_i h1
      rw [reconO_app h1]
      exact reconO_app h
    · cases h

theorem scsOf_map : ∀ cs : List Sc, scsOf (cs.map .sc) = cs
  | [] => rfl
  | c :: r => by simp [scsOf, scsOf_map r]

theorem scs_av1s {O : Own} {ρ : List RB} : ∀ {cs : List Sc} {us : List Value}, ScsR O w ρ cs us → AV1sR O w ρ (cs.map .sc) us
  | [], us, h => by
    have : us = [] := List.length_eq_zero_iff.1 h.1.symm
    subst this; exact ⟨rfl, by simp⟩
  | c :: r, us, h => by
    obtain ⟨u, us', rfl, h1, h2⟩ := h.tail
    exact .cons (.sc h1) (scs_av1s h2)

theorem av1s_scs {O : Own} {ρ : List RB} : ∀ {cs : List Sc} {us : List Value}, AV1sR O w ρ (cs.map .sc) us → ScsR O w ρ cs us
  | [], us, h => by
    have : us = [] := List.length_eq_zero_iff.1 h.1.symm
    subst this; exact ⟨rfl, by simp⟩
  | c :: r, us, h => by
    obtain ⟨u, us', rfl, h1, h2⟩ := AV1sR.tail h
    cases h1 with
    | sc h1 => exact .cons h1 (av1s_scs h2)

theorem AV1sR.app {O : Own} {ρ : List RB} : ∀ {a b : List AV1} {x y : List Value}, AV1sR O w ρ a x → AV1sR O w ρ b y → AV1sR O w ρ (a ++ b) (x ++ y)
  | [], b, x, y, h, g => by
    have : x = [] := List.length_eq_zero_iff.1 h.1.symm
    subst this; exact g
  | c :: r, b, x, y, h, g => by
    obtain ⟨u, us', rfl, h1, h2⟩ := AV1sR.tail h
    exact .cons h1 (AV1sR.app h2 g)

theorem AV1sR.parts {O : Own} {ρ : List RB} : ∀ {a b : List AV1} {x y : List Value}, AV1sR O w ρ (a ++ b) (x ++ y) → a.length = x.length → AV1sR O w ρ a x ∧ AV1sR O w ρ b y
  | [], b, x, y, h, e => by
    have : x = [] := List.length_eq_zero_iff.1 e.symm
    subst this; exact ⟨⟨rfl, by simp⟩, h⟩
  | c :: r, b, x, y, h, e => by
    cases x with
    | nil => simp at e
    | cons u x =>
      obtain ⟨u', us', h0, h1, h2⟩ := AV1sR.tail h
      simp only [List.cons_append, List.cons.injEq] at h0
      obtain ⟨rfl, rfl⟩ := h0
      obtain ⟨g1, g2⟩ := AV1sR.parts h2 (by simpa using e)
      exact ⟨.cons h1 g1, g2⟩

/-- The cells of something, one by one, ahead of what is left. -/
theorem group_ok {ow : List Nat} {s : Sh} (how : fl = true → ow = []) (hf : fl = true → s.flat = true) {x : den s} {cs : List Sc} {ws : List Value} {σc' σ' : List Blk} {cs' : List AV1} (J : Joint fl E D n₀ Xc X w m ρc σc ρ σ vals us vs dn) (hcs : ScsR (OX Xc ρc σc) w ρc cs ws) (hp : projO ow s 0 (cs.map .sc) σc = some (x, [], σc')) (hr : reconO m ow s 0 x [] σ = some (cs', σ')) :
    ∃ Xc' ρ', Joint fl E D n₀ Xc' X w m ρc σc' ρ' σ' vals us vs dn ∧ Ext ρ ρ' ∧ ScsR (OX (XC X ρc σc') ρ' σ') w ρ' (scsOf cs') ws := by
  have J0 : Joint fl E D n₀ Xc X w m ρc σc ρ σ (cs.map .sc ++ vals) (ws ++ us) vs dn := ⟨J.back, (scs_av1s hcs).app J.left, J.done, J.same, J.dead, J.nd⟩
  obtain ⟨X1, ρ1, us1, dn1, J1, e1, q1⟩ := cellsO_ok how hf J0 (projO_app (r := vals) hp) (by have := reconO_app (r := vs) hr; rw [List.append_nil] at this; exact this)
  obtain ⟨c2, hc2, l2⟩ := reconO_form hr
  rw [List.nil_append] at hc2
  subst hc2
  have hl1 : us1.length = us.length := by
    have h1 := J1.left.1
    have h2 := J.left.1
    simp only [List.nil_append] at h1
    omega
  have hq : dn1 = dn ++ ws ∧ us1 = us := by
    rw [← List.append_assoc] at q1
    exact List.append_inj' q1 hl1
  obtain ⟨rfl, rfl⟩ := hq
  have hd := J1.done
  obtain ⟨d1, d2⟩ := hd.parts J.done.1
  rw [scsOf_map]
  exact ⟨X1, ρ1, ⟨J1.back, by simpa using J1.left, d1, J1.same, J1.dead, J1.nd⟩, e1, av1s_scs d2⟩

theorem item_ok {it : It} (hflat : fl = true → it.flat = true) {x : it.den} {vals' : List AV1} {σc' : List Blk} {old : List Blk} {vs' : List AV1} {σ' : List Blk} (J : Joint fl E D n₀ Xc X w m ρc σc ρ σ vals us vs dn) (hp : projIt it vals σc = some (x, vals', σc')) (hr : reconIt m old it x vs σ = some (vs', σ')) :
    ∃ Xc' ρ' us' dn', Joint fl E D n₀ Xc' X w m ρc σc' ρ' σ' vals' us' vs' dn' ∧ Ext ρ ρ' ∧ dn' ++ us' = dn ++ us := by
  cases it with
  | sc s => exact sc_ok (fun h => hflat h) J hp hr
  | ifc =>
    have hfl : fl = false := by cases h : fl with | false => rfl | true => simpa [It.flat] using hflat h
    simp only [projIt] at hp
    split at hp
    · cases hp
      obtain ⟨u, us', rfl, hu, hus⟩ := J.left.tail
      simp only [reconIt] at hr
      cases hr
      refine ⟨Xc, ρ, us', dn ++ [u], ⟨J.back, hus, J.done.snoc ?_, J.same, J.dead, J.nd⟩, Ext.refl _, by simp⟩
      cases hu with
      | sc hu =>
        cases hu with
        | nilI => exact .sc .nilI
        | ifc te p => exact .sc (.ifc te p)
    · cases hp
  | nilp =>
    have hfl : fl = false := by cases h : fl with | false => rfl | true => simpa [It.flat] using hflat h
    simp only [projIt] at hp
    split at hp
    · cases hp
      obtain ⟨u, us', rfl, hu, hus⟩ := J.left.tail
      simp only [reconIt] at hr
      cases hr
      refine ⟨Xc, ρ, us', dn ++ [u], ⟨J.back, hus, J.done.snoc ?_, J.same, J.dead, J.nd⟩, Ext.refl _, by simp⟩
      cases hu with
      | sc hu => cases hu with | val => exact .sc (.val _)
    · cases hp
  | own e =>
    have hfl : fl = false := by cases h : fl with | false => rfl | true => simpa [It.flat] using hflat h
    simp only [reconIt, Option.some.injEq] at hr
    exact own_ok hfl J hp hr
  | agg s ow =>
    have hfo : fl = true → s.flat = true ∧ ow = [] := fun h => by have := hflat h; simpa [It.flat] using this
    cases vals with
    | nil => simp [projIt] at hp
    | cons v vals =>
      cases v with
      | sc c => simp [projIt] at hp
      | agg cs =>
        obtain ⟨u, us', rfl, hu, hus⟩ := J.left.tail
        simp only [projIt] at hp
        split at hp
        · rename_i x' σ₁ h1
          cases hp
          cases hu with
          | agg hu =>
          simp only [reconIt] at hr
          split at hr
          · rename_i cs' σ₂ h2
            cases hr
            obtain ⟨X1, ρ1, J1, e1, g1⟩ := group_ok (fun h => (hfo h).2) (fun h => (hfo h).1) ⟨J.back, hus, J.done, J.same, J.dead, J.nd⟩ hu h1 h2
            exact ⟨X1, ρ1, us', _, ⟨J1.back, J1.left, J1.done.snoc (.agg g1), J1.same, J1.dead, J1.nd⟩, e1, by simp⟩
          · cases hr
        · cases hp
  | ptr T s ow =>
    have hfl : fl = false := by cases h : fl with | false => rfl | true => simpa [It.flat] using hflat h
    cases vals with
    | nil => simp [projIt] at hp
    | cons v vals =>
      simp only [projIt] at hp
      split at hp
      · rename_i id r hv
        cases hv
        obtain ⟨u, us', rfl, hu, hus⟩ := J.left.tail
        rw [getAt_eq] at hp
        split at hp
        · rename_i T' cs hk
          split at hp
          · split at hp
            · rename_i x' σ₁ h1
              cases hp
              cases hu with
              | sc hu =>
              cases hu with
              | @ref _ _ b hrb =>
                have hbk := J.back.callee.blk id _ _ hrb hk
                cases hbk with
                | @cells _ _ _ _ ws fr hh hun hcs =>
                  simp only [reconIt] at hr
                  split at hr
                  · rename_i cs' σ₂ h2
                    cases hr
                    have hk1 := projO_cells h1 _ _ _ hk
                    obtain ⟨X1, ρ1, J1, e1, g1⟩ := group_ok (fun h => by rw [hfl] at h; cases h) (fun h => by rw [hfl] at h; cases h) ⟨J.back, hus, J.done, J.same, J.dead, J.nd⟩ hcs h1 h2
                    have J' := J1.new hrb hk1 (k' := .cells T (scsOf cs')) (fun b => live_cells b) (fun O _ hO => .cells hh hun (g1.turn (.less w hO) (Ext.app _ _)))
                    rw [setAt_eq]
                    refine ⟨_, _, us', dn ++ [.pointer (some ⟨b, 0, none⟩)], ⟨J'.back, J'.left, J'.done.snoc (.sc (.ref ?_)), J'.same, J'.dead, J'.nd⟩, e1.trans (Ext.app _ _), by simp⟩
                    rw [List.getElem?_append_right (by rw [J1.back.caller.len]; exact Nat.le_refl _), J1.back.caller.len]; simp
                  · cases hr
            · cases hp
          · cases hp
        · cases hp
      · cases hp
  | parm i off =>
    simp only [projIt] at hp
    split at hp
    · rename_i id o r
      obtain ⟨u, us', rfl, hu, hus⟩ := J.left.tail
      simp only [reconIt] at hr
      rw [getAt_eq] at hr
      split at hp
      · rename_i he
        simp only [Bool.and_eq_true, beq_iff_eq] at he
        obtain ⟨rfl, rfl⟩ := he
        cases hp
        split at hr
        · rename_i j hm
          cases hr
          cases hu with
          | sc hu =>
          cases hu with
          | @ref _ _ b hrb =>
            obtain ⟨r', g1, g2⟩ := J.same _ _ hm
            rw [hrb] at g1; cases g1
            exact ⟨Xc, ρ, us', _, ⟨J.back, hus, J.done.snoc (.sc (.ref g2)), J.same, J.dead, J.nd⟩, Ext.refl _, by simp⟩
        · cases hr
      · cases hp
    · cases hp
  | cells i s ow =>
    have hfo : fl = true → s.flat = true ∧ ow = [] := fun h => by have := hflat h; simpa [It.flat] using this
    simp only [projIt] at hp
    rw [getAt_eq] at hp
    split at hp
    · rename_i T' cs hk
      split at hp
      · rename_i x' σ₁ h1
        cases hp
        simp only [reconIt] at hr
        rw [getAt_eq] at hr
        split at hr
        · rename_i j hm
          rw [getAt_eq] at hr
          split at hr
          · rename_i T cs₀ ho
            split at hr
            · rename_i cs' σ₂ h2
              cases hr
              obtain ⟨r, hrb⟩ := J.back.callee.rho hk
              have hbk := J.back.callee.blk i r _ hrb hk
              cases hbk with
              | @cells _ _ _ _ ws fr hh hun hcs =>
                have hk1 := projO_cells h1 _ _ _ hk
                obtain ⟨X1, ρ1, J1, e1, g1⟩ := group_ok (fun h => (hfo h).2) (fun h => (hfo h).1) J hcs h1 h2
                have J' := J1.old hm hrb hk1 (by simp) (k' := .cells T (scsOf cs')) (fun b => live_cells b) (fun O _ hO => .cells hh hun (g1.turn (.less w hO) (Ext.refl _)))
                rw [setAt_eq, setAt_eq]
                exact ⟨_, ρ1, us, dn, J', e1, rfl⟩
            · cases hr
          · cases hr
        · cases hr
      · cases hp
    · cases hp
  | elems i e =>
    have hfl : fl = false := by cases h : fl with | false => rfl | true => simpa [It.flat] using hflat h
    simp only [projIt] at hp
    rw [getAt_eq] at hp
    split at hp
    · rename_i e' l hk
      split at hp
      · rename_i he; subst he
        cases hp
        simp only [reconIt] at hr
        rw [getAt_eq] at hr
        split at hr
        · rename_i j hm
          cases hr
          obtain ⟨r, hr⟩ := J.back.callee.rho hk
          have hbk := J.back.callee.blk i r _ hr hk
          have J' := J.old hm hr hk (by simp) (fun b => live_same b) (fun O hO _ => elems_less hbk (hO hfl))
          rw [setAt_eq, setAt_eq]
          exact ⟨_, ρ, us, dn, J', Ext.refl _, rfl⟩
        · cases hr
      · cases hp
    · cases hp

theorem items_ok : ∀ {l : List It} {x : PD l} {old : List Blk} {vs vs' : List AV1} {σ σ' : List Blk} {Xc : XO W₀} {σc : List Blk} {ρ : List RB} {vals : List AV1} {us dn : List Value}, (fl = true → l.all It.flat = true) → Joint fl E D n₀ Xc X w m ρc σc ρ σ vals us vs dn → projIts l vals σc = some x → reconIts m old l x vs σ = some (vs', σ') →
    ∃ Xc' σc' ρ', Joint fl E D n₀ Xc' X w m ρc σc' ρ' σ' [] [] vs' (dn ++ us) ∧ Ext ρ ρ'
  | [], x, old, vs, vs', σ, σ', Xc, σc, ρ, vals, us, dn, hfl, J, hp, hr => by
    cases vals with
    | cons => simp [projIts] at hp
    | nil =>
      have hus : us = [] := List.length_eq_zero_iff.1 J.left.1.symm
      subst hus
      simp only [reconIts] at hr
      cases hr
      exact ⟨Xc, σc, ρ, by simpa using J, Ext.refl _⟩
  | [a], x, old, vs, vs', σ, σ', Xc, σc, ρ, vals, us, dn, hfl, J, hp, hr => by
    simp only [projIts] at hp
    split at hp
    · rename_i y σ₁ h1
      cases hp
      simp only [reconIts] at hr
      obtain ⟨Xc', ρ', us', dn', J', e1, e2⟩ := item_ok (fun h => by have := hfl h; simp at this; exact this) J h1 hr
      have hus : us' = [] := List.length_eq_zero_iff.1 J'.left.1.symm
      subst hus
      rw [List.append_nil] at e2
      subst e2
      exact ⟨Xc', _, ρ', J', e1⟩
    · cases hp
  | a :: b :: l, x, old, vs, vs', σ, σ', Xc, σc, ρ, vals, us, dn, hfl, J, hp, hr => by
    simp only [projIts] at hp
    split at hp
    · rename_i y vals' σ₁ h1
      split at hp
      · rename_i z h2
        cases hp
        simp only [reconIts] at hr
        split at hr
        · rename_i vs₁ σ₂ h3
          obtain ⟨Xc', ρ', us', dn', J', e1, e2⟩ := item_ok (fun h => by have := hfl h; simp only [List.all_cons, Bool.and_eq_true] at this; exact this.1) J h1 h3
          obtain ⟨Xc'', σc'', ρ'', J'', e3⟩ := items_ok (fun h => by have := hfl h; rw [List.all_cons, Bool.and_eq_true] at this; exact this.2) J' h2 hr
          rw [e2] at J''
          exact ⟨Xc'', σc'', ρ'', J'', e1.trans e3⟩
        · cases hr
      · cases hp
    · cases hp

end

end Go.Proofs.Ytmenplonaapliaa.AE
end
section
set_option linter.unusedVariables false
set_option linter.unusedSimpArgs false
namespace Go.Proofs.Ytmenplonaapliaa.AE
open Go Go.RowKit
variable {W₀ : World}

theorem deadAll_eq : ∀ (m : List Nat) (σ : List Blk), (deadAll m σ).length = σ.length ∧ (∀ (j : Nat), j ∉ m → (deadAll m σ)[j]? = σ[j]?) ∧ ∀ j, j ∈ m → j < σ.length → (deadAll m σ)[j]? = some .dead
  | [], σ => ⟨rfl, fun _ _ => rfl, fun j h => by simp at h⟩
  | i :: m, σ => by
    simp only [deadAll, setAt_eq]
    obtain ⟨h1, h2, h3⟩ := deadAll_eq m (σ.set i .dead)
    refine ⟨by simpa using h1, fun j hj => ?_, fun j hj hlt => ?_⟩
    · simp only [List.mem_cons, not_or] at hj
      rw [h2 j hj.2, List.getElem?_set_ne (fun e => hj.1 e.symm)]
    · by_cases e : j ∈ m
      · exact h3 j e (by simpa using hlt)
      · rw [h2 j e]
        have : j = i := by simpa [e] using hj
        subst this
        exact List.getElem?_set_self hlt

/-- What a function gives: 't', of blocks that are settled into it. -/
def Gave (s : Sig) (X : XO W₀) (w : World) (ρ : List RB) (σ : List Blk) (t : PD s.its) (v : Value) (w' : World) : Prop :=
  ∃ ρ' σ' vals us, Step X w ρ σ w' ρ' σ' (fun _ => True) ∧ projIts s.its vals σ' = some t ∧ AV1sR (OX X ρ' σ') w' ρ' vals us ∧ (if s.tup then v = .tuple us.toArray else us = [v])

/-- What is said of all functions, at so many rounds. -/
def Good (W₀ : World) (P : Program) (sg : FuncId → Sig) (callF : (f : FuncId) → List AV1 → List Blk → Option (PD (sg f).its)) : Prop :=
  ∀ f args σ t, callF f args σ = some t → ∀ (X : XO W₀) (w : World) (ρ : List RB) (vs : Array Value), Mem X w ρ σ → AV1sR (OX X ρ σ) w ρ args vs.toList →
    Calls P f vs w fun e w' => ∃ v, e = .returned v ∧ Gave (sg f) X w ρ σ t v w'

section
variable {R : Type} {r : R} {X : XO W₀} {w : World} {ρ : List RB}

theorem callK_ok {C : Ctx} (hg : Good W₀ C.P C.sg C.callF) {f : FuncId} {args : List AV1} {σ₀ : List Blk} {k : AV → List Blk → Option R} (h : callK C f args σ₀ k = some r) (m : Mem X w ρ σ₀) {us : Array Value} (ha : AV1sR (OX X ρ σ₀) w ρ args us.toList) {T : Nat → Prop}
    (hT : ∀ args' σ₁, coerceArgs (C.sg f).ps args σ₀ = some (args', σ₁) → ∀ id, id ∈ closeIds σ₁ 40 0 (idsAV1s args' []) → T id) :
    Calls C.P f us w fun e w' => ∃ v av ρ' σ', e = .returned v ∧ k av σ' = some r ∧ AVR (OX X ρ' σ') w' ρ' av v ∧ Step X w ρ σ₀ w' ρ' σ' T := by
  unfold callK at h
  split at h
  · cases h
  · rename_i args' σ₁ hc
    have hT := hT args' σ₁ hc
    generalize closeIds σ₁ 40 0 (idsAV1s args' []) = l at h hT
    obtain ⟨ρ₁, s₁, ha', hlen, hsame, hold⟩ := coerceArgs_ok m ha hc
    split at h
    · rename_i ass bs has hbs
      rw [Option.bind_eq_some_iff] at h
      obtain ⟨t, ht, h⟩ := h
      -- the called one's view
      obtain ⟨mc, tc⟩ := pick_mem s₁.mem hbs (X' := fun b => OX X ρ₁ σ₁ b ∧ ¬ owns (pickR ρ₁ l) bs b) (fun b h => h.1) (fun b h hx => hx.2 h)
      have hargs := (renAV1s_ok ha' has).turn tc (Ext.refl _)
      refine (hg f ass bs t ht _ w _ us mc hargs).mono fun e w' he => ?_
      obtain ⟨v, rfl, ρc, σc, vals, vs, sc, hp, hvals, hv⟩ := he
      -- the caller's blocks, without what was handed in
      have ownbs : ∀ b, owns (pickR ρ₁ l) bs b → ∃ (i : Nat) (r : RB) (k : Blk), i ∈ l ∧ ρ₁[i]? = some r ∧ σ₁[i]? = some k ∧ Live r k b := fun b hb => by
        obtain ⟨j, i, r, k, g1, g2, g3, g4⟩ := pick_own s₁.mem hbs hb
        exact ⟨i, r, k, List.mem_of_getElem? g1, g2, g3, g4⟩
      obtain ⟨base, hbase, hbl, mb, tb, hback, hown0, hold0⟩ : ∃ base, baseOf (isFlat C f σ₀ σ₁) σ₀ σ₁ = base ∧ base.length = σ₁.length ∧ Mem X w ρ₁ base ∧ Turn (OX X ρ σ₀) w (OX X ρ₁ base) w ∧
          (∀ (i : Nat) r k b, ρ₁[i]? = some r → σ₁[i]? = some k → Live r k b → base[i]? = some k) ∧ (isFlat C f σ₀ σ₁ = false → base = σ₁) ∧ (∀ (i : Nat) r k b, ρ₁[i]? = some r → base[i]? = some k → Live r k b → ρ[i]? = some r ∧ σ₀[i]? = some k) := by
        cases hfl : isFlat C f σ₀ σ₁ with
        | true =>
          simp only [isFlat, Bool.and_eq_true] at hfl
          have hl : σ₁.length = σ₀.length := Nat.eq_of_beq_eq_true hfl.2
          obtain ⟨rfl, fz⟩ := hsame hl
          exact ⟨σ₀, rfl, hl.symm, m, .refl _ _, fun i r k b _ h2 h3 => fz.back h2 h3, fun h => by simp at h, fun _ _ _ _ h1 h2 _ => ⟨h1, h2⟩⟩
        | false => exact ⟨σ₁, rfl, rfl, s₁.mem, s₁.turn, fun _ _ _ _ _ h _ => h, fun _ => rfl, hold⟩
      rw [hbase] at h
      obtain ⟨d1, d2, d3⟩ := deadAll_eq l base
      have ownd : ∀ b, owns ρ₁ (deadAll l base) b → ∃ (i : Nat) (r : RB) (k : Blk), i ∉ l ∧ ρ₁[i]? = some r ∧ base[i]? = some k ∧ Live r k b := by
        rintro b ⟨i, r, k, g1, g2, g3⟩
        by_cases hi : i ∈ l
        · rw [d3 i hi (by have := get_lt g2; omega)] at g2; cases g2; cases g3
        · rw [d2 i hi] at g2; exact ⟨i, r, k, hi, g1, g2, g3⟩
      have ownbase : ∀ b, owns (pickR ρ₁ l) bs b → ∃ (i : Nat) (r : RB) (k : Blk), i ∈ l ∧ ρ₁[i]? = some r ∧ base[i]? = some k ∧ Live r k b := fun b hb => by
        obtain ⟨i, r, k, g1, g2, g3, g4⟩ := ownbs b hb
        exact ⟨i, r, k, g1, g2, hback i r k b g2 g3 g4, g4⟩
      have apart : ∀ b, owns ρ₁ (deadAll l base) b → ¬ owns (pickR ρ₁ l) bs b := fun b h1 h2 => by
        obtain ⟨i, r, k, g0, g1, g2, g3⟩ := ownd b h1
        obtain ⟨i', r', k', q0, q1, q2, q3⟩ := ownbase b h2
        have := mb.inj i i' r k r' k' b g1 g2 g3 q1 q2 q3
        subst this; exact g0 q0
      have stay : ∀ b, b < w.heap.size → ¬ owns (pickR ρ₁ l) bs b → w'.heap[b]? = w.heap[b]? := fun b hb h => sc.same b hb (fun id r k g1 g2 g3 _ => h ⟨id, r, k, g1, g2, g3⟩)
      have tcl : Turn (OX X ρ₁ base) w (OX (XC X ρc σc) ρ₁ (deadAll l base)) w' := ⟨fun b hb h => by
        rcases h with h | h | h
        · obtain ⟨i, r, k, _, g1, g2, g3⟩ := ownd b h
          exact .inl ⟨i, r, k, g1, g2, g3⟩
        · exact .inr h
        · obtain ⟨i, r, k, _, g1, g2, g3⟩ := ownbase b (sc.own_back hb h)
          exact .inl ⟨i, r, k, g1, g2, g3⟩, sc.turn.size, fun b hb h => stay b hb (fun ho => by
        obtain ⟨i, r, k, _, g1, g2, g3⟩ := ownbase b ho
        exact h (.inl ⟨i, r, k, g1, g2, g3⟩))⟩
      have mcl : Mem (XC X ρc σc) w' ρ₁ (deadAll l base) := by
        refine ⟨by rw [mb.len, d1], fun i r k g1 g2 => ?_, fun i j r₁ k₁ r₂ k₂ b g1 g2 g3 g4 g5 g6 => ?_, fun b hb hx => ?_, fun b hb => ?_, mb.top.trans tcl⟩
        · by_cases hi : i ∈ l
          · rw [d3 i hi (by have := get_lt g2; omega)] at g2; cases g2; exact .dead _
          · have g2' := g2
            rw [d2 i hi] at g2
            have hbk := mb.blk i r k g1 g2
            exact hbk.turn tcl (Ext.refl _) (fun b hb => stay b (hbk.live hb) (apart b ⟨i, r, k, g1, g2', hb⟩))
        · have up : ∀ {i : Nat} {r₁ : RB} {k₁ : Blk}, (deadAll l base)[i]? = some k₁ → Live r₁ k₁ b → base[i]? = some k₁ := by
            intro i r₁ k₁ g2 g3
            by_cases hi : i ∈ l
            · rw [d3 i hi (by have := get_lt g2; omega)] at g2; cases g2; cases g3
            · rw [d2 i hi] at g2; exact g2
          exact mb.inj i j r₁ k₁ r₂ k₂ b g1 (up g2 g3) g3 g4 (up g5 g6) g6
        · obtain ⟨i, r, k, g0, g1, g2, g3⟩ := ownd b hb
          have hbo : owns ρ₁ base b := ⟨i, r, k, g1, g2, g3⟩
          rcases hx with hx | hx
          · exact mb.dis b hbo hx
          · exact apart b hb (sc.own_back (mb.low hbo) hx)
        · rcases hb with hb | hb
          · exact Nat.lt_of_lt_of_le (mb.xlow b hb) sc.turn.size
          · exact sc.mem.low hb
      have hprov0 : ∀ b, b < w.heap.size → owns ρ₁ base b → owns ρ σ₀ b := fun b hb h => by
        rcases tb.own b hb (.inl h) with g | g
        · exact g
        · exact absurd g (mb.dis b h)
      have bk : Back (isFlat C f σ₀ σ₁) (fun id b => ∃ r k, ρ[id]? = some r ∧ σ₀[id]? = some k ∧ Live r k b) (fun b => ∃ (i : Nat) (r : RB) (k : Blk), ρ[i]? = some r ∧ σ₀[i]? = some k ∧ Live r k b ∧ T i) w.heap.size (fun b => OX X ρ₁ σ₁ b ∧ ¬ owns (pickR ρ₁ l) bs b) X w' ρc σc ρ₁ (deadAll l base) := by
        refine ⟨sc.mem, mcl, fun b hb => ⟨fun h => ?_, fun h => ?_⟩, fun hfl b hh => ?_, fun id r k b h1 h2 h3 hn => ?_, fun b h hn => ?_⟩
        · have := mb.low (by obtain ⟨i, r, k, _, g1, g2, g3⟩ := ownd b h; exact ⟨i, r, k, g1, g2, g3⟩)
          exact apart b h (sc.own_back this hb)
        · have := sc.own_back (m.xlow b h) hb
          obtain ⟨i, r, k, _, g1, g2, g3⟩ := ownbase b this
          exact mb.dis b ⟨i, r, k, g1, g2, g3⟩ h
        · have e := hown0 hfl
          subst e
          rcases hh with hh | hh
          · obtain ⟨i, r, k, g0, g1, g2, g3⟩ := ownd b hh
            exact ⟨.inl ⟨i, r, k, g1, g2, g3⟩, apart b hh⟩
          · refine ⟨.inr hh, fun ho => ?_⟩
            obtain ⟨i, r, k, _, g1, g2, g3⟩ := ownbase b ho
            exact mb.dis b ⟨i, r, k, g1, g2, g3⟩ hh
        · by_cases hi : id ∈ l
          · rw [d3 id hi (by have := get_lt h2; omega)] at h2; cases h2; cases h3
          · rw [d2 id hi] at h2
            obtain ⟨p1, p2⟩ := hold0 id r k b h1 h2 h3
            exact .inl ⟨r, k, p1, p2, h3⟩
        · obtain ⟨i, r, k, q0, q1, q2, q3⟩ := ownbs b (sc.own_back hn h)
          obtain ⟨p1, p2⟩ := hold i r k b q1 q2 q3
          exact ⟨i, r, k, p1, p2, q3, hT i q0⟩
      obtain ⟨g1, g2, g3⟩ := pick_get s₁.mem hbs
      have J : Joint (isFlat C f σ₀ σ₁) (fun id b => ∃ r k, ρ[id]? = some r ∧ σ₀[id]? = some k ∧ Live r k b) (fun b => ∃ (i : Nat) (r : RB) (k : Blk), ρ[i]? = some r ∧ σ₀[i]? = some k ∧ Live r k b ∧ T i) w.heap.size (fun b => OX X ρ₁ σ₁ b ∧ ¬ owns (pickR ρ₁ l) bs b) X w' l ρc σc ρ₁ (deadAll l base) vals vs [] [] := by
        refine ⟨bk, hvals, ⟨rfl, by simp⟩, fun i j hij => ?_, fun i j k hij hk hkd => ?_, g2⟩
        · have hlt : i < bs.length := by rw [g1]; exact get_lt hij
          obtain ⟨j', k', r', q1, q2, q3, q4, q5⟩ := g3 i bs[i] (List.getElem?_eq_getElem hlt)
          rw [hij] at q1; cases q1
          exact ⟨r', sc.ext _ _ q4, q3⟩
        · have hlt : i < bs.length := by rw [g1]; exact get_lt hij
          obtain ⟨j', k', r', q1, q2, q3, q4, q5⟩ := g3 i bs[i] (List.getElem?_eq_getElem hlt)
          rw [hij] at q1; cases q1
          exact d3 j (List.mem_of_getElem? hij) (by have := get_lt q2; omega)
      cases hr : reconIts l σ₁ (C.sg f).its t [] (deadAll l base) with
      | none => rw [hr] at h; cases h
      | some y =>
        obtain ⟨vs', σ'⟩ := y
        rw [hr] at h
        simp only at h
        obtain ⟨Xc', σc', ρ', J', e1⟩ := items_ok (fun hfl => by simp only [isFlat, Bool.and_eq_true] at hfl; exact hfl.1) J hp hr
        obtain ⟨mf, tf⟩ := J'.back.caller.lessX (X := X) (fun b h => .inl h)
        have hdone := J'.done.turn tf (Ext.refl _)
        rw [List.nil_append] at hdone
        have hst : Step X w ρ σ₀ w' ρ' σ' T := by
          have ext : Ext ρ ρ' := s₁.ext.trans e1
          refine ⟨mf, ext, ⟨fun b hb h => ?_, sc.turn.size, fun b hb h => stay b hb (fun ho => ?_)⟩, sc.os, sc.tape, sc.output, fun b hb h => stay b hb (fun ho => ?_), fun id r k b h1 h2 h3 hn => ?_⟩
          · rcases h with h | h
            · obtain ⟨id, r, k, h1, h2, h3⟩ := h
              rcases J'.back.prov id r k b h1 h2 h3 hb with ⟨r', k', q1, q2, q3⟩ | ⟨i, r', k', q1, q2, q3, _⟩
              · exact .inl ⟨id, r', k', q1, q2, q3⟩
              · exact .inl ⟨i, r', k', q1, q2, q3⟩
            · exact .inr h
          · obtain ⟨i, r, k, _, q1, q2, q3⟩ := ownbase b ho
            exact h (.inl (hprov0 b hb ⟨i, r, k, q1, q2, q3⟩))
          · obtain ⟨i, r, k, q0, q1, q2, q3⟩ := ownbs b ho
            obtain ⟨p1, p2⟩ := hold i r k b q1 q2 q3
            exact h i r k p1 p2 q3 (hT i q0)
          · rcases J'.back.prov id r k b h1 h2 h3 hn with ⟨r', k', q1, q2, q3⟩ | ⟨i, r', k', q1, q2, q3, q4⟩
            · exact ⟨id, r', k', q1, q2, q3, .inl rfl⟩
            · exact ⟨i, r', k', q1, q2, q3, .inr q4⟩
        cases htup : (C.sg f).tup with
        | true =>
          rw [htup] at h hv
          simp only [if_true] at hv
          subst hv
          exact ⟨_, _, ρ', σ', rfl, h, .tup hdone, hst⟩
        | false =>
          rw [htup] at h hv
          simp only [Bool.false_eq_true, if_false] at hv
          subst hv
          split at h
          · rename_i h'; cases h'
          · rename_i v' _
            exact ⟨v, _, ρ', σ', rfl, h, .one (hdone.2 0 _ _ rfl rfl), hst⟩
          · cases h
    · cases h

end

end Go.Proofs.Ytmenplonaapliaa.AE
end
section
set_option linter.unusedSectionVars false
set_option linter.unusedVariables false
set_option linter.unusedSimpArgs false
namespace Go.Proofs.Ytmenplonaapliaa.AE
open Go Go.RowKit
variable {W₀ : World}

theorem put_get (a : Act) (d : Tmp) (v : Value) (t : Nat) : (a.put (some d) v).tmps.getD t undef = if d = t ∧ t < a.tmps.size then v else a.tmps.getD t undef := by
  simp only [Act.put, Array.getD_eq_getD_getElem?, Array.getElem?_setIfInBounds]
  by_cases h : d = t
  · subst h
    by_cases h' : d < a.tmps.size
    · simp [h']
    · simp [h']
  · simp [h]

theorem look_cons (i : Nat) (v : AV) (r : List (Nat × AV)) (j : Nat) : look ((i, v) :: r) j = if i = j then v else look r j := by
  simp only [look]
  by_cases h : i = j
  · subst h; simp
  · have : Nat.beq i j = false := by cases hb : Nat.beq i j with
      | false => rfl
      | true => exact absurd (Nat.eq_of_beq_eq_true hb) h
    simp [this, h]

section
variable {X : XO W₀} {O : Own} {w : World} {ρ : List RB} {st : St} {a : Act} {nt : Nat}

theorem any_ok {v : Value} : AVR O w ρ .any v := .one (.sc (.any _))

theorem put_size (a : Act) (d : Option Tmp) (v : Value) : (a.put d v).tmps.size = a.tmps.size := by
  cases d <;> simp [Act.put]

theorem put_defers (a : Act) (d : Option Tmp) (v : Value) : (a.put d v).defers = a.defers := by
  cases d <;> rfl

theorem putE_blks (nt : Nat) (st : St) (d : Option Tmp) (v : AV) : (putE nt st d v).blks = st.blks := by
  unfold putE; split
  · split <;> rfl
  · rfl

theorem putE_ok (he : EnvR O w ρ st.env a) (hs : nt ≤ a.tmps.size) {av : AV} {v : Value} (hv : AVR O w ρ av v) (d : Option Tmp) : EnvR O w ρ (putE nt st d av).env (a.put d v) := by
  intro t
  cases d with
  | none => exact he t
  | some d =>
    rw [put_get]
    simp only [putE]
    split
    · rename_i hb
      have hlt : d < nt := Nat.le_of_ble_eq_true hb
      rw [look_cons]
      by_cases e : d = t
      · subst e; rw [if_pos rfl, if_pos ⟨rfl, Nat.lt_of_lt_of_le hlt hs⟩]; exact hv
      · rw [if_neg e, if_neg (fun h => e h.1)]; exact he t
    · rw [look_cons]
      by_cases e : d = t
      · subst e; rw [if_pos rfl]; exact any_ok
      · rw [if_neg e, if_neg (fun h => e h.1)]; exact he t

theorem know_ok (he : EnvR O w ρ st.env a) {av : AV} {d : Tmp} (hv : AVR O w ρ av (a.tmps.getD d undef)) : EnvR O w ρ (putE nt st (some d) av).env a := by
  intro t
  simp only [putE]
  split
  · rw [look_cons]
    by_cases e : d = t
    · subst e; rw [if_pos rfl]; exact hv
    · rw [if_neg e]; exact he t
  · rw [look_cons]
    by_cases e : d = t
    · subst e; rw [if_pos rfl]; exact any_ok
    · rw [if_neg e]; exact he t

theorem EnvR.turn {O' : Own} {w' : World} {ρ' : List RB} {env : List (Nat × AV)} (h : EnvR O w ρ env a) (t : Turn O w O' w') (x : Ext ρ ρ') : EnvR O' w' ρ' env a := fun i => (h i).turn t x

end

/-- What stands behind something that has been done. -/
def Then {R : Type} (nt : Nat) (X : XO W₀) (w : World) (ρ : List RB) (σ : List Blk) (T : Nat → Prop) (k : St → Option R) (r : R) (a' : Act) (w' : World) : Prop :=
  ∃ st' ρ', k st' = some r ∧ Step X w ρ σ w' ρ' st'.blks T ∧ EnvR (OX X ρ' st'.blks) w' ρ' st'.env a' ∧ a'.defers = [] ∧ nt ≤ a'.tmps.size

section
variable {R : Type} [DecidableEq R] {r : R} {X : XO W₀} {w : World} {ρ : List RB} {st : St} {a : Act}

theorem then_value {nt : Nat} (henv : EnvR (OX X ρ st.blks) w ρ st.env a) (hd : a.defers = []) (hn : nt ≤ a.tmps.size) {T : Nat → Prop} {k : St → Option R} {av : AV} {v : Value} {w' : World} {ρ' : List RB} {σ' : List Blk} {dst : Option Tmp}
    (hk : k (putE nt ⟨st.env, σ'⟩ dst av) = some r) (hv : AVR (OX X ρ' σ') w' ρ' av v) (s : Step X w ρ st.blks w' ρ' σ' T) : Then nt X w ρ st.blks T k r (a.put dst v) w' := by
  have he : EnvR (OX X ρ' σ') w' ρ' (⟨st.env, σ'⟩ : St).env a := henv.turn s.turn s.ext
  refine ⟨_, ρ', hk, ?_, ?_, by rw [put_defers]; exact hd, by rw [put_size]; exact hn⟩
  · rw [putE_blks]; exact s
  · rw [putE_blks]; exact putE_ok he hn hv dst

theorem Does.wp {P : Program} {o : Oper} {nt : Nat} {T : Nat → Prop} {k : St → Option R} {Q : Exit → Act → World → Prop} {next : Act → World → Prop} (henv : EnvR (OX X ρ st.blks) w ρ st.env a) (hd : a.defers = []) (hn : nt ≤ a.tmps.size)
    (h : Does P o a X w ρ st.blks T (fun v σ => k (putE nt ⟨st.env, σ⟩ o.dst v)) r) (hnext : ∀ a' w', Then nt X w ρ st.blks T k r a' w' → next a' w') : o.wp P a w next Q := by
  obtain ⟨av, v, nx, w', ρ', σ', hk, hrun, hnx, hv, s⟩ := h
  unfold Oper.wp
  rw [hrun]
  have := hnext _ _ (then_value (nt := nt) henv hd hn hk hv s)
  rcases hnx with rfl | ⟨rfl, rfl⟩
  · exact this
  · exact this

theorem still (m : Mem X w ρ st.blks) (T : Nat → Prop) : Step X w ρ st.blks w ρ st.blks T :=
  ⟨m, .refl _, .refl _ _, rfl, rfl, rfl, fun _ _ _ => rfl, fun id r k b h1 h2 h3 _ => ⟨id, r, k, h1, h2, h3, .inl rfl⟩⟩

theorem Gives.wp {P : Program} {o : Oper} {nt : Nat} {T : Nat → Prop} {k : St → Option R} {Q : Exit → Act → World → Prop} {next : Act → World → Prop} (m : Mem X w ρ st.blks) (henv : EnvR (OX X ρ st.blks) w ρ st.env a) (hd : a.defers = []) (hn : nt ≤ a.tmps.size)
    (h : Gives P o a (OX X ρ st.blks) w ρ (· = w) (fun v => k (putE nt st o.dst v)) r) (hnext : ∀ a' w', Then nt X w ρ st.blks T k r a' w' → next a' w') : o.wp P a w next Q := by
  obtain ⟨av, v, hk, hv, hrun⟩ := h
  unfold Oper.wp
  rw [hrun w rfl]
  exact hnext _ _ (then_value (nt := nt) (σ' := st.blks) henv hd hn hk hv (still m T))

theorem argsOf_ok {O : Own} : ∀ {avs : List AV} {ass : List AV1} {vs : List Value}, argsOf avs = some ass → avs.length = vs.length → (∀ (i : Nat) x v, avs[i]? = some x → vs[i]? = some v → AVR O w ρ x v) → AV1sR O w ρ ass vs
  | [], ass, vs, h, hl, _ => by
    cases h
    cases vs with
    | nil => exact ⟨rfl, by simp⟩
    | cons _ _ => cases hl
  | .tup _ :: _, ass, vs, h, _, _ => by simp [argsOf] at h
  | .one x :: r, ass, vs, h, hl, hv => by
    cases vs with
    | nil => cases hl
    | cons v vs =>
      simp only [argsOf] at h
      cases hr : argsOf r with
      | none => rw [hr] at h; cases h
      | some l =>
        rw [hr] at h; cases h
        refine .cons ?_ (argsOf_ok hr (by simpa using hl) fun i x v h1 h2 => hv (i + 1) x v (by simpa using h1) (by simpa using h2))
        have := hv 0 _ _ rfl rfl
        cases this with
        | one h => exact h

/-- What a function without a body answers. -/
def OpFn (P : Program) (f : FuncId) (g : List AV1 → Option Value) : Prop :=
  ∀ ass v, g ass = some v → ∀ (O : Own) (w : World) (ρ : List RB) (vs : Array Value), AV1sR O w ρ ass vs.toList → ∀ w', (callFunc f vs).run P w' = .ok (.value v) w'

/-- What is called has a body, or is answered at once. -/
structure Bodied (P : Program) {sg : FuncId → Sig} (callF : (f : FuncId) → List AV1 → List Blk → Option (PD (sg f).its)) : Prop where
  body : ∀ f args σ t, callF f args σ = some t → ∃ fn, P.funcs[f]? = some fn ∧ (fn.name == "runtime.NumGoroutine") = false ∧ fn.body.isNone = false
  op : ∀ f g, (sg f).op = some g → OpFn P f g

theorem callK_call {C : Ctx} {f : FuncId} {args : List AV1} {σ : List Blk} {k : AV → List Blk → Option R} (h : callK C f args σ k = some r) : ∃ ass bs t, C.callF f ass bs = some t := by
  unfold callK at h
  split at h
  · cases h
  · split at h
    · rw [Option.bind_eq_some_iff] at h
      obtain ⟨t, ht, _⟩ := h
      exact ⟨_, _, t, ht⟩
    · cases h

theorem args_ok {c : Call} {caps : List Sc} {ass : List AV1} {vs : List Value} {O : Own} (henv : EnvR O w ρ st.env a) (has : argsOf (c.args.toList.map st.opd) = some ass) (hl : caps.length = vs.length) (hcaps : ∀ (i : Nat) c v, caps[i]? = some c → vs[i]? = some v → ScR O w ρ c v) :
    AV1sR O w ρ (ass ++ caps.map .sc) (c.args.map a.eval ++ vs.toArray).toList := by
    have h1 : AV1sR O w ρ ass (c.args.map a.eval).toList := argsOf_ok has (by simp) fun i x v h1 h2 => opds_ok henv c.args i x v h1 (by simpa using h2)
    refine ⟨by simp [h1.1, hl], fun i y v hy hv => ?_⟩
    simp only [Array.toList_append] at hv
    rcases Nat.lt_or_ge i ass.length with hi | hi
    · rw [List.getElem?_append_left hi] at hy
      rw [List.getElem?_append_left (by rw [← h1.1]; exact hi)] at hv
      exact h1.2 i y v hy hv
    · rw [List.getElem?_append_right hi] at hy
      rw [List.getElem?_append_right (by rw [← h1.1]; exact hi)] at hv
      rw [← h1.1] at hv
      rw [List.getElem?_map] at hy
      cases hcp : caps[i - ass.length]? with
      | none => rw [hcp] at hy; cases hy
      | some cc => rw [hcp] at hy; cases hy; exact .sc (hcaps _ _ _ hcp (by simpa using hv))

/-- A function without a body. -/
theorem op_wp {C : Ctx} (hb : Bodied C.P C.callF) {o : Oper} {c : Call} {x : Operand} (ho : o.op = .call c) (hc : c.callee = .value x) {f : FuncId} {caps : List Sc} {ass : List AV1} {T : Nat → Prop} {k : St → Option R}
    {Q : Exit → Act → World → Prop} {next : Act → World → Prop} (m : Mem X w ρ st.blks) (henv : EnvR (OX X ρ st.blks) w ρ st.env a) (hd : a.defers = []) (hn : C.nt ≤ a.tmps.size)
    (hx : st.opd x = .one (.sc (.fn f caps))) (has : argsOf (c.args.toList.map st.opd) = some ass) {g : List AV1 → Option Value} (hg : (C.sg f).op = some g) {v : Value} (hv : g (ass ++ caps.map .sc) = some v) (h : k (putE C.nt st o.dst (.one (.sc (.val v)))) = some r)
    (hnext : ∀ a' w', Then C.nt X w ρ st.blks T k r a' w' → next a' w') : o.wp C.P a w next Q := by
  have hv' := opd_ok henv x
  rw [hx] at hv'
  generalize hax : a.eval x = ax at hv'
  cases hv' with
  | one hv' => cases hv' with | sc hv' => cases hv' with | @fn _ _ vs hl hcaps =>
    refine Gives.wp m henv hd hn ⟨_, v, h, .one (.sc (.val _)), fun w' _ => ?_⟩ hnext
    have := hb.op f g hg _ _ hv _ _ _ _ (args_ok henv has hl hcaps) w'
    unfold execOp; rw [ho]
    simp [resolve, hc, hax, Deferred.ofValue, invoke]
    exact this

theorem call_wp {C : Ctx} (hg : Good W₀ C.P C.sg C.callF) (hb : Bodied C.P C.callF) {o : Oper} {c : Call} {x : Operand} (ho : o.op = .call c) (hc : c.callee = .value x) {f : FuncId} {caps : List Sc} {ass : List AV1} {T : Nat → Prop} {k : St → Option R}
    {Q : Exit → Act → World → Prop} {next : Act → World → Prop} (m : Mem X w ρ st.blks) (henv : EnvR (OX X ρ st.blks) w ρ st.env a) (hd : a.defers = []) (hn : C.nt ≤ a.tmps.size)
    (hx : st.opd x = .one (.sc (.fn f caps))) (has : argsOf (c.args.toList.map st.opd) = some ass) (h : callK C f (ass ++ caps.map .sc) st.blks (fun v σ => k (putE C.nt ⟨st.env, σ⟩ o.dst v)) = some r)
    (hT : ∀ args' σ₁, coerceArgs (C.sg f).ps (ass ++ caps.map .sc) st.blks = some (args', σ₁) → ∀ id, id ∈ closeIds σ₁ 40 0 (idsAV1s args' []) → T id)
    (hnext : ∀ a' w', Then C.nt X w ρ st.blks T k r a' w' → next a' w') : o.wp C.P a w next Q := by
  obtain ⟨ass', bs, t, ht⟩ := callK_call h
  obtain ⟨fn, hf, hname, hbody⟩ := hb.body f ass' bs t ht
  have hv := opd_ok henv x
  rw [hx] at hv
  generalize hax : a.eval x = ax at hv
  cases hv with
  | one hv => cases hv with | sc hv => cases hv with | @fn _ _ vs hl hcaps =>
    have hrun : (execOp a.eval o).run C.P w = .ok (.enter f (c.args.map a.eval ++ vs.toArray)) w := by
      unfold execOp; rw [ho]
      have hname' : ¬ fn.name = "runtime.NumGoroutine" := by simpa using hname
      have hbody' : ¬ fn.body = none := by intro e; rw [e] at hbody; simp at hbody
      simp [resolve, hc, hax, Deferred.ofValue, invoke, callFunc, hf, hname', hbody']
    unfold Oper.wp
    rw [hrun, Oper.upon_enter]
    have hargs := args_ok henv has hl hcaps
    refine (callK_ok hg h m hargs hT).mono fun e w' he => ?_
    obtain ⟨v, av, ρ', σ', rfl, hk, hv, s⟩ := he
    exact hnext _ _ (then_value (nt := C.nt) henv hd hn hk hv s)

theorem call_wp_bnd {C : Ctx} (hg : Good W₀ C.P C.sg C.callF) (hb : Bodied C.P C.callF) {o : Oper} {c : Call} {x : Operand} (ho : o.op = .call c) (hc : c.callee = .value x) {f : FuncId} {first : List Sc} {ass : List AV1} {T : Nat → Prop} {k : St → Option R}
    {Q : Exit → Act → World → Prop} {next : Act → World → Prop} (m : Mem X w ρ st.blks) (henv : EnvR (OX X ρ st.blks) w ρ st.env a) (hd : a.defers = []) (hn : C.nt ≤ a.tmps.size)
    (hx : st.opd x = .one (.sc (.bnd f first))) (has : argsOf (c.args.toList.map st.opd) = some ass) (h : callK C f (first.map .sc ++ ass) st.blks (fun v σ => k (putE C.nt ⟨st.env, σ⟩ o.dst v)) = some r)
    (hT : ∀ args' σ₁, coerceArgs (C.sg f).ps (first.map .sc ++ ass) st.blks = some (args', σ₁) → ∀ id, id ∈ closeIds σ₁ 40 0 (idsAV1s args' []) → T id)
    (hnext : ∀ a' w', Then C.nt X w ρ st.blks T k r a' w' → next a' w') : o.wp C.P a w next Q := by
  obtain ⟨ass', bs, t, ht⟩ := callK_call h
  obtain ⟨fn, hf, hname, hbody⟩ := hb.body f ass' bs t ht
  have hv := opd_ok henv x
  rw [hx] at hv
  generalize hax : a.eval x = ax at hv
  cases hv with
  | one hv => cases hv with | sc hv => cases hv with | @bnd _ _ vs hl hcaps =>
    have hrun : (execOp a.eval o).run C.P w = .ok (.enter f (vs.toArray ++ c.args.map a.eval)) w := by
      unfold execOp; rw [ho]
      have hname' : ¬ fn.name = "runtime.NumGoroutine" := by simpa using hname
      have hbody' : ¬ fn.body = none := by intro e; rw [e] at hbody; simp at hbody
      simp [resolve, hc, hax, Deferred.ofValue, invoke, callFunc, hf, hname', hbody']
    unfold Oper.wp
    rw [hrun, Oper.upon_enter]
    have hargs : AV1sR (OX X ρ st.blks) w ρ (first.map .sc ++ ass) (vs.toArray ++ c.args.map a.eval).toList := by
      have h1 : AV1sR (OX X ρ st.blks) w ρ ass (c.args.map a.eval).toList := argsOf_ok has (by simp) fun i x v h1 h2 => opds_ok henv c.args i x v h1 (by simpa using h2)
      rw [Array.toList_append]
      exact (scs_av1s ⟨hl, hcaps⟩).app h1
    refine (callK_ok hg h m hargs hT).mono fun e w' he => ?_
    obtain ⟨v, av, ρ', σ', rfl, hk, hv, s⟩ := he
    exact hnext _ _ (then_value (nt := C.nt) henv hd hn hk hv s)

/-- An operation that is carried out. -/
theorem execK_ok {C : Ctx} (hg : Good W₀ C.P C.sg C.callF) (hb : Bodied C.P C.callF) {o : Oper} {k : St → Option R} (h : execK C o st k = some r) {Q : Exit → Act → World → Prop} {next : Act → World → Prop} (m : Mem X w ρ st.blks) (henv : EnvR (OX X ρ st.blks) w ρ st.env a) (hd : a.defers = []) (hn : C.nt ≤ a.tmps.size)
    (hnext : ∀ a' w', Then C.nt X w ρ st.blks (fun id => id ∈ touches C o st) k r a' w' → next a' w') : o.wp C.P a w next Q := by
  have same : ∀ w', w' = w → Same (fun _ => true) ρ st.blks (OX X ρ st.blks) w w' := fun w' e => by
    subst e; exact ⟨Nat.le_refl _, fun _ _ _ => rfl, fun _ _ _ _ _ _ _ _ => rfl⟩
  unfold execK at h
  split at h
  · rename_i h0
    have hT : ∀ id, id ∈ touchesE o st → id ∈ touches C o st := fun id hi => by unfold touches; rw [h0]; exact hi
    split at h
    · split at h
      · exact (eOp_ok m henv h hT).wp henv hd hn hnext
      · exact Gives.wp m henv hd hn (pOp_ok m henv same h) hnext
    · exact Gives.wp m henv hd hn (pOp_ok m henv same h) hnext
  · rename_i h0
    exact (eOp_ok m henv h (fun id hi => by unfold touches; rw [h0]; exact hi)).wp henv hd hn hnext
  · rename_i h0 h1
    split at h
    · rename_i x args tys ho
      split at h
      · rename_i f caps ass hx has
        split at h
        · rename_i g hop
          split at h
          · rename_i v hv; exact op_wp hb ho rfl m henv hd hn hx has hop hv h hnext
          · cases h
        · refine call_wp hg hb ho rfl m henv hd hn hx has h (fun args' σ₁ hc id hi => ?_) hnext
          have hk : kindOf o.op = 2 := by rw [ho]; rfl
          unfold touches
          rw [hk, ho]
          simp only [hx, has, hc]
          exact hi
      · rename_i f first ass hx has
        refine call_wp_bnd hg hb ho rfl m henv hd hn hx has h (fun args' σ₁ hc id hi => ?_) hnext
        have hk : kindOf o.op = 2 := by rw [ho]; rfl
        unfold touches
        rw [hk, ho]
        simp only [hx, has, hc]
        exact hi
      · cases h
    · cases h

end

end Go.Proofs.Ytmenplonaapliaa.AE
end
section
set_option linter.unusedSectionVars false
set_option linter.unusedVariables false
set_option linter.unusedSimpArgs false
namespace Go.Proofs.Ytmenplonaapliaa.AE
open Go Go.RowKit
variable {W₀ : World}

/-- Where a body stands. -/
structure At (nt : Nat) (X : XO W₀) (w₀ : World) (ρ₀ : List RB) (σ₀ : List Blk) (w : World) (ρ : List RB) (st : St) (a : Act) : Prop where
  step : Step X w₀ ρ₀ σ₀ w ρ st.blks (fun _ => True)
  env : EnvR (OX X ρ st.blks) w ρ st.env a
  defers : a.defers = []
  size : nt ≤ a.tmps.size

section
variable {R : Type} [DecidableEq R] {r : R} {X : XO W₀} {w₀ w : World} {ρ₀ ρ : List RB} {σ₀ : List Blk} {st : St} {a : Act} {nt : Nat}

theorem Then.at {T : Nat → Prop} {k : St → Option R} {a' : Act} {w' : World} (p : At nt X w₀ ρ₀ σ₀ w ρ st a) (h : Then nt X w ρ st.blks T k r a' w') : ∃ st' ρ', k st' = some r ∧ At nt X w₀ ρ₀ σ₀ w' ρ' st' a' := by
  obtain ⟨st', ρ', hk, s, he, hd, hn⟩ := h
  exact ⟨st', ρ', hk, p.step.all s, he, hd, hn⟩

theorem getD_bool {a : Act} {d : Tmp} {b : Bool} (h : a.tmps.getD d undef = .bool b) : a.tmps[d]? = some (.bool b) := by
  rw [Array.getD_eq_getD_getElem?] at h
  cases e : a.tmps[d]? with
  | none => rw [e] at h; simp [undef] at h
  | some v => rw [e] at h; simp at h; rw [h]

theorem guardedK_ok {ops : Array Oper} {o : Oper} {run skip : St → Option R} (h : guardedK nt ops.toList o st run skip = some r) (p : At nt X w₀ ρ₀ σ₀ w ρ st a) :
    ∃ st', st'.blks = st.blks ∧ At nt X w₀ ρ₀ σ₀ w ρ st' a ∧ ((Region.wanted o (yielded ops a.tmps) = true ∧ run st' = some r) ∨ (Region.wanted o (yielded ops a.tmps) = false ∧ skip st' = some r)) := by
  unfold guardedK at h
  split at h
  · rename_i hg
    exact ⟨st, rfl, p, .inl ⟨by simp [Region.wanted, hg], h⟩⟩
  · rename_i j want hg
    rw [getAt_eq] at h
    split at h
    · rename_i q hq
      have hq' : ops[j]? = some q := by simpa using hq
      split at h
      · rename_i d hd
        have hv := p.env d
        split at h
        · rename_i b hb
          rw [hb] at hv
          have e := hv.val_eq
          have hy : yielded ops a.tmps j = some b := by simp [yielded, hq', hd, getD_bool e]
          have hw : Region.wanted o (yielded ops a.tmps) = (b == want) := by
            simp only [Region.wanted, hg, hy]
            cases b <;> cases want <;> rfl
          have know : ∀ c, b = c → At nt X w₀ ρ₀ σ₀ w ρ (putE nt st (some d) (.bool c)) a := fun c hc =>
            ⟨by rw [putE_blks]; exact p.step, by rw [putE_blks]; exact know_ok p.env (by rw [e, hc]; exact .one (.sc (.val _))), p.defers, p.size⟩
          cases b with
          | true =>
            simp only [cond_true] at h
            refine ⟨_, putE_blks _ _ _ _, know true rfl, ?_⟩
            cases want with
            | true => exact .inl ⟨hw, h⟩
            | false => exact .inr ⟨hw, h⟩
          | false =>
            simp only [cond_false] at h
            refine ⟨_, putE_blks _ _ _ _, know false rfl, ?_⟩
            cases want with
            | true => exact .inr ⟨hw, h⟩
            | false => exact .inl ⟨hw, h⟩
        · rename_i t hb
          rw [hb] at hv
          have e := hv.val_eq
          refine ⟨st, rfl, p, .inr ⟨?_, h⟩⟩
          have hy : yielded ops a.tmps j = none := by
            simp only [yielded, hq', hd, Option.bind_some]
            rw [Array.getD_eq_getD_getElem?] at e
            cases e' : a.tmps[d]? with
            | none => rfl
            | some v => rw [e'] at e; simp at e; subst e; rfl
          simp only [Region.wanted, hg, hy]
          cases want <;> rfl
        · cases h
      · cases h
    · cases h

/-- A skipped operation. -/
theorem At.skip (p : At nt X w₀ ρ₀ σ₀ w ρ st a) (d : Option Tmp) : At nt X w₀ ρ₀ σ₀ w ρ (putE nt st d (.one (.sc (.val undef)))) (a.put d undef) :=
  ⟨by rw [putE_blks]; exact p.step, by rw [putE_blks]; exact putE_ok p.env p.size (.one (.sc (.val _))) d, by rw [put_defers]; exact p.defers, by rw [put_size]; exact p.size⟩

theorem seqK_ok {C : Ctx} (hg : Good W₀ C.P C.sg C.callF) (hb : Bodied C.P C.callF) {ops : Array Oper} {k : St → Option R} {Q : Exit → Act → World → Prop}
    (hQ : ∀ st' ρ' a' w', k st' = some r → At C.nt X w₀ ρ₀ σ₀ w' ρ' st' a' → Q .normal a' w') :
    ∀ (l pre : List Oper) (st : St) (a : Act) (w : World) (ρ : List RB), ops.toList = pre ++ l → seqK C ops.toList l st k = some r → At C.nt X w₀ ρ₀ σ₀ w ρ st a → wpOps C.P ops Q (List.range' pre.length l.length) a w
  | [], pre, st, a, w, ρ, _, h, p => hQ _ _ _ _ h p
  | o :: l, pre, st, a, w, ρ, e, h, p => by
    have ho : ops[pre.length]? = some o := by rw [← Array.getElem?_toList, e]; simp
    have e' : ops.toList = (pre ++ [o]) ++ l := by rw [e]; simp
    have hlen : (pre ++ [o]).length = pre.length + 1 := by simp
    simp only [seqK] at h
    obtain ⟨st', hbl, p', hc⟩ := guardedK_ok h p
    simp only [List.length_cons, List.range'_succ, wpOps, ho]
    rcases hc with ⟨hw, h⟩ | ⟨hw, h⟩
    · rw [hw, if_pos rfl]
      refine .inl (execK_ok hg hb h p'.step.mem p'.env p'.defers p'.size fun a' w' ht => ?_)
      obtain ⟨st₂, ρ₂, hk, p₂⟩ := ht.at p'
      have := seqK_ok hg hb hQ l (pre ++ [o]) st₂ a' w' ρ₂ e' hk p₂
      rwa [hlen] at this
    · rw [hw, if_neg (by simp)]
      have := seqK_ok hg hb hQ l (pre ++ [o]) _ _ w ρ e' h (p'.skip o.dst)
      rwa [hlen] at this

/-! ### Regions whose order is drawn -/

theorem wpAnyH_mono {P : Program} {md : Region.Mode} {ops : Array Oper} {Q : Exit → Act → World → Prop} {S S' : World → Prop} (hS : ∀ w, S' w → S w) : ∀ (fuel : Nat) (listed : Array Bool) (a : Act) (w : World), wpAnyH P md ops Q S' fuel listed a w → wpAnyH P md ops Q S fuel listed a w
  | 0, _, _, _, h => h
  | fuel + 1, _, _, _, h => ⟨h.1, fun i hi => wpOp_mono (fun a' w' h' => ⟨hS _ h'.1, wpAnyH_mono hS fuel _ a' w' h'.2⟩) (h.2 i hi)⟩

/-- The worlds that may follow while the region lasts: what is not a block that the region may turn stays. -/
def Held (TX : Nat → Prop) (w : World) (ρ : List RB) (σ : List Blk) (w' : World) : Prop :=
  w.heap.size ≤ w'.heap.size ∧ ∀ b, b < w.heap.size → (∀ (id : Nat) r k, ρ[id]? = some r → σ[id]? = some k → Live r k b → ¬ TX id) → w'.heap[b]? = w.heap[b]?

theorem Held.refl {TX : Nat → Prop} {σ : List Blk} : Held TX w ρ σ w := ⟨Nat.le_refl _, fun _ _ _ => rfl⟩

theorem Held.same {TX : Nat → Prop} {σ : List Blk} {w' : World} {ld : Nat → Bool} (m : Mem X w ρ σ) (hld : ∀ id, ld id = true → ¬ TX id) (h : Held TX w ρ σ w') : Same ld ρ σ (OX X ρ σ) w w' :=
  ⟨h.1, fun b hb hn => h.2 b hb fun id r k h1 h2 h3 _ => hn (.inl ⟨id, r, k, h1, h2, h3⟩), fun id r k b h1 h2 h3 hl => h.2 b (m.low ⟨id, r, k, h1, h2, h3⟩) fun id' r' k' g1 g2 g3 ht => by
    have := m.inj id id' r k r' k' b h1 h2 h3 g1 g2 g3
    subst this
    exact hld id hl ht⟩

theorem Held.step {TX T : Nat → Prop} {σ σ' : List Blk} {w' w'' : World} {ρ' : List RB} (s : Step X w ρ σ w' ρ' σ' T) (hT : ∀ id, T id → TX id) (h : Held TX w' ρ' σ' w'') : Held TX w ρ σ w'' :=
  ⟨Nat.le_trans s.turn.size h.1, fun b hb hn => by
    rw [h.2 b (Nat.lt_of_lt_of_le hb s.turn.size) fun id r k h1 h2 h3 ht => ?_]
    · exact s.same b hb fun id r k h1 h2 h3 ht => hn id r k h1 h2 h3 (hT id ht)
    · obtain ⟨i, r', k', q1, q2, q3, q4⟩ := s.orig id r k b h1 h2 h3 hb
      refine hn i r' k' q1 q2 q3 ?_
      rcases q4 with rfl | q4
      · exact ht
      · exact hT i q4⟩

theorem meets_ok : ∀ {l : List (Option R)}, meets l = some r → ∀ x ∈ l, x = some r
  | [], h, _, _ => by cases h
  | [a], h, x, hx => by
    have : x = a := by simpa using hx
    rw [this]; exact h
  | a :: b :: l, h, x, hx => by
    simp only [meets] at h
    obtain ⟨h1, h2⟩ := meet_ok h
    rcases List.mem_cons.1 hx with rfl | hx
    · exact h1
    · exact meets_ok h2 x hx

structure Bits (ops : Array Oper) (mask : Nat) (listed : Array Bool) : Prop where
  size : listed.size = ops.size
  bit : ∀ j, mask.testBit j = listed.getD j false

theorem Bits.set {ops : Array Oper} {mask : Nat} {listed : Array Bool} (b : Bits ops mask listed) {i : Nat} (hi : i < ops.size) : Bits ops (mask ||| 2 ^ i) (listed.setIfInBounds i true) := by
  refine ⟨by simpa using b.size, fun j => ?_⟩
  rw [Nat.testBit_or, b.bit, Nat.testBit_two_pow]
  simp only [Array.getD_eq_getD_getElem?, Array.getElem?_setIfInBounds]
  by_cases e : i = j
  · subst e; simp [b.size, hi]
  · simp [e]

theorem pred_go {l : List Edge} {j : Nat} : (predM.go l).testBit j = true ↔ ∃ e ∈ l, Region.binds .any e = true ∧ e.on = j := by
  induction l with
  | nil => simp [predM.go]
  | cons e l ih =>
    simp only [predM.go]
    cases hb : Region.binds .any e with
    | true =>
      simp only [Nat.testBit_or, Nat.testBit_two_pow, Bool.or_eq_true, decide_eq_true_eq, ih, List.mem_cons]
      constructor
      · rintro (h | ⟨e', h1, h2⟩)
        · exact ⟨e, .inl rfl, hb, h⟩
        · exact ⟨e', .inr h1, h2⟩
      · rintro ⟨e', rfl | h1, h2, h3⟩
        · exact .inl h3
        · exact .inr ⟨e', h1, h2, h3⟩
    | false =>
      simp only [ih, List.mem_cons]
      constructor
      · rintro ⟨e', h1, h2⟩; exact ⟨e', .inr h1, h2⟩
      · rintro ⟨e', rfl | h1, h2, h3⟩
        · rw [hb] at h2; cases h2
        · exact ⟨e', h1, h2, h3⟩

theorem pred_bit {o : Oper} {j : Nat} : (predM o).testBit j = true ↔ ∃ e ∈ o.after, Region.binds .any e = true ∧ e.on = j := by
  unfold predM
  rw [pred_go]
  simp

theorem sub_bits {a m : Nat} : Nat.beq (a &&& m) a = true ↔ ∀ j, a.testBit j = true → m.testBit j = true := by
  constructor
  · intro h j hj
    have e := Nat.eq_of_beq_eq_true h
    have := congrArg (fun x => Nat.testBit x j) e
    simp only [Nat.testBit_and, hj, Bool.true_and] at this
    exact this
  · intro h
    have : a &&& m = a := Nat.eq_of_testBit_eq fun j => by
      rw [Nat.testBit_and]
      cases e : a.testBit j with
      | false => rfl
      | true => simp [h j e]
    rw [this]; simp

theorem ready_go {mask : Nat} : ∀ {l : List Oper} {i j : Nat}, j ∈ readyM mask l i ↔ i ≤ j ∧ ∃ o, l[j - i]? = some o ∧ mask.testBit j = false ∧ Nat.beq (predM o &&& mask) (predM o) = true
  | [], i, j => by simp [readyM]
  | o :: l, i, j => by
    have step : j ∈ readyM mask l (i + 1) ↔ i + 1 ≤ j ∧ ∃ o', (o :: l)[j - i]? = some o' ∧ mask.testBit j = false ∧ Nat.beq (predM o' &&& mask) (predM o') = true := by
      rw [ready_go]
      refine ⟨fun ⟨h1, h2⟩ => ⟨h1, ?_⟩, fun ⟨h1, h2⟩ => ⟨h1, ?_⟩⟩
      · have : j - i = (j - (i + 1)) + 1 := by omega
        rw [this]; simpa using h2
      · have : j - i = (j - (i + 1)) + 1 := by omega
        rw [this] at h2; simpa using h2
    simp only [readyM]
    split
    · rename_i hb
      rw [List.mem_cons, step]
      simp only [Bool.and_eq_true, Bool.not_eq_true'] at hb
      constructor
      · rintro (rfl | ⟨h1, h2⟩)
        · exact ⟨Nat.le_refl _, o, by simp, hb.1, hb.2⟩
        · exact ⟨by omega, h2⟩
      · rintro ⟨h1, h2⟩
        by_cases e : j = i
        · exact .inl e
        · exact .inr ⟨by omega, h2⟩
    · rename_i hb
      rw [step]
      constructor
      · rintro ⟨h1, h2⟩; exact ⟨by omega, h2⟩
      · rintro ⟨h1, o', h2, h3, h4⟩
        by_cases e : j = i
        · subst e
          simp only [Nat.sub_self, List.getElem?_cons_zero, Option.some.injEq] at h2
          subst h2
          simp [h3, h4] at hb
        · exact ⟨by omega, o', h2, h3, h4⟩

theorem Bits.ready {ops : Array Oper} {mask : Nat} {listed : Array Bool} (b : Bits ops mask listed) {j : Nat} : j ∈ Region.ready .any ops listed ↔ j ∈ readyM mask ops.toList 0 := by
  rw [mem_ready, ready_go]
  simp only [Nat.zero_le, true_and, Nat.sub_zero, Array.getElem?_toList]
  constructor
  · rintro ⟨h1, o, h2, h3⟩
    have hj : j < ops.size := (Array.getElem?_eq_some_iff.1 h2).1
    refine ⟨o, h2, ?_, sub_bits.2 fun i hi => ?_⟩
    · rw [b.bit]
      simp only [Array.getD_eq_getD_getElem?] at h1 ⊢
      rw [Array.getElem?_eq_getElem (by rw [b.size]; exact hj)] at h1 ⊢
      exact h1
    · obtain ⟨e, he, hb, rfl⟩ := pred_bit.1 hi
      rw [b.bit]; exact h3 e he hb
  · rintro ⟨o, h2, h1, h3⟩
    have hj : j < ops.size := (Array.getElem?_eq_some_iff.1 h2).1
    refine ⟨?_, o, h2, fun e he hb => ?_⟩
    · rw [b.bit] at h1
      simp only [Array.getD_eq_getD_getElem?] at h1 ⊢
      rw [Array.getElem?_eq_getElem (by rw [b.size]; exact hj)] at h1 ⊢
      exact h1
    · rw [← b.bit]; exact sub_bits.1 h3 _ (pred_bit.2 ⟨e, he, hb, rfl⟩)

theorem free_go {ops : Array Oper} {mask i : Nat} {x : Oper} : ∀ {l : List Oper} {n : Nat}, freeM ops mask i x l n = true → ∀ (j : Nat) o, l[j]? = some o → i ≠ n + j → mask.testBit (n + j) = false → (predM o).testBit i = false → x.apart ops o = true
  | [], _, _, j, o, ho => by simp at ho
  | y :: l, n, h, j, o, ho => by
    intro h1 h2 h3
    simp only [freeM, Bool.and_eq_true] at h
    cases j with
    | zero =>
      simp only [List.getElem?_cons_zero, Option.some.injEq] at ho
      subst ho
      have : Nat.beq i n = false := by
        cases hb : Nat.beq i n with
        | false => rfl
        | true => exact absurd (Nat.eq_of_beq_eq_true hb) h1
      have h' := h.1
      rw [Nat.add_zero] at h2
      simpa [this, h2, h3] using h'
    | succ j => exact free_go h.2 j o (by simpa using ho) (by omega) (by rw [← h2]; congr 1; omega) h3

end

end Go.Proofs.Ytmenplonaapliaa.AE
end
section
set_option linter.unusedSectionVars false
set_option linter.unusedVariables false
set_option linter.unusedSimpArgs false
namespace Go.Proofs.Ytmenplonaapliaa.AE
open Go Go.RowKit
variable {W₀ : World}

section
variable {R : Type} [DecidableEq R] {r : R} {X : XO W₀} {w₀ w : World} {ρ₀ ρ : List RB} {σ₀ : List Blk} {st : St} {a : Act} {nt : Nat}

theorem drawK_ok {C : Ctx} (hg : Good W₀ C.P C.sg C.callF) (hb : Bodied C.P C.callF) {ops : Array Oper} (hns : Region.noSelect ops = true) {n₀ : Nat} {ex : List Nat} {k : St → Option R} {Q : Exit → Act → World → Prop}
    (hQ : ∀ st' ρ' a' w', k st' = some r → At C.nt X w₀ ρ₀ σ₀ w' ρ' st' a' → Q .normal a' w') (hQp : ∀ c a w, ¬ Q (.panic c) a w) :
    ∀ (f mask : Nat) (listed : Array Bool) (st : St) (a : Act) (w : World) (ρ : List RB), Bits ops mask listed → drawK C ops n₀ ex f mask st k = some r → At C.nt X w₀ ρ₀ σ₀ w ρ st a →
      wpAnyH C.P .any ops Q (Held (fun id => n₀ ≤ id ∨ ex.contains id = true) w ρ st.blks) f listed a w
  | 0, mask, listed, st, a, w, ρ, b, h, p => by
    simp only [drawK] at h
    split at h
    · rename_i he
      refine ⟨?_, hQ _ _ _ _ h p⟩
      cases hr : Region.ready .any ops listed with
      | nil => rfl
      | cons x xs =>
        have : x ∈ readyM mask ops.toList 0 := b.ready.1 (by rw [hr]; simp)
        rw [he] at this; cases this
    · cases h
  | f + 1, mask, listed, st, a, w, ρ, b, h, p => by
    simp only [drawK] at h
    split at h
    · rename_i he
      refine wpAnyH_done ?_ (hQ _ _ _ _ h p) _
      cases hr : Region.ready .any ops listed with
      | nil => rfl
      | cons x xs =>
        have : x ∈ readyM mask ops.toList 0 := b.ready.1 (by rw [hr]; simp)
        rw [he] at this; cases this
    · rename_i i rs he
      split at h
      · rename_i j hj
        have hjm : j ∈ Region.ready .any ops listed := b.ready.2 (by rw [he]; exact List.mem_of_find?_eq_some hj)
        rw [getAt_eq] at h
        split at h
        · rename_i o ho
          have ho' : ops[j]? = some o := by simpa using ho
          have hjs : j < ops.size := (Array.getElem?_eq_some_iff.1 ho').1
          split at h
          · rename_i hfree
            obtain ⟨st', hbl, p', hc⟩ := guardedK_ok h p
            have hfree' : ∀ (i : Nat) oj, ops[i]? = some oj → i ≠ j → listed.getD i true = false → (∀ e ∈ oj.after, Region.binds .any e = true → e.on ≠ j) → o.apart ops oj = true := fun i oj hoj hij hl hno => by
              refine free_go hfree i oj (by simpa using hoj) (by omega) ?_ ?_
              · have hi : i < ops.size := (Array.getElem?_eq_some_iff.1 hoj).1
                rw [Nat.zero_add, b.bit]
                simp only [Array.getD_eq_getD_getElem?] at hl ⊢
                rw [Array.getElem?_eq_getElem (by rw [b.size]; exact hi)] at hl ⊢
                exact hl
              · cases hbit : (predM oj).testBit j with
                | false => rfl
                | true =>
                  obtain ⟨e, h1, h2, h3⟩ := pred_bit.1 hbit
                  exact absurd h3 (hno e h1 h2)
            have finish : ∀ (v : Value) (st₂ : St), st₂.blks = st.blks → drawK C ops n₀ ex f (mask ||| 2 ^ j) st₂ k = some r → At C.nt X w₀ ρ₀ σ₀ w ρ st₂ (a.put o.dst v) →
                YieldsIf C.P ops (Held (fun id => n₀ ≤ id ∨ ex.contains id = true) w ρ st.blks) o v a →
                wpAnyH C.P .any ops Q (Held (fun id => n₀ ≤ id ∨ ex.contains id = true) w ρ st.blks) (f + 1) listed a w := fun v st₂ hb₂ hk p₂ hy => by
              have ih := drawK_ok hg hb hns hQ hQp f (mask ||| 2 ^ j) (listed.setIfInBounds j true) st₂ (a.put o.dst v) w ρ (b.set hjs) hk p₂
              rw [hb₂] at ih
              exact wpAnyH_first ho' (Region.noSelect_spec hns) (fun c a w h => absurd h (hQp _ _ _)) f listed a w hfree' hjm hy Held.refl ih
            rcases hc with ⟨hw, h⟩ | ⟨hw, h⟩
            · have hS : ∀ w', Held (fun id => n₀ ≤ id ∨ ex.contains id = true) w ρ st'.blks w' → Same (fun id => Nat.blt id n₀ && !ex.contains id) ρ st'.blks (OX X ρ st'.blks) w w' := fun w' hw' => hw'.same p'.step.mem fun id hl ht => by
                simp only [Bool.and_eq_true, Bool.not_eq_true'] at hl
                rcases ht with ht | ht
                · have : id < n₀ := Nat.le_of_ble_eq_true hl.1
                  omega
                · rw [hl.2] at ht; cases ht
              obtain ⟨av, v, hk, hv, hrun⟩ := pOp_ok p'.step.mem p'.env hS h
              refine finish v (putE C.nt st' o.dst av) (by rw [putE_blks, hbl]) hk ⟨by rw [putE_blks]; exact p'.step, by rw [putE_blks]; exact putE_ok p'.env p'.size hv _, by rw [put_defers]; exact p'.defers, by rw [put_size]; exact p'.size⟩ (.inl ⟨hw, ?_⟩)
              rw [← hbl]; exact hrun
            · exact finish undef _ (by rw [putE_blks, hbl]) h (p'.skip o.dst) (.inr ⟨hw, rfl⟩)
          · cases h
        · cases h
      · refine wpAnyH_all rfl (fun e => ?_) fun x hx => ?_
        · have : i ∈ Region.ready .any ops listed := b.ready.2 (by rw [he]; simp)
          rw [e] at this; cases this
        · have hx' := b.ready.1 hx
          rw [he] at hx'
          have hm := meets_ok h _ (List.mem_map_of_mem hx')
          rw [getAt_eq] at hm
          split at hm
          · rename_i o ho
            have ho' : ops[x]? = some o := by simpa using ho
            have hxs : x < ops.size := (Array.getElem?_eq_some_iff.1 ho').1
            obtain ⟨st', hbl, p', hc⟩ := guardedK_ok hm p
            unfold wpOp
            rw [ho']
            simp only
            rcases hc with ⟨hw, hm⟩ | ⟨hw, hm⟩
            · rw [hw, if_pos rfl]
              split at hm
              · rename_i hall
                refine .inl (execK_ok hg hb hm p'.step.mem p'.env p'.defers p'.size fun a' w' ht => ?_)
                obtain ⟨st₂, ρ₂, hk, s, he₂, hd₂, hn₂⟩ := ht
                have hT : ∀ id, id ∈ touches C o st' → n₀ ≤ id ∨ ex.contains id = true := fun id hi => by
                  have := List.all_eq_true.1 hall id hi
                  simp only [Bool.or_eq_true] at this
                  rcases this with h | h
                  · exact .inr h
                  · exact .inl (Nat.le_of_ble_eq_true h)
                have ih := drawK_ok hg hb hns hQ hQp f (mask ||| 2 ^ x) (listed.setIfInBounds x true) st₂ a' w' ρ₂ (b.set hxs) hk ⟨p'.step.all s, he₂, hd₂, hn₂⟩
                rw [← hbl]
                exact ⟨Held.step s hT Held.refl, wpAnyH_mono (fun w'' h => Held.step s hT h) _ _ _ _ ih⟩
              · cases hm
            · rw [hw, if_neg (by simp)]
              have ih := drawK_ok hg hb hns hQ hQp f (mask ||| 2 ^ x) (listed.setIfInBounds x true) _ (a.put o.dst undef) w ρ (b.set hxs) hm (p'.skip o.dst)
              rw [putE_blks, hbl] at ih
              exact ⟨Held.refl, ih⟩
          · cases hm

theorem At.drew (p : At nt X w₀ ρ₀ σ₀ w ρ st a) : At nt X w₀ ρ₀ σ₀ { w with drawn := w.drawn + 1 } ρ st a := by
  have t : Turn (OX X ρ st.blks) w (OX X ρ st.blks) { w with drawn := w.drawn + 1 } := ⟨fun _ _ h => h, Nat.le_refl _, fun _ _ _ => rfl⟩
  have m := p.step.mem
  refine ⟨p.step.all (T₁ := fun _ => True) ⟨⟨m.len, fun id r k h1 h2 => (m.blk id r k h1 h2).turn t (.refl _) fun _ _ => rfl, m.inj, m.dis, m.xlow, m.top.trans t⟩, .refl _, t, rfl, rfl, rfl, fun _ _ _ => rfl, fun id r k b h1 h2 h3 _ => ⟨id, r, k, h1, h2, h3, .inl rfl⟩⟩, p.env.turn t (.refl _), p.defers, p.size⟩

end

end Go.Proofs.Ytmenplonaapliaa.AE
end
section
set_option linter.unusedSectionVars false
set_option linter.unusedVariables false
set_option linter.unusedSimpArgs false
namespace Go.Proofs.Ytmenplonaapliaa.AE
open Go Go.RowKit
variable {W₀ : World}

theorem addId_pre (i : Nat) (l : List Nat) : l <+: addId i l := by
  unfold addId
  split
  · exact List.prefix_refl l
  · exact List.prefix_append l _

theorem idsFlat_pre : ∀ (cs : List Sc) (l : List Nat), l <+: idsSc.idsFlat cs l
  | [], l => List.prefix_refl l
  | c :: r, l => by
    cases c <;> simp only [idsSc.idsFlat] <;> first | exact (addId_pre _ l).trans (idsFlat_pre r _) | exact idsFlat_pre r l

theorem idsSc_pre (c : Sc) (l : List Nat) : l <+: idsSc c l := by
  cases c <;> simp only [idsSc] <;> first | exact addId_pre _ l | exact idsFlat_pre _ l | exact List.prefix_refl l

theorem idsScs_pre : ∀ (cs : List Sc) (l : List Nat), l <+: idsScs cs l
  | [], l => List.prefix_refl l
  | c :: r, l => (idsSc_pre c l).trans (idsScs_pre r _)

theorem idsAV1_pre (c : AV1) (l : List Nat) : l <+: idsAV1 c l := by
  cases c with
  | sc c => exact idsSc_pre c l
  | agg cs => exact idsScs_pre cs l

theorem idsAV1s_pre : ∀ (cs : List AV1) (l : List Nat), l <+: idsAV1s cs l
  | [], l => List.prefix_refl l
  | c :: r, l => (idsAV1_pre c l).trans (idsAV1s_pre r _)

theorem idsEnv_pre : ∀ (e : List (Nat × AV)) (l : List Nat), l <+: idsEnv e l
  | [], l => List.prefix_refl l
  | (_, .one v) :: r, l => (idsAV1_pre v l).trans (idsEnv_pre r _)
  | (_, .tup vs) :: r, l => (idsAV1s_pre vs l).trans (idsEnv_pre r _)

theorem closeIds_pre (σ : List Blk) : ∀ (f i : Nat) (l : List Nat), l <+: closeIds σ f i l
  | 0, _, l => List.prefix_refl l
  | f + 1, i, l => by
    simp only [closeIds]
    split
    · split
      · exact (idsScs_pre _ l).trans (closeIds_pre σ f _ _)
      · exact closeIds_pre σ f _ _
    · exact List.prefix_refl l

/-- All entries say what the slots hold. -/
def AllR (O : Own) (w : World) (ρ : List RB) (env : List (Nat × AV)) (a : Act) : Prop := ∀ t v, (t, v) ∈ env → AVR O w ρ v (a.tmps.getD t undef)

section
variable {R : Type} [DecidableEq R] {r : R} {X : XO W₀} {O : Own} {w₀ w : World} {ρ₀ ρ : List RB} {σ₀ σ σ' : List Blk} {st : St} {a : Act} {nt : Nat}

theorem AllR.env : ∀ {env : List (Nat × AV)}, AllR O w ρ env a → EnvR O w ρ env a
  | [], _, t => any_ok
  | (i, v) :: r, h, t => by
    rw [look_cons]
    by_cases e : i = t
    · subst e; rw [if_pos rfl]; exact h i v (by simp)
    · rw [if_neg e]; exact AllR.env (fun t v hm => h t v (by simp [hm])) t

theorem AllR.tail {e : Nat × AV} {env : List (Nat × AV)} (h : AllR O w ρ (e :: env) a) : AllR O w ρ env a := fun t v hm => h t v (by simp [hm])

theorem AllR.cons {i : Nat} {v : AV} {env : List (Nat × AV)} (hv : AVR O w ρ v (a.tmps.getD i undef)) (h : AllR O w ρ env a) : AllR O w ρ ((i, v) :: env) a := fun t u hm => by
  rcases List.mem_cons.1 hm with e | hm
  · cases e; exact hv
  · exact h t u hm

theorem AllR.turn {O' : Own} {w' : World} {ρ' : List RB} {env : List (Nat × AV)} (h : AllR O w ρ env a) (t : Turn O w O' w') (x : Ext ρ ρ') : AllR O' w' ρ' env a := fun i v hm => (h i v hm).turn t x

theorem clear_ok {env : List (Nat × AV)} (h : EnvR O w ρ env a) {live : Nat} : ∀ (n : Nat) {acc : List (Nat × AV)}, AllR O w ρ acc a → AllR O w ρ (clear env live n acc) a
  | 0, acc, ha => ha
  | n + 1, acc, ha => by
    simp only [clear]
    split
    · split
      · exact clear_ok h n ha
      · exact clear_ok h n (ha.cons (h n))
    · exact clear_ok h n ha

theorem coerceEnv_ok {coer : List (Nat × Ps)} : ∀ {env env' : List (Nat × AV)} {ρ : List RB} {σ σ' : List Blk}, Mem X w ρ σ → AllR (OX X ρ σ) w ρ env a → coerceEnv coer env σ = some (env', σ') →
    ∃ ρ', Step X w ρ σ w ρ' σ' NoT ∧ AllR (OX X ρ' σ') w ρ' env' a
  | [], env', ρ, σ, σ', m, hv, h => by
    simp only [coerceEnv] at h; cases h
    exact ⟨ρ, .refl m _, hv⟩
  | (t, v) :: r, env', ρ, σ, σ', m, hv, h => by
    have h0 := hv t v (by simp)
    simp only [coerceEnv] at h
    split at h
    · rename_i p v1 hp
      split at h
      · rename_i v' σ₁ h₁
        split at h
        · rename_i e₂ σ₂ h₂
          cases h
          cases h0 with
          | one h0 =>
            obtain ⟨ρ₁, s₁, g₁, _, _⟩ := coerce1_ok m h0 h₁
            obtain ⟨ρ₂, s₂, g₂⟩ := coerceEnv_ok s₁.mem (hv.tail.turn s₁.turn s₁.ext) h₂
            exact ⟨ρ₂, s₁.still s₂, .cons ((AVR.one g₁).turn s₂.turn s₂.ext) g₂⟩
        · cases h
      · cases h
    · cases h
    · split at h
      · rename_i e₂ σ₂ h₂
        cases h
        obtain ⟨ρ₂, s₂, g₂⟩ := coerceEnv_ok m hv.tail h₂
        exact ⟨ρ₂, s₂, .cons (h0.turn s₂.turn s₂.ext) g₂⟩
      · cases h

abbrev AllT : Nat → Prop := fun _ => True
theorem moveRow_ok {c c' : Sc} {u : Value} {ρ : List RB} {σ σ' : List Blk} (m : Mem X w ρ σ) (hu : ScR (OX X ρ σ) w ρ c u) (h : moveRow c σ = some (c', σ')) :
    ∃ ρ', Step X w ρ σ w ρ' σ' AllT ∧ ScR (OX X ρ' σ') w ρ' c' u := by
  unfold moveRow at h
  split at h
  · rename_i id
    rw [getAt_eq] at h
    split at h
    · rename_i e l hk
      simp only [Option.some.injEq, Prod.mk.injEq] at h
      obtain ⟨rfl, rfl⟩ := h
      rw [setAt_eq]
      obtain ⟨r, hr⟩ := m.rho hk
      have hbk := m.blk id r _ hr hk
      have hq : (ρ ++ [r])[σ.length]? = some r := by rw [List.getElem?_append_right (by rw [m.len]; exact Nat.le_refl _), m.len]; simp
      obtain ⟨m', t'⟩ := m.swap (w' := w) (r' := r) (k' := .elems e l) hr hk (fun c h => .inl h) (fun _ _ _ => rfl) (Nat.le_refl _) (fun t => hbk.turn t (Ext.app _ _) (fun _ _ => rfl))
      cases hu with
      | own ho hA =>
        rw [hr] at ho; cases ho
        exact ⟨_, ⟨m', Ext.app _ _, t', rfl, rfl, rfl, fun _ _ _ => rfl, orig_swap hr hk m.len trivial (fun c h => .inl h)⟩, .own hq hA⟩
    · cases h
  · rename_i id
    rw [getAt_eq] at h
    split at h
    · rename_i k v es hk
      simp only [Option.some.injEq, Prod.mk.injEq] at h
      obtain ⟨rfl, rfl⟩ := h
      rw [setAt_eq]
      obtain ⟨r, hr⟩ := m.rho hk
      have hbk := m.blk id r _ hr hk
      have hq : (ρ ++ [r])[σ.length]? = some r := by rw [List.getElem?_append_right (by rw [m.len]; exact Nat.le_refl _), m.len]; simp
      obtain ⟨m', t'⟩ := m.swap (w' := w) (r' := r) (k' := .mp k v es) hr hk (fun c h => .inl h) (fun _ _ _ => rfl) (Nat.le_refl _) (fun t => hbk.turn t (Ext.app _ _) (fun _ _ => rfl))
      cases hu with
      | mref ho =>
        rw [hr] at ho; cases ho
        exact ⟨_, ⟨m', Ext.app _ _, t', rfl, rfl, rfl, fun _ _ _ => rfl, orig_swap hr hk m.len trivial (fun c h => .inl h)⟩, .mref hq⟩
    · cases h
  · cases h

theorem coerceCells_ok {bc : List (TypeId × Nat × Ps)} {T : TypeId} : ∀ {j : Nat} {cs cs' : List Sc} {vs : List Value} {ρ : List RB} {σ σ' : List Blk}, Mem X w ρ σ → ScsR (OX X ρ σ) w ρ cs vs → coerceCells bc T j cs σ = some (cs', σ') →
    ∃ ρ', Step X w ρ σ w ρ' σ' AllT ∧ ScsR (OX X ρ' σ') w ρ' cs' vs
  | j, [], cs', vs, ρ, σ, σ', m, hs, h => by
    simp only [coerceCells] at h; cases h
    exact ⟨ρ, .refl m _, hs⟩
  | j, c :: r, cs', vs, ρ, σ, σ', m, hs, h => by
    obtain ⟨u, us, rfl, hu, hr⟩ := hs.tail
    simp only [coerceCells] at h
    split at h
    · split at h
      · rename_i c' σ₁ h1
        split at h
        · rename_i r' σ₂ h2
          cases h
          obtain ⟨ρ₁, s₁, g₁⟩ := moveRow_ok m hu h1
          obtain ⟨ρ₂, s₂, g₂⟩ := coerceCells_ok s₁.mem (hr.turn s₁.turn s₁.ext) h2
          exact ⟨ρ₂, s₁.all s₂, .cons (g₁.turn s₂.turn s₂.ext) g₂⟩
        · cases h
      · cases h
    · split at h
      · rename_i c' σ₁ h1
        split at h
        · rename_i r' σ₂ h2
          cases h
          obtain ⟨ρ₁, s₁, g₁, _, _⟩ := coerce1_ok m (.sc hu) h1
          obtain ⟨ρ₂, s₂, g₂⟩ := coerceCells_ok s₁.mem (hr.turn s₁.turn s₁.ext) h2
          cases g₁ with
          | sc g₁ => exact ⟨ρ₂, s₁.all s₂, .cons (g₁.turn s₂.turn s₂.ext) g₂⟩
        · cases h
      · cases h
    · split at h
      · rename_i r' σ₂ h2
        cases h
        obtain ⟨ρ₂, s₂, g₂⟩ := coerceCells_ok m hr h2
        exact ⟨ρ₂, s₂, .cons (hu.turn s₂.turn s₂.ext) g₂⟩
      · cases h

theorem coerceBlks_ok {bc : List (TypeId × Nat × Ps)} : ∀ {n : Nat} {ρ : List RB} {σ σ' : List Blk}, Mem X w ρ σ → coerceBlks bc n σ = some σ' → ∃ ρ', Step X w ρ σ w ρ' σ' AllT
  | 0, ρ, σ, σ', m, h => by
    simp only [coerceBlks] at h; cases h
    exact ⟨ρ, .refl m _⟩
  | n + 1, ρ, σ, σ', m, h => by
    simp only [coerceBlks] at h
    rw [getAt_eq] at h
    split at h
    · rename_i T cs hk
      split at h
      · rename_i cs' σ₁ h1
        rw [getAt_eq] at h
        split at h
        · rename_i T' cs₀ hk1
          rw [setAt_eq] at h
          obtain ⟨r, hr⟩ := m.rho hk
          have hb := m.blk n r _ hr hk
          cases hb with
          | @cells b _ _ _ vs fr hh hun hcs =>
            obtain ⟨ρ₁, s₁, g₁⟩ := coerceCells_ok m hcs h1
            have hr1 := s₁.ext _ _ hr
            have hO : ∀ b', OX X ρ₁ (σ₁.set n (.cells T' cs')) b' → OX X ρ₁ σ₁ b' := by
              rintro b' (⟨j, r', k₁, q1, q2, q3⟩ | q)
              · by_cases e : n = j
                · subst e
                  rw [List.getElem?_set_self (get_lt hk1)] at q2
                  cases q2
                  rw [hr1] at q1; cases q1
                  cases q3
                  exact .inl ⟨n, _, _, hr1, hk1, .cells⟩
                · rw [List.getElem?_set_ne e] at q2
                  exact .inl ⟨j, r', k₁, q1, q2, q3⟩
              · exact .inr q
            obtain ⟨m', t'⟩ := s₁.mem.put (k' := .cells T' cs') hr1 hk1 (fun b' hl => by cases hl; exact .cells) (.cells hh hun (g₁.turn (.less w hO) (Ext.refl _)))
            have s' : Step X w ρ₁ σ₁ w ρ₁ (σ₁.set n (.cells T' cs')) AllT := ⟨m', Ext.refl _, t', rfl, rfl, rfl, fun _ _ _ => rfl, fun id r' k' c q1 q2 q3 hc => by
              by_cases e : n = id
              · subst e
                rw [List.getElem?_set_self (get_lt hk1)] at q2
                cases q2
                rw [hr1] at q1; cases q1
                cases q3
                exact ⟨n, _, _, hr1, hk1, .cells, .inl rfl⟩
              · rw [List.getElem?_set_ne e] at q2
                exact ⟨id, r', k', q1, q2, q3, .inl rfl⟩⟩
            obtain ⟨ρ₂, s₂⟩ := coerceBlks_ok s'.mem h
            exact ⟨ρ₂, (s₁.all s').all s₂⟩
        · cases h
      · cases h
    · exact coerceBlks_ok m h

theorem coerceAll_ok {bc : List (TypeId × Nat × Ps)} {ρ : List RB} {σ σ' : List Blk} (m : Mem X w ρ σ) (h : coerceAll bc σ = some σ') : ∃ ρ', Step X w ρ σ w ρ' σ' AllT := by
  unfold coerceAll at h
  split at h
  · cases h; exact ⟨ρ, .refl m _⟩
  · exact coerceBlks_ok m h

theorem renEnv_ok {l : List Nat} : ∀ {env env' : List (Nat × AV)}, AllR O w ρ env a → renEnv l env = some env' → AllR O w (pickR ρ l) env' a
  | [], env', h, hr => by
    simp only [renEnv] at hr; cases hr
    intro t v hm; simp at hm
  | (t, v) :: r, env', h, hr => by
    simp only [renEnv] at hr
    split at hr
    · rename_i v' r' h1 h2
      cases hr
      exact .cons (renAV_ok (h t v (by simp)) h1) (renEnv_ok h.tail h2)
    · cases hr

/-- The blocks that are still in use, numbered anew. -/
theorem Step.pick {l : List Nat} {bs : List Blk} (s : Step X w₀ ρ₀ σ₀ w ρ σ (fun _ => True)) (hp : pickBlks σ l = some bs) (hl : List.range ρ₀.length <+: l) :
    Step X w₀ ρ₀ σ₀ w (pickR ρ l) bs (fun _ => True) ∧ Turn (OX X ρ σ) w (OX X (pickR ρ l) bs) w := by
  obtain ⟨m, t⟩ := pick_mem s.mem hp (X' := X) (fun b h => .inr h) (fun b h hx => by
    obtain ⟨j, i, r, k, g1, g2, g3, g4⟩ := pick_own s.mem hp h
    exact s.mem.dis b ⟨i, r, k, g2, g3, g4⟩ hx)
  refine ⟨⟨m, fun id r h => ?_, s.turn.trans t, s.os, s.tape, s.output, s.same, fun id r k b h1 h2 h3 hb => ?_⟩, t⟩
  · have hlt := get_lt h
    refine pickR_get ?_ (s.ext id r h)
    obtain ⟨q, rfl⟩ := hl
    rw [List.getElem?_append_left (by simpa using hlt)]
    simp [hlt]
  · obtain ⟨j, i, r', k', g1, g2, g3, g4⟩ := pick_own s.mem hp ⟨id, r, k, h1, h2, h3⟩
    obtain ⟨i', r'', k'', q1, q2, q3, _⟩ := s.orig i r' k' b g2 g3 g4 hb
    exact ⟨i', r'', k'', q1, q2, q3, .inr trivial⟩

theorem normK_ok {C : Ctx} (hm : C.m = ρ₀.length) {live : Nat} {k : St → Option R} (h : normK C live st k = some r) (p : At C.nt X w₀ ρ₀ σ₀ w ρ st a) : ∃ st' ρ', k st' = some r ∧ At C.nt X w₀ ρ₀ σ₀ w ρ' st' a := by
  unfold normK at h
  split at h
  · cases h
  · rename_i env σ' hc
    split at h
    · cases h
    rename_i σ hbc
    obtain ⟨ρ', s₀, g₀⟩ := coerceEnv_ok p.step.mem (clear_ok p.env C.nt (fun t v hm => by simp at hm)) hc
    obtain ⟨ρ₁, s₀'⟩ := coerceAll_ok s₀.mem hbc
    have s₁ := s₀.all s₀'
    have g₁ := g₀.turn s₀'.turn s₀'.ext
    have hpre : List.range ρ₀.length <+: closeIds σ 40 0 (idsEnv env (List.range C.m)) := by
      rw [← hm]; exact (idsEnv_pre env _).trans (closeIds_pre σ 40 0 _)
    generalize closeIds σ 40 0 (idsEnv env (List.range C.m)) = l at h hpre
    dsimp only at h
    split at h
    · rename_i env' bs he hbs
      have s : Step X w₀ ρ₀ σ₀ w ρ₁ σ (fun _ => True) := p.step.all s₁
      obtain ⟨s', t⟩ := s.pick hbs hpre
      have g₂ := renEnv_ok g₁ he
      exact ⟨⟨env', bs⟩, pickR ρ₁ l, h, s', (g₂.turn t (Ext.refl _)).env, p.defers, p.size⟩
    · cases h

end

end Go.Proofs.Ytmenplonaapliaa.AE
end
section
set_option linter.unusedSectionVars false
set_option linter.unusedVariables false
set_option linter.unusedSimpArgs false
namespace Go.Proofs.Ytmenplonaapliaa.AE
open Go Go.RowKit
variable {W₀ : World}

section
variable {R : Type} [DecidableEq R] {r : R} {X : XO W₀} {w₀ : World} {ρ₀ : List RB} {σ₀ : List Blk}

def Post (nt : Nat) (X : XO W₀) (w₀ : World) (ρ₀ : List RB) (σ₀ : List Blk) (k : Out → Option R) (r : R) : Exit → Act → World → Prop
  | .normal, a, w => ∃ st ρ, k (.norm st) = some r ∧ At nt X w₀ ρ₀ σ₀ w ρ st a
  | .exit i, a, w => ∃ st ρ, k (.exit i st) = some r ∧ At nt X w₀ ρ₀ σ₀ w ρ st a
  | .ret, a, w => ∃ st ρ, k (.ret st) = some r ∧ At nt X w₀ ρ₀ σ₀ w ρ st a
  | _, _, _ => False

theorem Bits.none (ops : Array Oper) : Bits ops 0 (Array.replicate ops.size false) := by
  refine ⟨by simp, fun j => ?_⟩
  simp only [Nat.zero_testBit, Array.getD_eq_getD_getElem?, Array.getElem?_replicate]
  split <;> rfl

theorem evK_ok {C : Ctx} (hg : Good W₀ C.P C.sg C.callF) (hb : Bodied C.P C.callF) (hm : C.m = ρ₀.length) (hmix : C.P.follows .mixedOrders = true) :
    ∀ (c : Code) (ex : List (Nat × Nat)) (live : Nat) (st : St) (k : Out → Option R) (a : Act) (w : World) (ρ : List RB), evK C c ex live st k = some r → At C.nt X w₀ ρ₀ σ₀ w ρ st a → c.wp C.P (Post C.nt X w₀ ρ₀ σ₀ k r) a w := by
  intro c
  induction c with
  | skip =>
    intro ex live st k a w ρ h p
    simp only [evK] at h
    exact wp_skip ⟨st, ρ, h, p⟩
  | region id ops draw =>
    intro ex live st k a w ρ h p
    simp only [evK] at h
    cases draw with
    | false =>
      simp only at h
      refine wp_region ?_
      have := seqK_ok hg hb (Q := Post C.nt X w₀ ρ₀ σ₀ k r) (fun st' ρ' a' w' h' p' => ⟨st', ρ', h', p'⟩) ops.toList [] st a w ρ rfl h p
      rw [List.range_eq_range']
      simpa using this
    | true =>
      simp only at h
      split at h
      · rename_i hns
        exact wp_region_held hmix (drawK_ok hg hb hns (Q := Post C.nt X w₀ ρ₀ σ₀ k r) (fun st' ρ' a' w' h' p' => ⟨st', ρ', h', p'⟩) (fun _ _ _ h => h) ops.size 0 _ st a _ ρ (.none ops) h p.drew)
      · cases h
  | seq x y ihx ihy =>
    intro ex live st k a w ρ h p
    simp only [evK] at h
    refine wp_seq (wp_mono (ihx _ _ _ _ _ _ _ h p) fun e a' w' hp => ?_)
    cases e with
    | normal =>
      obtain ⟨st', ρ', hk, p'⟩ := hp
      simp only [seqKont] at hk
      split at hk
      · exact ihy _ _ _ _ _ _ _ hk p'
      · obtain ⟨st₂, ρ₂, hk₂, p₂⟩ := normK_ok hm hk p'
        exact ihy _ _ _ _ _ _ _ hk₂ p₂
    | exit i => exact hp
    | ret => exact hp
    | goto l => exact hp.elim
    | panic c => exact hp.elim
    | outgrown => exact hp.elim
  | cond c x y ihx ihy =>
    intro ex live st k a w ρ h p
    simp only [evK] at h
    split at h
    · rename_i t ht
      have e := (ht ▸ opd_ok p.env c : AVR _ _ _ _ _).val_eq
      refine wp_cond e ?_
      cases t with
      | true => exact ihx _ _ _ _ _ _ _ h p
      | false => exact ihy _ _ _ _ _ _ _ h p
    · cases h
  | block id body ih =>
    intro ex live st k a w ρ h p
    simp only [evK] at h
    refine wp_block (wp_mono (ih _ _ _ _ _ _ _ h p) fun e a' w' hp => ?_)
    cases e with
    | normal => exact hp
    | exit i =>
      obtain ⟨st', ρ', hk, p'⟩ := hp
      simp only [blockKont] at hk
      simp only [Exit.inBlock]
      by_cases e : i = id
      · subst e
        rw [if_pos rfl]
        simp only [beq_self_eq_true] at hk
        exact ⟨st', ρ', hk, p'⟩
      · rw [if_neg e]
        have : (i == id) = false := by simpa using e
        rw [this] at hk
        exact ⟨st', ρ', hk, p'⟩
    | ret => exact hp
    | goto l => exact hp.elim
    | panic c => exact hp.elim
    | outgrown => exact hp.elim
  | loop body ih =>
    intro ex live st k a w ρ h p
    simp only [evK] at h
    generalize codeU C.R (.loop body) ex live = lb at h
    obtain ⟨st₁, ρ₁, h₁, p₁⟩ := normK_ok hm h p
    have rounds : ∀ (n : Nat) (st : St) (a : Act) (w : World) (ρ : List RB), loopN C lb (fun st k => evK C body ex lb st k) n st k = some r → At C.nt X w₀ ρ₀ σ₀ w ρ st a → Code.rounds C.P body (Post C.nt X w₀ ρ₀ σ₀ k r) n a w := by
      intro n
      induction n with
      | zero => intro st a w ρ h p; simp only [loopN] at h; cases h
      | succ n ihn =>
        intro st a w ρ h p
        simp only [loopN] at h
        rw [rounds_succ]
        refine wp_mono (ih _ _ _ _ _ _ _ h p) fun e a' w' hp => ?_
        cases e with
        | normal =>
          obtain ⟨st', ρ', hk, p'⟩ := hp
          simp only [loopKont] at hk
          obtain ⟨st₂, ρ₂, hk₂, p₂⟩ := normK_ok hm hk p'
          exact ihn _ _ _ _ hk₂ p₂
        | exit i => exact hp
        | ret => exact hp
        | goto l => exact hp.elim
        | panic c => exact hp.elim
        | outgrown => exact hp.elim
    exact wp_loop_rounds C.K (rounds C.K st₁ a w ρ₁ h₁ p₁)
  | exit id =>
    intro ex live st k a w ρ h p
    simp only [evK] at h
    exact wp_exit ⟨st, ρ, h, p⟩
  | ret =>
    intro ex live st k a w ρ h p
    simp only [evK] at h
    exact wp_ret ⟨st, ρ, h, p⟩
  | _ =>
    intro ex live st k a w ρ h p
    simp only [evK] at h
    cases h

end

end Go.Proofs.Ytmenplonaapliaa.AE
end
section
set_option linter.unusedSectionVars false
set_option linter.unusedVariables false
set_option linter.unusedSimpArgs false
namespace Go.Proofs.Ytmenplonaapliaa.AE
open Go Go.RowKit
variable {W₀ : World}

def resSem (tmps : Array Value) : ResultVar → Sem Value
  | .tmp t => pure (tmps.getD t undef)
  | .cell a t => do loadVar t (← asAddr (tmps.getD a undef))

theorem results_eq (fn : Func) (tmps : Array Value) : results fn tmps = (do
    let vs ← fn.results.mapM (resSem tmps)
    pure (if h : vs.size = 1 then vs[0] else .tuple vs)) := by
  unfold results
  congr 1

theorem mapM_list {P : Program} {w : World} {α : Type} {g : α → Sem Value} : ∀ {l : List α} {us : List Value}, l.length = us.length → (∀ (i : Nat) x u, l[i]? = some x → us[i]? = some u → (g x).run P w = .ok u w) → (l.mapM g).run P w = .ok us w
  | [], us, hl, _ => by
    have : us = [] := List.length_eq_zero_iff.1 hl.symm
    subst this
    simp
  | x :: l, [], hl, _ => by cases hl
  | x :: l, u :: us, hl, h => by
    have h0 := h 0 x u rfl rfl
    have ih := mapM_list (l := l) (us := us) (by simpa using hl) (fun i y v h1 h2 => h (i + 1) y v (by simpa using h1) (by simpa using h2))
    rw [List.mapM_cons]
    simp [h0, ih]

section
variable {X : XO W₀} {w : World} {ρ : List RB} {st : St} {a : Act} {P : Program}

theorem resultOf_ok (m : Mem X w ρ st.blks) (henv : EnvR (OX X ρ st.blks) w ρ st.env a) {rv : ResultVar} {v1 : AV1} (h : resultOf P st rv = some v1) : ∃ v, AV1R (OX X ρ st.blks) w ρ v1 v ∧ (resSem a.tmps rv).run P w = .ok v w := by
  cases rv with
  | tmp t =>
    simp only [resultOf] at h
    split at h
    · rename_i v hv
      cases h
      have := henv t
      rw [hv] at this
      cases this with
      | one h => exact ⟨_, h, by simp [resSem]⟩
    · cases h
  | cell t ty =>
    simp only [resultOf] at h
    split at h
    · rename_i id off hv
      have ht := henv t
      rw [hv] at ht
      generalize htv : a.tmps.getD t undef = tv at ht
      split at h
      · rename_i T cs hk
        rw [getAt_eq] at hk
        cases ht with
        | one ht => cases ht with | sc ht => cases ht with
          | ref hr =>
            have hb := m.blk id _ _ hr hk
            cases hb with
            | @cells b _ T' _ vs fr hh hu hc =>
              obtain ⟨av, v, h1, h2, h3⟩ := load_part (S := (· = w)) (T := T') (fr := fr) (base := 0) (off := off) (cs := cs) (vs := vs) (fun i c hc' => by
                have hlt : i < vs.size := by have := get_lt hc'; have := hc.1; simp at this; omega
                exact ⟨vs[i], by simp [hlt], hc.2 i c _ hc' (by simp [hlt])⟩) (fun w' e => e.symm ▸ hh) h
              split at h1
              · rename_i v'
                cases h1
                cases h2 with
                | one h2 => 
                  have h3 := h3 w rfl
                  rw [Nat.zero_add] at h3
                  exact ⟨v, h2, by simp [resSem, htv, asAddr, h3]⟩
              · cases h1
      · cases h
    · cases h

theorem optMap_results (m : Mem X w ρ st.blks) (henv : EnvR (OX X ρ st.blks) w ρ st.env a) : ∀ {l : List ResultVar} {vs : List AV1}, optMap (resultOf P st) l = some vs → ∃ us, AV1sR (OX X ρ st.blks) w ρ vs us ∧ l.length = us.length ∧ ∀ (i : Nat) x u, l[i]? = some x → us[i]? = some u → (resSem a.tmps x).run P w = .ok u w
  | [], vs, h => by simp only [optMap] at h; cases h; exact ⟨[], ⟨rfl, by simp⟩, rfl, by simp⟩
  | x :: l, vs, h => by
    simp only [optMap] at h
    split at h
    · rename_i v vs' h1 h2
      cases h
      obtain ⟨u, g1, g2⟩ := resultOf_ok m henv h1
      obtain ⟨us, k1, k2, k3⟩ := optMap_results m henv h2
      refine ⟨u :: us, .cons g1 k1, by simp [k2], fun i y v hy hv => ?_⟩
      cases i with
      | zero => simp at hy hv; subst hy; subst hv; exact g2
      | succ i => exact k3 i y v (by simpa using hy) (by simpa using hv)
    · cases h

theorem finK_ok {s : Sig} {fn : Func} {w₀ : World} {ρ₀ : List RB} {σ₀ : List Blk} {nt : Nat} {t : PD s.its} {o : Out} (ho : o = .norm st ∨ o = .ret st) (h : finK P s fn o = some t) (p : At nt X w₀ ρ₀ σ₀ w ρ st a) :
    ∃ v, (results fn a.tmps).run P w = .ok v w ∧ Gave s X w₀ ρ₀ σ₀ t v w := by
  have h' : finK P s fn (.norm st) = some t := by rcases ho with rfl | rfl <;> exact h
  simp only [finK] at h'
  split at h'
  · rename_i htup
    split at h'
    · rename_i vals hv
      obtain ⟨us, k1, k2, k3⟩ := optMap_results p.step.mem p.env hv
      have hrun : (fn.results.mapM (resSem a.tmps)).run P w = .ok us.toArray w := by
        rw [Array.mapM_eq_mapM_toList]
        simp [mapM_list k2 k3]
      have hsz : us.length = fn.results.size := by rw [← k2]; simp
      refine ⟨_, by rw [results_eq, Sem.run_bind, hrun]; rfl, ρ, st.blks, vals, us, p.step, h', k1, ?_⟩
      by_cases h1 : fn.results.size = 1
      · have : s.tup = false := by
          cases hs : s.tup with
          | false => rfl
          | true => rw [hs, h1] at htup; simp at htup
        rw [this]
        have hl : us.length = 1 := by omega
        obtain ⟨u, rfl⟩ := List.length_eq_one_iff.1 hl
        simp
      · have : s.tup = true := by
          cases hs : s.tup with
          | true => rfl
          | false => rw [hs] at htup; simp at htup; exact absurd htup h1
        rw [this]
        have hl : ¬ us.length = 1 := by omega
        simp [hl]
    · cases h'
  · cases h'

theorem slots_look : ∀ (args : List AV1) (i t : Nat), look (slots args i) t = if i ≤ t then (match args[t - i]? with | some v => .one v | none => .any) else .any
  | [], i, t => by simp [slots, look]
  | v :: r, i, t => by
    rw [slots, look_cons, slots_look r (i + 1) t]
    by_cases e : i = t
    · subst e; simp
    · rw [if_neg e]
      by_cases h : i ≤ t
      · have : t - i = (t - (i + 1)) + 1 := by omega
        rw [if_pos h, if_pos (by omega : i + 1 ≤ t), this]
        simp
      · rw [if_neg h, if_neg (by omega)]

end

/-- What is given by hand is right. -/
structure ExtOk (W₀ : World) (P : Program) (sg : FuncId → Sig) : Prop where
  calls : ∀ (f : FuncId) g, (sg f).ext = some g → ∀ args σ t, g args σ = some t → ∀ (X : XO W₀) (w : World) (ρ : List RB) (vs : Array Value), Mem X w ρ σ → AV1sR (OX X ρ σ) w ρ args vs.toList →
    Calls P f vs w fun e w' => ∃ v, e = .returned v ∧ Gave (sg f) X w ρ σ t v w'
  body : ∀ (f : FuncId) g, (sg f).ext = some g → ∃ fn, P.funcs[f]? = some fn ∧ fn.body.isNone = false
  op : ∀ (f : FuncId) g, (sg f).op = some g → OpFn P f g

/-- Of one function. -/
def ExtFn (W₀ : World) (P : Program) (f : FuncId) (s : Sig) : Prop :=
  (∀ g, s.ext = some g → (∀ args σ t, g args σ = some t → ∀ (X : XO W₀) (w : World) (ρ : List RB) (vs : Array Value), Mem X w ρ σ → AV1sR (OX X ρ σ) w ρ args vs.toList →
    Calls P f vs w fun e w' => ∃ v, e = .returned v ∧ Gave s X w ρ σ t v w') ∧ ∃ fn, P.funcs[f]? = some fn ∧ fn.body.isNone = false) ∧ ∀ g, s.op = some g → OpFn P f g

theorem ExtFn.nothing {P : Program} {f : FuncId} {s : Sig} (h : s.ext.isNone = true) (h' : s.op.isNone = true) : ExtFn W₀ P f s :=
  ⟨fun g e => absurd h (by rw [e]; simp), fun g e => absurd h' (by rw [e]; simp)⟩

def extAll (W₀ : World) (P : Program) : List (Nat × Sig) → Prop
  | [] => True
  | p :: l => ExtFn W₀ P p.1 p.2 ∧ extAll W₀ P l

theorem ExtOk.of {P : Program} {l : List (Nat × Sig)} (h : extAll W₀ P l) : ExtOk W₀ P (sigOf l) := by
  have key : ∀ (l : List (Nat × Sig)), extAll W₀ P l → ∀ f, ExtFn W₀ P f (sigOf l f) := by
    intro l
    induction l with
    | nil => intro _ f; exact .nothing rfl rfl
    | cons p l ih =>
      intro h f
      simp only [sigOf]
      split
      · rename_i e; have := eq_of_beq e; subst this; exact h.1
      · exact ih h.2 f
  exact ⟨fun f g hg => ((key l h f).1 g hg).1, fun f g hg => ((key l h f).1 g hg).2, fun f g hg => (key l h f).2 g hg⟩

/-- Nothing is given by hand. -/
theorem ExtOk.none {P : Program} {l : List (Nat × Sig)} (h : (l.all fun p => p.2.ext.isNone && p.2.op.isNone) = true) : ExtOk W₀ P (sigOf l) := by
  refine .of ?_
  induction l with
  | nil => trivial
  | cons p l ih =>
    simp only [List.all_cons, Bool.and_eq_true] at h
    exact ⟨.nothing h.1.1 h.1.2, ih (by simpa using h.2)⟩

theorem bodied (P : Program) (sg : FuncId → Sig) (hx : ExtOk W₀ P sg) (hn : ∀ (f : FuncId) (fn : Func), P.funcs[f]? = some fn → (fn.name == "runtime.NumGoroutine") = false) (K : Nat) : Bodied P (evFn P sg K) := by
  refine ⟨fun f args σ t h => ?_, hx.op⟩
  cases K with
  | zero => simp [evFn] at h
  | succ K =>
    simp only [evFn] at h
    split at h
    · rename_i g hg
      obtain ⟨fn, hf, hb⟩ := hx.body f g hg
      exact ⟨fn, hf, hn f fn hf, hb⟩
    · split at h
      · rename_i fn hf
        split at h
        · rename_i c hc
          exact ⟨fn, hf, hn f fn hf, by rw [hc]; rfl⟩
        · cases h
      · cases h

/-- **The evaluator is right.** -/
theorem good (P : Program) (sg : FuncId → Sig) (hx : ExtOk W₀ P sg) (hmix : P.follows .mixedOrders = true) (hn : ∀ (f : FuncId) (fn : Func), P.funcs[f]? = some fn → (fn.name == "runtime.NumGoroutine") = false) : ∀ K, Good W₀ P sg (evFn P sg K)
  | 0 => fun f args σ t h => by simp [evFn] at h
  | K + 1 => fun f args σ t h X w ρ vs m ha => by
    simp only [evFn] at h
    split at h
    · rename_i g hg
      exact hx.calls f g hg args σ t h X w ρ vs m ha
    · split at h
      case h_2 => cases h
      rename_i fn hf
      split at h
      · rename_i c hc
        refine calls_of_wp hf hc ?_
        have p : At fn.ntmps X w ρ σ w ρ ⟨slots args 0, σ⟩ { tmps := vs ++ Array.replicate (fn.ntmps - vs.size) undef, defers := [] } := by
          refine ⟨still (st := ⟨slots args 0, σ⟩) m _, fun t => ?_, rfl, by simp; omega⟩
          rw [slots_look]
          simp only [Nat.zero_le, if_true, Nat.sub_zero]
          split
          · rename_i v hv
            have hlt : t < vs.size := by have := get_lt hv; have := ha.1; simp at this; omega
            have e : (vs ++ Array.replicate (fn.ntmps - vs.size) undef).getD t undef = vs[t] := by
              simp [Array.getD_eq_getD_getElem?, Array.getElem?_append, hlt]
            simp only [e]
            exact .one (ha.2 t v _ hv (by simp [hlt]))
          · exact any_ok
        refine wp_mono (evK_ok (C := ⟨P, sg, evFn P sg K, K, σ.length, (sg f).coer, (sg f).excl, (sg f).bcoer, resultsU fn.results.toList, fn.ntmps⟩) (good P sg hx hmix hn K) (bodied P sg hx hn K) m.len.symm hmix c _ _ _ _ _ _ ρ h p) fun e a' w' hp => ?_
        cases e with
        | normal =>
          obtain ⟨st', ρ', hk, p'⟩ := hp
          obtain ⟨v, hr, hv⟩ := finK_ok (.inl rfl) hk p'
          exact ⟨p'.defers, v, hr, v, rfl, hv⟩
        | ret =>
          obtain ⟨st', ρ', hk, p'⟩ := hp
          obtain ⟨v, hr, hv⟩ := finK_ok (.inr rfl) hk p'
          exact ⟨p'.defers, v, hr, v, rfl, hv⟩
        | exit i =>
          obtain ⟨st', ρ', hk, p'⟩ := hp
          simp only [finK] at hk
          cases hk
        | goto l => exact hp.elim
        | panic c => exact hp.elim
        | outgrown => exact hp.elim
      · cases h

end Go.Proofs.Ytmenplonaapliaa.AE
end
section
set_option linter.unusedVariables false
set_option linter.unusedSimpArgs false
namespace Go.Proofs.Ytmenplonaapliaa.AE
open Go Go.RowKit
variable {W₀ : World}

abbrev NoX : XO W₀ := fun _ => False

theorem own_none {b : Nat} : ¬ OX (NoX (W₀ := W₀)) [] [] b := by
  rintro (⟨id, r, k, h, _⟩ | h)
  · simp at h
  · exact h

theorem mem_none (w : World) : Mem (NoX (W₀ := w)) w [] [] :=
  ⟨rfl, fun id r k h => by simp at h, fun i j r k r' k' b h => by simp at h, fun b _ h => h, fun b h => h.elim, ⟨fun b _ h => own_none h, Nat.le_refl _, fun _ _ _ => rfl⟩⟩

theorem bool_of {O : Own} {w : World} {ρ : List RB} {vals : List AV1} {σ : List Blk} {t : Bool} {v : Value} (h : projIts [.sc .bool] vals σ = some t) (hv : AV1sR O w ρ vals [v]) : v = .bool t := by
  have hl : vals.length = 1 := hv.1
  obtain ⟨c, rfl⟩ := List.length_eq_one_iff.1 hl
  have h0 := hv.2 0 c v rfl rfl
  cases c with
  | agg cs => simp [projIts, projIt, projSc] at h
  | sc c =>
    cases c with
    | val u =>
      have e := h0.val_eq
      subst e
      cases v <;> simp [projIts, projIt, projSc, projAll, proj] at h
      subst h; rfl
    | _ => simp [projIts, projIt, projSc, projAll, proj] at h

/-- What a law's call comes to. -/
theorem law_calls {P : Program} {sg : FuncId → Sig} {callF : (f : FuncId) → List AV1 → List Blk → Option (PD (sg f).its)} {W : World} (hg : Good W P sg callF) {f : FuncId} {args : List AV1} {t : PD (sg f).its} (ht : callF f args [] = some t) (htup : (sg f).tup = false) {b : Bool}
    (hb : ∀ (O : Own) (w : World) (ρ : List RB) (vals : List AV1) (σ : List Blk) (v : Value), projIts (sg f).its vals σ = some t → AV1sR O w ρ vals [v] → v = .bool b) {vs : Array Value} (ha : AV1sR (OX (NoX (W₀ := W)) [] []) W [] args vs.toList) :
    Calls P f vs W fun e W' => e = .returned (.bool b) ∧ Below W.heap.size W W' := by
  refine (hg f args [] t ht NoX W [] vs (mem_none W) ha).mono fun e W' he => ?_
  obtain ⟨v, rfl, ρ', σ', vals, us, s, hp, hv, hu⟩ := he
  rw [htup] at hu
  simp only [Bool.false_eq_true, if_false] at hu
  subst hu
  have := hb _ _ _ _ _ _ hp hv
  subst this
  exact ⟨rfl, s.os, s.tape, s.output, s.turn.size, fun k hk => s.turn.block k hk own_none⟩

end Go.Proofs.Ytmenplonaapliaa.AE
end
section
set_option linter.unusedVariables false
set_option linter.unusedSimpArgs false
namespace Go.Proofs.Ytmenplonaapliaa.AE
open Go Go.RowKit Go.ChangeShapes Go.WideShapes Go.Deep

def Sh.bytes : Sh → Nat
  | .int .i64 | .int .u64 => 8
  | .int _ | .bool => 1
  | .str => 16
  | .list _ => 24
  | .prod a b => a.bytes + b.bytes

/-- The bounds that the row's reach gives. -/
def Gd : (e : Sh) → den e → Prop
  | .int k, n => (Lit.int k n).wf = true
  | .bool, _ => True
  | .str, s => s.size ≤ 140737488351232
  | .list e, l => l.length * e.bytes ≤ 140737488351232 ∧ ∀ x ∈ l, Gd e x
  | .prod a b, x => Gd a x.1 ∧ Gd b x.2

/-- These cells say so. -/
def Stands (O : Own) (W : World) (e : Sh) (a : den e) (cs : List Value) : Prop :=
  cs.length = e.size ∧ ∀ (vs : Array Value) (off : Nat), (∀ (i : Nat) v, cs[i]? = some v → vs[off + i]? = some v) → CellsAt O W e a vs off

section
variable {H : Type} (enc : TypeId × Value → H) (P : Program) (W : World) (O : Own)

def Opens (t : TypeId) (e : Sh) : Prop :=
  ∀ (fuel : Nat) (cs : List Value) (x : DataW H × List MemPlace), DataW.trod enc P W 0 (fun _ => true) true fuel t cs = some x → (∀ n ∈ x.1.weights P t, n ≤ 140737488351232) → ∃ a : den e, Stands O W e a cs ∧ Gd e a

def OpensF : List Field → Nat → Sh → Prop
  | [], _, _ => False
  | f :: [], off, e => f.offset = off ∧ P.cellsOf f.type = e.size ∧ Opens enc P W O f.type e
  | f :: g :: r, off, .prod a b => f.offset = off ∧ P.cellsOf f.type = a.size ∧ Opens enc P W O f.type a ∧ OpensF (g :: r) (off + a.size) b
  | _ :: _ :: _, _, _ => False

variable {enc P W O}

theorem stands_one {e : Sh} {a : den e} {v : Value} (he : e.size = 1) (h : ∀ (vs : Array Value) off, vs[off]? = some v → CellsAt O W e a vs off) : Stands O W e a [v] :=
  ⟨by simp [he], fun vs off hv => h vs off (by simpa using hv 0 v rfl)⟩

theorem opens_int {t : TypeId} {k : IntKind} (ht : P.underlying t = some (.int k)) : Opens enc P W O t (.int k) := by
  intro fuel cs x h _
  obtain ⟨n, rfl, _, hn⟩ := DataW.trod_int ht h
  exact ⟨n, stands_one rfl fun vs off h => h, hn⟩

theorem opens_bool {t : TypeId} (ht : P.underlying t = some .bool) : Opens enc P W O t .bool := by
  intro fuel cs x h _
  obtain ⟨n, rfl, _⟩ := DataW.trod_bool ht h
  exact ⟨n, stands_one rfl fun vs off h => h, trivial⟩

theorem opens_string {t : TypeId} (ht : P.underlying t = some .string) : Opens enc P W O t .str := by
  intro fuel cs x h hw
  obtain ⟨s, rfl, rfl, _⟩ := DataW.trod_string ht h
  refine ⟨s, stands_one rfl fun vs off h => h, ?_⟩
  have := hw s.data.toList.length (by simp [DataW.weights])
  simpa [Gd] using this

theorem openF {n : Nat} {cs : List Value} : ∀ {fs : List Field} {off : Nat} {e : Sh}, OpensF enc P W O fs off e → cs.length = off + e.size →
    (∀ (i : Nat) f, fs[i]? = some f → ∃ y, DataW.trod enc P W 0 (fun _ => true) true n f.type ((cs.drop f.offset).take (P.cellsOf f.type)) = some y ∧ ∀ q ∈ y.1.weights P f.type, q ≤ 140737488351232) →
    ∃ a : den e, Stands O W e a (cs.drop off) ∧ Gd e a
  | [], off, e, h, _, _ => h.elim
  | [f], off, e, h, hl, hf => by
    obtain ⟨rfl, h2, h3⟩ := h
    obtain ⟨y, h4, h5⟩ := hf 0 f rfl
    have hlen : (cs.drop f.offset).length = e.size := by rw [List.length_drop]; omega
    rw [List.take_of_length_le (by omega)] at h4
    exact h3 n _ y h4 h5
  | f :: g :: r, off, .prod a b, h, hl, hf => by
    obtain ⟨rfl, h2, h3, h6⟩ := h
    have hl' : cs.length = f.offset + (a.size + b.size) := hl
    obtain ⟨y, h4, h5⟩ := hf 0 f rfl
    obtain ⟨x₁, ⟨l₁, s₁⟩, g₁⟩ := h3 n _ y h4 h5
    obtain ⟨x₂, ⟨l₂, s₂⟩, g₂⟩ := openF h6 (by omega) (fun i f' hi => hf (i + 1) f' (by simpa using hi))
    refine ⟨(x₁, x₂), ⟨by rw [List.length_drop]; show _ = a.size + b.size; omega, fun vs off hv => ⟨s₁ vs off fun i v hi => ?_, s₂ vs (off + a.size) fun i v hi => ?_⟩⟩, g₁, g₂⟩
    · have hlt : i < P.cellsOf f.type := by have := get_lt hi; simp at this; omega
      rw [List.getElem?_take, if_pos hlt] at hi
      exact hv i v hi
    · rw [List.getElem?_drop] at hi
      have := hv (a.size + i) v (by rw [List.getElem?_drop, ← hi]; congr 1; omega)
      rw [← this]; congr 1; omega
  | _ :: _ :: _, _, .int _, h, _, _ => h.elim
  | _ :: _ :: _, _, .bool, h, _, _ => h.elim
  | _ :: _ :: _, _, .str, h, _, _ => h.elim
  | _ :: _ :: _, _, .list _, h, _, _ => h.elim

theorem opens_struct {t : TypeId} {fs : Array Field} {e : Sh} (ht : P.underlying t = some (.struct fs)) (hs : P.cellsOf t = e.size) (h : OpensF enc P W O fs.toList 0 e) : Opens enc P W O t e := by
  intro fuel cs x hx hw
  obtain ⟨xs, n, _, rfl, hlen, hxl, hf⟩ := DataW.trod_struct ht hx
  have := openF (n := n) (cs := cs) h (by omega) (fun i f hi => by
    have hi' : fs[i]? = some f := by simpa using hi
    have hlt : i < xs.length := by rw [hxl]; exact (Array.getElem?_eq_some_iff.1 hi').1
    refine ⟨xs[i], by rw [hf i f hi', List.getElem?_eq_getElem hlt], fun q hq => hw q ?_⟩
    simp only [DataW.weights, ht]
    exact DataW.weights_mem_each (j := i) (t := f.type) (d := xs[i].1) (by simp [hi']) (by simp [hlt]) q hq)
  simpa using this

theorem weights_all_mem {e : TypeId} {n : Nat} {d : DataW H} : ∀ {ds : List (DataW H)}, d ∈ ds → n ∈ d.weights P e → n ∈ DataW.weightsAll P e ds
  | d' :: r, hd, hn => by
    unfold DataW.weightsAll
    rcases List.mem_cons.1 hd with rfl | hd
    · exact List.mem_append_left _ hn
    · exact List.mem_append_right _ (weights_all_mem hd hn)

theorem choose_list {α : Type} {p : Nat → α → Prop} : ∀ n, (∀ i, i < n → ∃ a, p i a) → ∃ l : List α, l.length = n ∧ ∀ i a, l[i]? = some a → p i a
  | 0, _ => ⟨[], rfl, fun i a h => by simp at h⟩
  | n + 1, h => by
    obtain ⟨l, hl, hp⟩ := choose_list n (fun i hi => h i (by omega))
    obtain ⟨a, ha⟩ := h n (by omega)
    refine ⟨l ++ [a], by simp [hl], fun i b hb => ?_⟩
    rcases Nat.lt_trichotomy i n with hi | hi | hi
    · rw [List.getElem?_append_left (by omega)] at hb
      exact hp i b hb
    · subst hi
      rw [List.getElem?_append_right (by omega), hl] at hb
      simp at hb
      subst hb
      exact ha
    · rw [List.getElem?_append_right (by omega), List.getElem?_eq_none (by simp; omega)] at hb
      cases hb

theorem add_cell {a : Addr} {n : Nat} {v : Value} (h : W.cell? (a.add n) = some v) : ∃ us T fr, W.heap[a.block]? = some (.cells us T fr) ∧ us[a.off + n]? = some v ∧ (n = 0 → a.spot = none) := by
  unfold World.cell? at h
  have hb : (a.add n).block = a.block := by unfold Addr.add; split <;> rfl
  have ho : (a.add n).off = a.off + n := by unfold Addr.add; split <;> simp_all
  rw [hb] at h
  split at h
  · rename_i us T fr hh
    split at h
    · cases h
    · rename_i hs
      refine ⟨us, T, fr, hh, by rw [← ho]; exact h, fun hn => ?_⟩
      subst hn
      simpa [Addr.add] using hs
  · cases h

theorem opens_slice {t et : TypeId} {e : Sh} (hO : ∀ b, ¬ O b) (ht : P.underlying t = some (.slice et)) (hs : P.cellsOf et = e.size) (hb : e.bytes ≤ P.bytesOf et) (he : Opens enc P W O et e) : Opens enc P W O t (.list e) := by
  intro fuel cs x h hw
  rcases open_slice ht h with ⟨rfl, _⟩ | ⟨a, len, cap, m, n, D, Pl, rfl, _, hl, hm, hmm, rfl, hi⟩
  · exact ⟨[], stands_one rfl fun vs off hv => ⟨none, 0, hv, Nat.le_refl _, .inl rfl⟩, by simp [Gd]⟩
  · have hlm : len ≤ m := by rw [hmm]; simpa using hl
    have hwt : ((len + (m - len)) * P.bytesOf et) ≤ 140737488351232 := hw _ (by simp [DataW.weights, ht])
    obtain ⟨l, hll, hp⟩ := choose_list (α := den e) (p := fun i y => Gd e y ∧ ∃ c, Stands O W e y c ∧ ∀ q, q < e.size → W.cell? ((a.add (i * e.size)).add q) = c[q]?) len (fun i hil => by
      obtain ⟨cs', hc, htr⟩ := hi i (by omega)
      obtain ⟨y, hy, hg⟩ := he n cs' _ htr (fun q hq => by
        refine hw q ?_
        simp only [DataW.weights, ht]
        refine List.mem_cons_of_mem _ (List.mem_append_left _ (weights_all_mem (d := D i) ?_ hq))
        exact List.mem_map.2 ⟨i, by simpa using hil, rfl⟩)
      obtain ⟨_, hcl, hat⟩ := World.cells?_some hc
      rw [hs] at hat
      exact ⟨y, hg, cs', hy, hat⟩)
    have hbytes : l.length * e.bytes ≤ 140737488351232 := by
      have h1 : l.length * e.bytes ≤ (len + (m - len)) * P.bytesOf et := Nat.mul_le_mul (by omega) hb
      omega
    refine ⟨l, stands_one rfl fun vs off hv => ⟨some a, cap, by rw [hll]; exact hv, by omega, ?_⟩, hbytes, fun x hx => ?_⟩
    · cases l with
      | nil => exact .inl rfl
      | cons x0 l' =>
        refine .inr ?_
        obtain ⟨_, c0, ⟨k0, _⟩, h0⟩ := hp 0 x0 rfl
        have hpos := e.size_pos
        obtain ⟨us, T, fr, hh, _, hspot⟩ := add_cell (W := W) (a := a) (n := 0) (v := c0[0]'(by omega)) (by
          have := h0 0 hpos
          rw [Go.Deep.add_add] at this
          rw [Nat.zero_mul] at this
          rw [this, List.getElem?_eq_getElem (by omega)])
        have hsp := hspot rfl
        refine ⟨a.block, a.off, us, T, fr, by rw [← hsp], hO _, hh, fun i x hx => ?_⟩
        obtain ⟨_, c, ⟨k1, k2⟩, h1⟩ := hp i x hx
        refine k2 us (a.off + i * e.size) fun q v hq => ?_
        have hql : q < e.size := by have := get_lt hq; omega
        have h2 := h1 q hql
        rw [hq, Go.Deep.add_add] at h2
        obtain ⟨us', T', fr', hh', hu, _⟩ := add_cell h2
        rw [hh] at hh'; cases hh'
        rw [← hu]; congr 1; omega
    · obtain ⟨i, hi⟩ := List.getElem?_of_mem hx
      exact (hp i x hi).1

theorem arg_agg {ρ : List RB} {e : Sh} {a : den e} {cs : Array Value} (h : Stands O W e a cs.toList) : AV1R O W ρ (.agg (inj e a)) (.agg cs) := by
  have hc := h.2 cs 0 (fun i v hi => by simpa using hi)
  refine .agg ⟨by rw [inj_len, h.1], fun i c v hi hv => ?_⟩
  obtain ⟨v', h1, h2⟩ := inj_ok (ρ := ρ) hc i c hi
  have hv' : cs[0 + i]? = some v := by simpa using hv
  rw [h1] at hv'; cases hv'
  exact h2

theorem arg_sc {ρ : List RB} {e : Sh} {a : den e} {v : Value} {c : Sc} (h : Stands O W e a [v]) (hi : inj e a = [c]) : AV1R O W ρ (.sc c) v := by
  have hc := h.2 #[v] 0 (fun i u hi => by simpa using hi)
  obtain ⟨v', h1, h2⟩ := inj_ok (ρ := ρ) hc 0 c (by rw [hi]; rfl)
  cases h1
  exact .sc h2

end

end Go.Proofs.Ytmenplonaapliaa.AE
end
section
set_option linter.unusedVariables false
set_option linter.unusedSimpArgs false
namespace Go.Proofs.Ytmenplonaapliaa.AE
open Go Go.RowKit Go.ChangeShapes Go.WideShapes Go.Deep

def fitF (P : Program) (ft : TypeId → Sh → Bool) : List Field → Nat → Sh → Bool
  | [], _, _ => false
  | f :: [], off, e => Nat.beq f.offset off && Nat.beq (P.cellsOf f.type) e.size && ft f.type e
  | f :: g :: r, off, .prod a b => Nat.beq f.offset off && Nat.beq (P.cellsOf f.type) a.size && ft f.type a && fitF P ft (g :: r) (off + a.size) b
  | _ :: _ :: _, _, _ => false

def fitT (P : Program) : Nat → TypeId → Sh → Bool
  | 0, _, _ => false
  | n + 1, t, e => match P.underlying t with
    | some (.int k) => decide (e = .int k)
    | some .bool => decide (e = .bool)
    | some .string => decide (e = .str)
    | some (.slice et) => match e with
      | .list e' => Nat.beq (P.cellsOf et) e'.size && Nat.ble e'.bytes (P.bytesOf et) && fitT P n et e'
      | _ => false
    | some (.struct fs) => Nat.beq (P.cellsOf t) e.size && fitF P (fitT P n) fs.toList 0 e
    | _ => false

section
variable {H : Type} {enc : TypeId × Value → H} {P : Program} {W : World} {O : Own}

theorem fitF_ok {ft : TypeId → Sh → Bool} (hft : ∀ t e, ft t e = true → Opens enc P W O t e) : ∀ {fs : List Field} {off : Nat} {e : Sh}, fitF P ft fs off e = true → OpensF enc P W O fs off e
  | [], _, _, h => by simp [fitF] at h
  | [f], off, e, h => by
    simp only [fitF, Bool.and_eq_true] at h
    exact ⟨Nat.eq_of_beq_eq_true h.1.1, Nat.eq_of_beq_eq_true h.1.2, hft _ _ h.2⟩
  | f :: g :: r, off, .prod a b, h => by
    simp only [fitF, Bool.and_eq_true] at h
    exact ⟨Nat.eq_of_beq_eq_true h.1.1.1, Nat.eq_of_beq_eq_true h.1.1.2, hft _ _ h.1.2, fitF_ok hft h.2⟩
  | _ :: _ :: _, _, .int _, h => by simp [fitF] at h
  | _ :: _ :: _, _, .bool, h => by simp [fitF] at h
  | _ :: _ :: _, _, .str, h => by simp [fitF] at h
  | _ :: _ :: _, _, .list _, h => by simp [fitF] at h

theorem fitT_ok (hO : ∀ b, ¬ O b) : ∀ (n : Nat) (t : TypeId) (e : Sh), fitT P n t e = true → Opens enc P W O t e
  | 0, _, _, h => by simp [fitT] at h
  | n + 1, t, e, h => by
    simp only [fitT] at h
    split at h
    · rename_i k hu; have := of_decide_eq_true h; subst this; exact opens_int hu
    · rename_i hu; have := of_decide_eq_true h; subst this; exact opens_bool hu
    · rename_i hu; have := of_decide_eq_true h; subst this; exact opens_string hu
    · rename_i et hu
      split at h
      · rename_i e'
        simp only [Bool.and_eq_true] at h
        exact opens_slice hO hu (Nat.eq_of_beq_eq_true h.1.1) (Nat.le_of_ble_eq_true h.1.2) (fitT_ok hO n _ _ h.2)
      · cases h
    · rename_i fs hu
      simp only [Bool.and_eq_true] at h
      exact opens_struct hu (Nat.eq_of_beq_eq_true h.1) (fitF_ok (fitT_ok hO n) h.2)
    · cases h

end

end Go.Proofs.Ytmenplonaapliaa.AE
end
section
set_option linter.unusedVariables false
namespace Go.Proofs.Ytmenplonaapliaa.AE
open Go

/-! ### Plenty of fuel, of every kind -/

abbrev Ix := Nat → Nat
def upd (v : Ix) (i n : Nat) : Ix := fun j => match Nat.beq j i with | true => n | false => v j
theorem upd_self (v : Ix) (i n : Nat) : upd v i n i = n := by unfold upd; rw [Nat.beq_refl]
theorem upd_other (v : Ix) {i j : Nat} (n : Nat) (h : j ≠ i) : upd v i n j = v j := by
  unfold upd
  cases hb : Nat.beq j i with
  | true => exact absurd (Nat.eq_of_beq_eq_true hb) h
  | false => rfl
theorem upd_upd (v : Ix) (i n : Nat) (h : v i = n) : upd v i n = v := by
  funext j
  by_cases hj : j = i
  · rw [hj, upd_self, h]
  · rw [upd_other v n hj]
theorem upd_upd' (v : Ix) (i m n : Nat) : upd (upd v i m) i n = upd v i n := by
  funext j
  by_cases hj : j = i
  · rw [hj, upd_self, upd_self]
  · rw [upd_other _ n hj, upd_other _ m hj, upd_other _ n hj]

def Sat (p : Ix → Prop) : Prop := ∃ m, ∀ v : Ix, (∀ i, m ≤ v i) → p v
theorem Sat.both {p q : Ix → Prop} : Sat p → Sat q → Sat fun v => p v ∧ q v
  | ⟨m, h⟩, ⟨n, g⟩ => ⟨max m n, fun v hv => ⟨h v fun i => by have := hv i; omega, g v fun i => by have := hv i; omega⟩⟩
theorem Sat.imp {p q : Ix → Prop} (h : ∀ v, p v → q v) : Sat p → Sat q
  | ⟨m, g⟩ => ⟨m, fun v hv => h v (g v hv)⟩
theorem Sat.of {p : Ix → Prop} (h : ∀ v, p v) : Sat p := ⟨0, fun v _ => h v⟩

section
variable {α β R : Type}

open Classical in
noncomputable def lim (a : Ix → Option α) : Option α :=
  if h : ∃ r, Sat fun v => a v = some r then some h.choose else none

theorem lim_some {a : Ix → Option α} {r : α} : lim a = some r ↔ Sat fun v => a v = some r := by
  unfold lim
  constructor
  · intro h
    split at h
    · rename_i h1
      have := h1.choose_spec
      rw [← Option.some.inj h]
      exact this
    · cases h
  · intro h
    have h1 : ∃ r, Sat fun v => a v = some r := ⟨r, h⟩
    rw [dif_pos h1]
    obtain ⟨m, hm⟩ := h1.choose_spec.both h
    have := hm (fun _ => m) (fun _ => Nat.le_refl _)
    exact congrArg some (Option.some.inj (this.1.symm.trans this.2))

/-- What stands on the right is what the left comes to, if it is anything. -/
def App (a : Ix → Option α) (b : Option α) : Prop := ∀ r, b = some r → Sat fun v => a v = some r

theorem App.lim {a : Ix → Option α} : App a (lim a) := fun _ h => lim_some.1 h
theorem App.to {a : Ix → Option α} {b : Option α} (h : App a b) {r : α} (hb : b = some r) : AE.lim a = some r := lim_some.2 (h r hb)
theorem App.const {b : Option α} : App (fun _ => b) b := fun r h => .of fun _ => h
theorem App.val {r : α} : App (fun _ => some r) (some r) := App.const
theorem App.no : App (fun _ => none) (none : Option α) := App.const
theorem App.cond {t : Bool} {a c : Ix → Option α} {b d : Option α} (h : App a b) (g : App c d) : App (fun v => bif t then a v else c v) (bif t then b else d) := by
  cases t
  · exact g
  · exact h
theorem App.ite {p : Prop} [Decidable p] {a c : Ix → Option α} {b d : Option α} (h : App a b) (g : App c d) : App (fun v => if p then a v else c v) (if p then b else d) := by
  by_cases hp : p
  · simp only [if_pos hp]; exact h
  · simp only [if_neg hp]; exact g
theorem App.guard {t : Bool} {a : Ix → Option α} {b : Option α} (h : App a b) : App (fun v => guardK t (a v)) (guardK t b) := App.cond h App.const
theorem App.bind {a : Ix → Option α} {b : Option α} {f : Ix → α → Option β} {g : α → Option β} (h : App a b) (k : ∀ x, App (fun v => f v x) (g x)) : App (fun v => (a v).bind (f v)) (b.bind g) := by
  intro r hr
  cases b with
  | none => cases hr
  | some x => exact ((h x rfl).both (k x r hr)).imp fun v hv => by show (a v).bind (f v) = some r; rw [hv.1]; exact hv.2
theorem App.meet {inst : DecidableEq α} {a c : Ix → Option α} {b d : Option α} (h : App a b) (g : App c d) : App (fun v => meet (a v) (c v)) (meet b d) := by
  intro r hr
  unfold AE.meet at hr ⊢
  split at hr
  · rename_i e
    refine ((h r hr).both (g r (e ▸ hr))).imp fun v hv => ?_
    exact (if_pos (hv.1.trans hv.2.symm)).trans hv.1
  · cases hr

/-- One unit of fuel of the kind i is used up. -/
theorem App.step {a B : Ix → Option α} {b : Option α} (i : Nat) (h : ∀ v, a (upd v i (v i + 1)) = B v) (hb : App B b) : App a b := by
  intro r hr
  obtain ⟨m, hm⟩ := hb r hr
  refine ⟨m + 1, fun v hv => ?_⟩
  have e := h (upd v i (v i - 1))
  rw [upd_self, upd_upd', show v i - 1 + 1 = v i by have := hv i; omega, upd_upd v i _ rfl] at e
  show a v = some r
  rw [e]
  refine hm _ fun j => ?_
  by_cases hj : j = i
  · rw [hj, upd_self]; have := hv i; omega
  · rw [upd_other _ _ hj]; have := hv j; omega
theorem App.same {a B : Ix → Option α} {b : Option α} (h : ∀ v, a v = B v) (hb : App B b) : App a b := (funext h : a = B) ▸ hb
/-- Fuel of the kind i is that of the first kind. -/
theorem App.enter {a : Ix → Option α} {b : Option α} (i : Nat) (h : App a b) : App (fun v => a (upd v i (v 0))) b := by
  intro r hr
  obtain ⟨m, hm⟩ := h r hr
  refine ⟨m, fun v hv => hm _ fun j => ?_⟩
  by_cases hj : j = i
  · rw [hj, upd_self]; exact hv 0
  · rw [upd_other _ _ hj]; exact hv j

theorem bind_some {a : Option α} {x : α} {f : α → Option β} (h : a = some x) : a.bind f = f x := by rw [h]; rfl
theorem guard_true {g : Bool} {a : Option α} (h : g = true) : guardK g a = a := by rw [h]; rfl
theorem guard_some {g : Bool} {a : Option α} {r : α} : guardK g a = some r ↔ g = true ∧ a = some r := by
  cases g
  · exact ⟨fun h => (nomatch h), fun h => (nomatch h.1)⟩
  · exact ⟨fun h => And.intro rfl h, fun h => h.2⟩
theorem meet_some {inst : DecidableEq α} {a b : Option α} {r : α} : meet a b = some r ↔ a = some r ∧ b = some r := by
  unfold meet
  split
  · rename_i h; rw [h]; simp
  · rename_i h; simp; intro h1 h2; exact h (h1.trans h2.symm)
theorem lim0 {a : Nat → Option α} {r : α} (h : AE.lim (fun v => a (v 0)) = some r) : ∃ K, a K = some r := by
  obtain ⟨m, hm⟩ := lim_some.1 h
  exact ⟨m, hm (fun _ => m) fun _ => Nat.le_refl _⟩
end
end Go.Proofs.Ytmenplonaapliaa.AE
end
section
set_option linter.unusedVariables false
namespace Go.Proofs.Ytmenplonaapliaa.AE
open Go Go.RowKit

/-- Which of two texts stands first. -/
def cmpS (a b : ByteArray) : Int := bif strLt a b then -1 else bif strLt b a then 1 else 0

def opCompare : List AV1 → Option Value
  | [.sc (.val (.string a)), .sc (.val (.string b))] => some (.int .i64 (cmpS a b))
  | _ => none

/-- Where a byte is first met. -/
def idxB (s : ByteArray) (c : Int) : Int := firstIdx s c.toNat.toUInt8

def opIndexByte : List AV1 → Option Value
  | [.sc (.val (.string s)), .sc (.val (.int .u8 c))] => some (.int .i64 (idxB s c))
  | _ => none

theorem cmpS_eq (a b : ByteArray) : Lib.compareBytes a.data.toList b.data.toList = cmpS a b := by
  have key : ∀ x y : List UInt8, Lib.compareBytes x y = bif Op.bytesLess x y then -1 else bif Op.bytesLess y x then 1 else 0 := by
    intro x
    induction x with
    | nil => intro y; cases y <;> simp [Lib.compareBytes, Op.bytesLess]
    | cons a x ih =>
      intro y
      cases y with
      | nil => simp [Lib.compareBytes, Op.bytesLess]
      | cons b y =>
        simp only [Lib.compareBytes, Op.bytesLess]
        by_cases h1 : a < b
        · simp [h1]
        · by_cases h2 : b < a
          · have h3 : (a == b) = false := by
              rw [beq_eq_false_iff_ne]; rintro rfl; exact h1 h2
            simp [h1, h2, h3]
          · have h3 : a = b := by
              apply UInt8.toNat_inj.1
              simp only [UInt8.lt_iff_toNat_lt] at *
              omega
            subst h3
            simp [h1, ih y]
  unfold cmpS strLt
  rw [ByteArray.toList_eq, ByteArray.toList_eq]
  exact key _ _

section
variable {W₀ : World} {P : Program} {f : FuncId} {fn : Func} {s : Sig}

theorem two_vals {O : Own} {w : World} {ρ : List RB} {x y : Value} {vs : Array Value} (h : AV1sR O w ρ [.sc (.val x), .sc (.val y)] vs.toList) : vs = #[x, y] := by
  obtain ⟨u, us, h0, h1, h2⟩ := AV1sR.tail h
  obtain ⟨u', us', h0', h1', h2'⟩ := AV1sR.tail h2
  have : us' = [] := List.length_eq_zero_iff.1 h2'.1.symm
  subst this; subst h0'
  rw [h1.val_eq, h1'.val_eq] at h0
  cases vs with
  | mk l => exact congrArg Array.mk h0

theorem ExtFn.ofOp {g : List AV1 → Option Value} (hs : s.ext.isNone = true) (ho : s.op = some g) (h : OpFn P f g) : ExtFn W₀ P f s :=
  ⟨fun g' e => absurd hs (by rw [e]; simp), fun g' e => by rw [ho] at e; cases e; exact h⟩

theorem opCompare_ok (hf : P.funcs[f]? = some fn) (hname : (fn.name == "runtime.NumGoroutine") = false) (hb : fn.body.isNone = true) (hn : Extern.findNext fn = none) (he : Extern.find fn = some Extern.BytealgCompare.compare) : OpFn P f opCompare := by
  intro ass v h O w ρ vs ha w'
  unfold opCompare at h
  split at h
  · cases h
    rw [two_vals ha, run_callFunc_extern hf hname hb hn he, Lib.run_compareString, cmpS_eq]
    rfl
  · cases h

theorem opIndexByte_ok (hf : P.funcs[f]? = some fn) (hname : (fn.name == "runtime.NumGoroutine") = false) (hb : fn.body.isNone = true) (hn : Extern.findNext fn = none) (he : Extern.find fn = some Extern.BytealgIndexByte.indexByte) : OpFn P f opIndexByte := by
  intro ass v h O w ρ vs ha w'
  unfold opIndexByte at h
  split at h
  · cases h
    rw [two_vals ha, run_callFunc_extern hf hname hb hn he, run_indexByte_string]
    rfl
  · cases h

end
end Go.Proofs.Ytmenplonaapliaa.AE
end
section
set_option linter.unusedVariables false
set_option linter.unusedSimpArgs false
namespace Go.Proofs.Ytmenplonaapliaa.AE
open Go Go.RowKit Go.Shelf Go.Lib

/-- What a program holds where it holds slices.Insert at elements of so many cells. -/
structure InsLay (P : Program) (ρ : Ren) (f : FuncId) (nm : String) (fo : Func) (sz : Nat) : Prop where
  mixed : P.follows .mixedOrders = true
  fn : P.funcs[f]? = some { Body2.n22 ρ with name := nm }
  ffo : P.funcs[ρ.f 29]? = some fo
  o1 : (fo.name == "runtime.NumGoroutine") = false
  o2 : fo.body.isNone = true
  o3 : Extern.findNext fo = none
  o4 : Extern.find fo = some (Extern.SlicesOverlaps.overlaps #[ρ.t 24, ρ.t 24] #[ρ.t 4])
  t0 : P.underlying (ρ.t 0) = some (.tuple #[])
  t3 : P.underlying (ρ.t 3) = some (.int .i64)
  t4 : P.underlying (ρ.t 4) = some .bool
  t24 : P.underlying (ρ.t 24) = some (.slice (ρ.t 9))
  i9 : (P.info? (ρ.t 9)).map (fun i => (i.zero.map fun z => z.cells.size, i.size, decide (i.bytes ≤ 4096))) = some (some sz, sz, true)
  pos : 0 < sz

section
variable {P : Program} {ρ : Ren} {f : FuncId} {nm : String} {fo : Func} {sz : Nat}

theorem InsLay.info (L : InsLay P ρ f nm fo sz) : ∃ i z, P.info? (ρ.t 9) = some i ∧ i.zero = some z ∧ z.cells.size = sz ∧ i.size = sz ∧ i.bytes ≤ 4096 := by
  have h := L.i9
  cases hi : P.info? (ρ.t 9) with
  | none => rw [hi] at h; cases h
  | some i =>
    rw [hi] at h
    simp only [Option.map_some, Option.some.injEq, Prod.mk.injEq, Option.map_eq_some_iff, decide_eq_true_eq] at h
    obtain ⟨⟨z, h1, h2⟩, h3, h4⟩ := h
    exact ⟨i, z, rfl, h1, h2, h3, h4⟩

/-- Cells copied from one row into another one, of any size. -/
theorem run_copyS (w : World) (dT sT ty elem : TypeId) (b o dLen dCap : Nat) (a : Addr) (sLen sCap n : Nat) (cs : List Value)
    (hu : P.underlying dT = some (.slice elem)) (hs : (P.info? elem).map (·.size) = some sz) (hn : n = Nat.min sLen dLen) (hl : cs.length = n * sz)
    (hsrc : ∀ j v, cs[j]? = some v → w.cell? (a.add j) = some v) (hc : ∀ j, j < cs.length → (w.cell? ⟨b, o + j, none⟩).isSome = true) (hf : ∀ j, j < cs.length → w.frozen? ⟨b, o + j, none⟩ = false) (h1 : ∀ v ∈ cs, v.oneCell' = true) :
    (Builtin.copy_ #[dT, sT] ty #[.slice (some ⟨b, o, none⟩) dLen dCap, .slice (some a) sLen sCap]).run P w = .ok (goInt n) (w.setCells b o cs) := by
  have hld := run_loadCells_list (P := P) w a cs hsrc
  have hst := run_storeCells_cells (P := P) b o cs 0 w (by simpa using hc) (by simpa using hf) h1
  cases hq : P.info? elem with
  | none => simp [hq] at hs
  | some i =>
    have hi : i.size = sz := by simpa [hq] using hs
    rw [hl] at hld
    simp [Builtin.copy_, run_underlying hu, Builtin.lenOf, Builtin.firstCells, sizeOf, typeInfo, hq, hi, ← hn, hld, hst]

theorem isSome_setCells' (b : Nat) (vs : List Value) (o : Nat) (w : World) (h : ∀ j, j < vs.length → (w.cell? ⟨b, o + j, none⟩).isSome = true) (k : Nat) (hk : (w.cell? ⟨b, k, none⟩).isSome = true) : ((w.setCells b o vs).cell? ⟨b, k, none⟩).isSome = true := by
  by_cases hin : o ≤ k ∧ k < o + vs.length
  · have := World.cell?_setCells_in b vs o w h (k - o) (by omega)
    rw [show o + (k - o) = k by omega] at this
    rw [this]; rfl
  · rw [World.cell?_setCells_out b vs o w ⟨b, k, none⟩ (fun _ _ => by show k < o ∨ o + vs.length ≤ k; omega)]
    exact hk

/-- A copy as one operation, where its run is known. -/
theorem wpList_copyI (w : World) {ops : Array Oper} {rest : List Oper} {o : Oper} {a : Act} {Q : Exit → Act → World → Prop} (hgd : o.guard = none) (d s : Operand) (t t' : TypeId)
    (ho : o.op = .call { callee := .builtin .copy, args := #[d, s], argTypes := #[t, t'] }) (v u : Value) (hd : a.eval d = v) (hs : a.eval s = u) {v' : Value} {w' : World}
    (hr : (Builtin.copy_ #[t, t'] o.type #[v, u]).run P w = .ok v' w') (h : wpList P ops Q rest (a.put o.dst v') w') : wpList P ops Q (o :: rest) a w := by
  refine wpList_plain hgd fun K hK => ?_
  unfold Oper.wp execOp
  simp only [ho, resolve, invoke, builtin, Sem.run_bind, Sem.run_pure, Result.andThen_ok, List.map_toArray, List.map_cons, List.map_nil, hd, hs, hr]
  exact hK _ _ h
theorem step_copyI {ops : Array Oper} {o : Oper} {a : Act} {w : World} {K : Act → World → Prop} {Q : Exit → Act → World → Prop} {E : Prop}
    (hg : o.guard = none) (d x : Operand) (dT sT : TypeId) (hop : o.op = Op.call { callee := Callee.builtin Builtin.copy, args := #[d, x], argTypes := #[dT, sT] })
    (v u : Value) (hd : a.eval d = v) (hx : a.eval x = u) {v' : Value} {w' : World} (hr : (Builtin.copy_ #[dT, sT] o.type #[v, u]).run P w = .ok v' w') (hK : K (a.put o.dst v') w') :
    if Region.wanted o (yielded ops a.tmps) = true then Oper.wp P o a w K Q else E := by
  have hw : Region.wanted o (yielded ops a.tmps) = true := by simp [Region.wanted, hg]
  rw [if_pos hw]
  unfold Oper.wp
  simp [execOp, hop, resolve, invoke, builtin, hd, hx, hr, Result.andThen]
  exact hK

set_option maxHeartbeats 4000000 in
set_option maxRecDepth 100000 in
/-- There is room, and it is not at the end: in place. 'cs': the cells of the row, 'vs': those of what comes. -/
theorem ins_shift (L : InsLay P ρ f nm fo sz) (b n c i vb m vc : Nat) (cs vs : List Value) (w : World) (hi : i < n) (hm : 0 < m) (hroom : n + m ≤ c) (hnm : n + m ≤ 17179869184) (hvb : vb ≠ b)
    (hcl : cs.length = n * sz) (hvl : vs.length = m * sz)
    (hcs : ∀ j v, cs[j]? = some v → w.cell? ⟨b, j, none⟩ = some v) (hsp : ∀ j, j < (n + m) * sz → (w.cell? ⟨b, j, none⟩).isSome = true) (hfz : ∀ j, j < (n + m) * sz → w.frozen? ⟨b, j, none⟩ = false)
    (hvs : ∀ j v, vs[j]? = some v → w.cell? ⟨vb, j, none⟩ = some v) (h1c : ∀ v ∈ cs, v.oneCell' = true) (h1v : ∀ v ∈ vs, v.oneCell' = true)
    (tA tB : TypeId) (kA kB : Nat) (hsa : w.shape? vb = some (tA, kA)) (hsb : w.shape? b = some (tB, kB)) (hkB : kB ≠ 0) (hfa : w.frozen? ⟨vb, 0, none⟩ = false) (hfe : w.frozen? ⟨vb, kA, none⟩ = false) :
    Calls P f #[.slice (some ⟨b, 0, none⟩) n c, .int .i64 i, .slice (some ⟨vb, 0, none⟩) m vc] w fun e w' =>
      e = .returned (.slice (some ⟨b, 0, none⟩) (n + m) c) ∧ w' = (w.drew.setCells b ((i + m) * sz) (cs.drop (i * sz))).setCells b (i * sz) vs := by
  have t0 := L.t0; have t3 := L.t3; have t4 := L.t4; have t24 := L.t24
  have a0 : ∀ w, (isAgg (ρ.t 0)).run P w = .ok false w := fun w => by simp [isAgg, run_underlying L.t0]
  have a3 : ∀ w, (isAgg (ρ.t 3)).run P w = .ok false w := fun w => by simp [isAgg, run_underlying L.t3]
  have a4 : ∀ w, (isAgg (ρ.t 4)).run P w = .ok false w := fun w => by simp [isAgg, run_underlying L.t4]
  have a24 : ∀ w, (isAgg (ρ.t 24)).run P w = .ok false w := fun w => by simp [isAgg, run_underlying L.t24]
  have u0 := run_underlying L.t0; have u3 := run_underlying L.t3; have u4 := run_underlying L.t4; have u24 := run_underlying L.t24
  have hsz : (P.info? (ρ.t 9)).map (·.size) = some sz := by
    obtain ⟨i0, zz, hi0, h0, hzc, h1, h2⟩ := L.info
    rw [hi0]; simp [h1]
  have z9 : ∀ w, (Go.sizeOf (ρ.t 9)).run P w = .ok sz w := fun w => by
    obtain ⟨i0, zz, hi0, h0, hzc, h1, h2⟩ := L.info
    simp [Go.sizeOf, typeInfo, hi0, h1]
  have hz1 : ¬ ((m : Int) = 0) := by omega
  have hz2 : ¬ ((i : Int) = (n : Int)) := by omega
  have hov : ∀ lb cb, (callFunc (ρ.f 29) #[.slice (some ⟨vb, 0, none⟩) m vc, .slice (some ⟨b, (i + m) * sz, none⟩) lb cb]).run P w = .ok (.value (.bool false)) w := fun lb cb => by
    rw [run_callFunc_extern L.ffo L.o1 L.o2 L.o3 L.o4,
      Lib.run_overlaps_apart w (ρ.t 24) (ρ.t 4) (ρ.t 9) L.t24 sz z9 ⟨vb, 0, none⟩ ⟨b, (i + m) * sz, none⟩ m vc lb cb hvb tA tB kA kB hsa hsb hkB hfa hfe]
    rfl
  have mixed := L.mixed
  have hdl : (cs.drop (i * sz)).length = (n - i) * sz := by rw [List.length_drop, hcl, Nat.sub_mul]
  have hw1 : IntKind.i64.wrap ((i : Int) + (m : Int)) = (i : Int) + (m : Int) := by rw [IntKind.wrap_i64]; omega
  have hb1 : (0 : Int) ≤ (i : Int) + (m : Int) := by omega
  have hin : i ≤ n := by omega
  have htn : ((i : Int) + (m : Int)).toNat = i + m := by omega
  have hb2 : ¬ (c = i + m) := by omega
  have hb3 : (i : Int) ≤ (n : Int) + (m : Int) := by omega
  have hb4 : ¬ (c = i) := by omega
  have him : (i + m) * sz + (n - i) * sz = (n + m) * sz := by rw [← Nat.add_mul]; congr 1; omega
  have hcp1 : ∀ ty dc sc, (Builtin.copy_ #[(ρ.t 24), (ρ.t 24)] ty #[.slice (some ⟨b, (i + m) * sz, none⟩) (n + m - (i + m)) dc, .slice (some ⟨b, i * sz, none⟩) (n + m - i) sc]).run P w.drew = .ok (goInt ((n - i : Nat) : Int)) (w.drew.setCells b ((i + m) * sz) (cs.drop (i * sz))) := fun ty dc sc =>
    run_copyS w.drew _ _ ty (ρ.t 9) b ((i + m) * sz) (n + m - (i + m)) dc ⟨b, i * sz, none⟩ (n + m - i) sc (n - i) (cs.drop (i * sz)) L.t24 hsz (by simp only [Nat.min_def]; split <;> omega) hdl
      (fun j v hj => by rw [Addr.add_lit]; exact hcs (i * sz + j) v (by rwa [List.getElem?_drop] at hj))
      (fun j hj => hsp _ (by omega)) (fun j hj => hfz _ (by omega)) (fun v hv => h1c v (List.mem_of_mem_drop hv))
  obtain ⟨W1, hW1⟩ : ∃ W1, W1 = w.drew.setCells b ((i + m) * sz) (cs.drop (i * sz)) := ⟨_, rfl⟩
  have hsp1 : ∀ k, k < (n + m) * sz → (W1.cell? ⟨b, k, none⟩).isSome = true := fun k hk => by
    rw [hW1]
    exact isSome_setCells' b (cs.drop (i * sz)) ((i + m) * sz) w.drew (fun j hj => hsp ((i + m) * sz + j) (by omega)) k (hsp k hk)
  have hvm : i * sz + m * sz ≤ (n + m) * sz := by rw [← Nat.add_mul]; exact Nat.mul_le_mul_right _ (by omega)
  have hcp2 : ∀ (W : World), (∀ x, W.cell? x = W1.cell? x) → (∀ x, W.frozen? x = W1.frozen? x) → ∀ ty dc, (Builtin.copy_ #[(ρ.t 24), (ρ.t 24)] ty #[.slice (some ⟨b, i * sz, none⟩) (n + m - i) dc, .slice (some ⟨vb, 0, none⟩) m vc]).run P W = .ok (goInt (m : Int)) (W.setCells b (i * sz) vs) := fun W hWc hWf ty dc =>
    run_copyS W _ _ ty (ρ.t 9) b (i * sz) (n + m - i) dc ⟨vb, 0, none⟩ m vc m vs L.t24 hsz (by simp only [Nat.min_def]; split <;> omega) hvl
      (fun j v hj => by
        rw [Addr.add_lit, Nat.zero_add, hWc, hW1, World.cell?_setCells_out b _ _ _ _ (fun h _ => absurd h hvb)]
        exact hvs j v hj)
      (fun j hj => by rw [hWc]; exact hsp1 _ (by omega)) (fun j hj => by rw [hWf, hW1, World.frozen?_setCells]; exact hfz _ (by omega)) h1v
  rw [← hW1] at hcp1
  go_enter L.fn, Body2.n22_ntmps ρ
  go_wp2_with (simp only [hov])
  go_region_law_o (refine step_copyI rfl _ _ (ρ.t 24) (ρ.t 24) rfl _ _ (by simp [Act.eval, Act.put]) (by simp [Act.eval, Act.put]) (hcp1 _ _ _) ?_)
  go_wp2_with (at_builtin; refine wpList_copyI _ rfl _ _ (ρ.t 24) (ρ.t 24) rfl _ _ rfl rfl (hcp2 _ (fun _ => rfl) (fun _ => rfl) _ _) ?_)
  go_ret
  first | exact ⟨rfl, rfl⟩ | exact ⟨rfl, by rw [hW1]⟩

set_option maxHeartbeats 4000000 in
set_option maxRecDepth 100000 in
/-- At the end: as append does. -/
theorem ins_end (L : InsLay P ρ f nm fo sz) (A : Option Addr) (n c vb m vc : Nat) (w : World) (hm : 0 < m) {v' : Value} {w' : World} (hnc : n ≤ c)
    (hrun : (Builtin.append_ #[ρ.t 24, ρ.t 24] (ρ.t 24) #[.slice A n c, .slice (some ⟨vb, 0, none⟩) m vc]).run P w = .ok v' w') :
    Calls P f #[.slice A n c, .int .i64 n, .slice (some ⟨vb, 0, none⟩) m vc] w fun e w'' => e = .returned v' ∧ w'' = w' := by
  have t0 := L.t0; have t3 := L.t3; have t4 := L.t4; have t24 := L.t24
  have a0 : ∀ w, (isAgg (ρ.t 0)).run P w = .ok false w := fun w => by simp [isAgg, run_underlying L.t0]
  have a3 : ∀ w, (isAgg (ρ.t 3)).run P w = .ok false w := fun w => by simp [isAgg, run_underlying L.t3]
  have a4 : ∀ w, (isAgg (ρ.t 4)).run P w = .ok false w := fun w => by simp [isAgg, run_underlying L.t4]
  have a24 : ∀ w, (isAgg (ρ.t 24)).run P w = .ok false w := fun w => by simp [isAgg, run_underlying L.t24]
  have u0 := run_underlying L.t0; have u3 := run_underlying L.t3; have u4 := run_underlying L.t4; have u24 := run_underlying L.t24
  have z9 : ∀ w, (Go.sizeOf (ρ.t 9)).run P w = .ok sz w := fun w => by
    obtain ⟨i0, zz, hi0, h0, hzc, h1, h2⟩ := L.info
    simp [Go.sizeOf, typeInfo, hi0, h1]
  have hz1 : ¬ ((m : Int) = 0) := by omega
  have mixed := L.mixed
  go_enter L.fn, Body2.n22_ntmps ρ
  cases A with
  | none =>
    go_wp2_with (at_builtin; refine Lib.wpList_append_run _ rfl _ _ _ _ rfl _ _ rfl rfl _ _ hrun ?_)
    all_goals (go_ret; exact ⟨rfl, rfl⟩)
  | some a =>
    obtain ⟨ab, ao, asp⟩ := a
    go_wp2_with (at_builtin; refine Lib.wpList_append_run _ rfl _ _ _ _ rfl _ _ rfl rfl _ _ hrun ?_)
    all_goals (go_ret; exact ⟨rfl, rfl⟩)

set_option maxHeartbeats 4000000 in
set_option maxRecDepth 100000 in
/-- Not at the end, and there is no room: a new row. -/
theorem ins_grow (L : InsLay P ρ f nm fo sz) (b n c i vb m vc : Nat) (cs vs : List Value) (w : World) (hi : i < n) (hm : 0 < m) (hnc : n ≤ c) (hroom : c < n + m) (hbig : n + m ≤ nmax)
    (hcl : cs.length = n * sz) (hvl : vs.length = m * sz)
    (hcs : ∀ j v, cs[j]? = some v → w.cell? ⟨b, j, none⟩ = some v) (hvs : ∀ j v, vs[j]? = some v → w.cell? ⟨vb, j, none⟩ = some v) (h1c : ∀ v ∈ cs, v.oneCell' = true) (h1v : ∀ v ∈ vs, v.oneCell' = true) :
    ∃ (G : Nat) (ROW : Array Value), n + m ≤ G ∧ ROW.size = G * sz ∧ (∀ j, j < i * sz → ROW[j]? = cs[j]?) ∧
    Calls P f #[.slice (some ⟨b, 0, none⟩) n c, .int .i64 i, .slice (some ⟨vb, 0, none⟩) m vc] w fun e w' =>
      e = .returned (.slice (some ⟨w.heap.size, 0, none⟩) (n + m) G) ∧
      w' = (((w.alloc (.cells ROW (ρ.t 9))).drew.setCells w.heap.size (i * sz) vs).drew).setCells w.heap.size ((i + m) * sz) (cs.drop (i * sz)) := by
  have t0 := L.t0; have t3 := L.t3; have t4 := L.t4; have t24 := L.t24
  have a0 : ∀ w, (isAgg (ρ.t 0)).run P w = .ok false w := fun w => by simp [isAgg, run_underlying L.t0]
  have a3 : ∀ w, (isAgg (ρ.t 3)).run P w = .ok false w := fun w => by simp [isAgg, run_underlying L.t3]
  have a4 : ∀ w, (isAgg (ρ.t 4)).run P w = .ok false w := fun w => by simp [isAgg, run_underlying L.t4]
  have a24 : ∀ w, (isAgg (ρ.t 24)).run P w = .ok false w := fun w => by simp [isAgg, run_underlying L.t24]
  have u0 := run_underlying L.t0; have u3 := run_underlying L.t3; have u4 := run_underlying L.t4; have u24 := run_underlying L.t24
  have mixed := L.mixed
  have hpos := L.pos
  obtain ⟨i0, zero, hi0, hz0, hzl, hzs, hzb⟩ := L.info
  have hsz : (P.info? (ρ.t 9)).map (·.size) = some sz := by rw [hi0]; simp [hzs]
  have z9 : ∀ w, (Go.sizeOf (ρ.t 9)).run P w = .ok sz w := fun w => by simp [Go.sizeOf, typeInfo, hi0, hzs]
  have hz1 : ¬ ((m : Int) = 0) := by omega
  have hz2 : ¬ ((i : Int) = (n : Int)) := by omega
  have hz3 : (c : Int) < (n : Int) + (m : Int) := by omega
  have hns : sz ≤ n * sz := Nat.le_mul_of_pos_left _ (by omega)
  have hms : sz ≤ m * sz := Nat.le_mul_of_pos_left _ (by omega)
  have hin' : i * sz ≤ n * sz := Nat.mul_le_mul_right _ (by omega)
  have hvm : i * sz + m * sz ≤ (n + m) * sz := by rw [← Nat.add_mul]; exact Nat.mul_le_mul_right _ (by omega)
  have him : (i + m) * sz + (n - i) * sz = (n + m) * sz := by rw [← Nat.add_mul]; congr 1; omega
  have hbw : b < w.heap.size := block_lt_of_cell (hcs 0 _ (List.getElem?_eq_getElem (by omega)))
  have hvw : vb < w.heap.size := block_lt_of_cell (hvs 0 _ (List.getElem?_eq_getElem (by omega)))
  have hkk : (n : Int) + (m : Int) - (i : Int) = ((n + m - i : Nat) : Int) := by omega
  have hik : i + (n + m - i) = n + m := by omega
  have hby : (n + m) * i0.bytes ≤ 140737488355328 := by
    have h1 : (n + m) * i0.bytes ≤ nmax * 4096 := Nat.mul_le_mul hbig hzb
    simp only [nmax] at h1; omega
  have hold : (Builtin.firstCells i0.size i (.slice (some ⟨b, 0, none⟩) i c)).run P w.drew = .ok (cs.take (i * sz)).toArray w.drew := by
    rw [hzs]
    exact run_firstCells_some w.drew sz i ⟨b, 0, none⟩ i c (cs.take (i * sz)) (by rw [List.length_take]; omega) (fun j v hj => by
      rw [Addr.add_lit, Nat.zero_add]
      rw [List.getElem?_take] at hj
      split at hj
      · exact hcs j v hj
      · cases hj)
  obtain ⟨G, hG⟩ : ∃ G, G = grownCap w (n + m) c (ρ.t 9) := ⟨_, rfl⟩
  obtain ⟨ROW, hROW⟩ : ∃ ROW : Array Value, ROW = (cs.take (i * sz)).toArray ++ Builtin.zeroCells zero.cells (n + m - i) ++ Builtin.zeroCells zero.cells (G - (n + m)) := ⟨_, rfl⟩
  have hrz : ∀ ty, (Builtin.append_ #[(ρ.t 24), (ρ.t 3)] ty #[.slice (some ⟨b, 0, none⟩) i c, .int .i64 ((n : Int) + (m : Int) - (i : Int))]).run P w =
      .ok (.slice (some ⟨w.heap.size, 0, none⟩) (n + m) G) (w.drew.alloc (.cells ROW (ρ.t 9))) := fun ty => by
    have h := Lib.run_append_grow_zeros w (ρ.t 24) (ρ.t 3) ty (ρ.t 9) i0 zero .i64 .i64 L.t24 L.t3 hi0 hz0 (some ⟨b, 0, none⟩) i c (cs.take (i * sz)) hold (n + m - i) (by omega) (by omega) (by omega) (by simp only [nmax] at hbig; omega)
      (by have := Nat.mul_le_mul_right i0.bytes (show n + m - i ≤ n + m by omega); omega) (by rw [hik]; exact growslice_fits hroom hby)
    rw [hik] at h
    rw [hkk, hROW, hG]
    exact h
  have hGn : n + m ≤ G := by rw [hG]; exact grownCap_ge w _ _ _
  have hG63 : G ≤ 9223372036854775807 := by
    have := grownCap_le_maxLen w (n + m) c (ρ.t 9) (by unfold maxLen; simp only [nmax] at hbig; omega)
    rw [← hG] at this
    unfold maxLen at this
    omega
  have hlen : ROW.size = G * sz := by
    have e : i * sz + (n + m - i) * sz + (G - (n + m)) * sz = G * sz := by rw [← Nat.add_mul, ← Nat.add_mul]; congr 1; omega
    rw [hROW]
    simp only [Array.size_append, List.size_toArray, List.length_take, Builtin.zeroCells, Array.size_map, Array.size_range, hzl, hcl]
    rw [Nat.min_eq_left hin']
    exact e
  have hRl : (n + m) * sz ≤ ROW.size := by rw [hlen]; exact Nat.mul_le_mul_right _ hGn
  refine ⟨G, ROW, hGn, hlen, fun j hj => ?_, ?_⟩
  · rw [hROW, Array.append_assoc, Array.getElem?_append_left (by simp; omega)]
    simp [List.getElem?_take, hj]
  obtain ⟨W1, hW1⟩ : ∃ W1, W1 = w.drew.alloc (.cells ROW (ρ.t 9)) := ⟨_, rfl⟩
  rw [← hW1] at hrz
  have hN : ∀ j, j < (n + m) * sz → (W1.cell? ⟨w.heap.size, j, none⟩).isSome = true := fun j hj => by
    rw [hW1, World.cell?_alloc_at (w := w.drew) ROW _ w.heap.size j rfl, Array.getElem?_eq_getElem (by omega)]; rfl
  have hNf : ∀ j, W1.frozen? ⟨w.heap.size, j, none⟩ = false := fun j => by rw [hW1]; exact World.frozen?_alloc_at (w := w.drew) ROW _ w.heap.size j rfl
  have hOb : ∀ j v, w.cell? ⟨b, j, none⟩ = some v → W1.cell? ⟨b, j, none⟩ = some v := fun j v h => by rw [hW1, World.cell?_alloc_past (w := w.drew) _ b j hbw]; exact h
  have hOv : ∀ j v, w.cell? ⟨vb, j, none⟩ = some v → W1.cell? ⟨vb, j, none⟩ = some v := fun j v h => by rw [hW1, World.cell?_alloc_past (w := w.drew) _ vb j hvw]; exact h
  have hcpA : ∀ (W : World), (∀ x, W.cell? x = W1.cell? x) → (∀ x, W.frozen? x = W1.frozen? x) → ∀ ty dc, (Builtin.copy_ #[(ρ.t 24), (ρ.t 24)] ty #[.slice (some ⟨w.heap.size, i * sz, none⟩) (n + m - i) dc, .slice (some ⟨vb, 0, none⟩) m vc]).run P W = .ok (goInt (m : Int)) (W.setCells w.heap.size (i * sz) vs) := fun W hWc hWf ty dc =>
    run_copyS W _ _ ty (ρ.t 9) w.heap.size (i * sz) (n + m - i) dc ⟨vb, 0, none⟩ m vc m vs L.t24 hsz (by simp only [Nat.min_def]; split <;> omega) hvl
      (fun j v hj => by rw [Addr.add_lit, Nat.zero_add, hWc]; exact hOv _ v (hvs j v hj))
      (fun j hj => by rw [hWc]; exact hN _ (by omega)) (fun j hj => by rw [hWf]; exact hNf _) h1v
  have hGi : ¬ (G = i) := by omega
  have hGim : ¬ (G = i + m) := by omega
  have hci : ¬ (c = i) := by omega
  have hbN : b ≠ w.heap.size := by omega
  have hdl : (cs.drop (i * sz)).length = (n - i) * sz := by rw [List.length_drop, hcl, Nat.sub_mul]
  have hcpB : ∀ (W : World), (∀ x, W.cell? x = (W1.setCells w.heap.size (i * sz) vs).cell? x) → (∀ x, W.frozen? x = (W1.setCells w.heap.size (i * sz) vs).frozen? x) → ∀ ty dc sc, (Builtin.copy_ #[(ρ.t 24), (ρ.t 24)] ty #[.slice (some ⟨w.heap.size, (i + m) * sz, none⟩) (n + m - (i + m)) dc, .slice (some ⟨b, i * sz, none⟩) (n - i) sc]).run P W = .ok (goInt ((n - i : Nat) : Int)) (W.setCells w.heap.size ((i + m) * sz) (cs.drop (i * sz))) := fun W hWc hWf ty dc sc =>
    run_copyS W _ _ ty (ρ.t 9) w.heap.size ((i + m) * sz) (n + m - (i + m)) dc ⟨b, i * sz, none⟩ (n - i) sc (n - i) (cs.drop (i * sz)) L.t24 hsz (by simp only [Nat.min_def]; split <;> omega) hdl
      (fun j v hj => by
        rw [Addr.add_lit, hWc, World.cell?_setCells_out _ _ _ _ _ (fun h _ => absurd h hbN)]
        exact hOb _ v (hcs (i * sz + j) v (by rwa [List.getElem?_drop] at hj)))
      (fun j hj => by rw [hWc]; exact isSome_setCells' w.heap.size vs (i * sz) W1 (fun t ht => hN (i * sz + t) (by omega)) ((i + m) * sz + j) (hN _ (by omega)))
      (fun j hj => by rw [hWf, World.frozen?_setCells]; exact hNf _) (fun v hv => h1c v (List.mem_of_mem_drop hv))
  subst hW1
  have hE1 : ∀ x, ((w.alloc (.cells ROW (ρ.t 9))).drew).cell? x = (w.drew.alloc (.cells ROW (ρ.t 9))).cell? x := fun x => rfl
  have hE2 : ∀ x, ((w.alloc (.cells ROW (ρ.t 9))).drew).frozen? x = (w.drew.alloc (.cells ROW (ρ.t 9))).frozen? x := fun x => rfl
  have hF1 : ∀ x, (((w.alloc (.cells ROW (ρ.t 9))).drew.setCells w.heap.size (i * sz) vs).drew).cell? x = ((w.drew.alloc (.cells ROW (ρ.t 9))).setCells w.heap.size (i * sz) vs).cell? x := fun x => rfl
  have hF2 : ∀ x, (((w.alloc (.cells ROW (ρ.t 9))).drew.setCells w.heap.size (i * sz) vs).drew).frozen? x = ((w.drew.alloc (.cells ROW (ρ.t 9))).setCells w.heap.size (i * sz) vs).frozen? x := fun x => rfl
  have hw1 : IntKind.i64.wrap ((i : Int) + (m : Int)) = (i : Int) + (m : Int) := by rw [IntKind.wrap_i64]; simp only [nmax] at hbig; omega
  have hb1 : (0 : Int) ≤ (i : Int) + (m : Int) := by omega
  have hin : i ≤ n := by omega
  have htn : ((i : Int) + (m : Int)).toNat = i + m := by omega
  have hb3 : (i : Int) ≤ (n : Int) := by omega
  have hnm : n + m ≤ 17179869184 := hbig
  clear hkk hik hold hROW hG hRl hbig hby hlen him hvm
  go_enter L.fn, Body2.n22_ntmps ρ
  go_wp2_with (first
    | (at_builtin; refine Lib.wpList_append_run _ rfl _ _ _ _ rfl _ _ rfl rfl _ _ (hrz _) ?_)
    | (at_builtin; refine wpList_copyI _ rfl _ _ (ρ.t 24) (ρ.t 24) rfl _ _ rfl rfl (hcpA _ hE1 hE2 _ _) ?_)
    | (at_builtin; refine wpList_copyI _ rfl _ _ (ρ.t 24) (ρ.t 24) rfl _ _ rfl rfl (hcpB _ (fun _ => rfl) (fun _ => rfl) _ _ _) ?_))
  go_region_law_o (refine step_copyI rfl _ _ (ρ.t 24) (ρ.t 24) rfl (.slice (some ⟨w.heap.size, (i + m) * sz, none⟩) (n + m - (i + m)) (G - (i + m))) (.slice (some ⟨b, i * sz, none⟩) (n - i) (c - i)) (by simp [Act.eval, Act.put]) (by simp [Act.eval, Act.put]) (hcpB _ hF1 hF2 (ρ.t 3) (G - (i + m)) (c - i)) ?_)
  go_wp2
  go_ret
  exact ⟨rfl, rfl⟩
end
end Go.Proofs.Ytmenplonaapliaa.AE
end
section
set_option linter.unusedVariables false
set_option linter.unusedSimpArgs false
namespace Go.Proofs.Ytmenplonaapliaa.AE
open Go Go.RowKit Go.Shelf Go.Lib

/-- What slices.Insert answers: a row with some more in its midst. -/
def insB {α : Type} (l : List α) (i : Int) (ys : List α) : Option (List α) :=
  guardK (decide (0 ≤ i) && decide (i ≤ (l.length : Int)) && decide (0 < ys.length) && decide (l.length + ys.length ≤ nmax)) (some (l.take i.toNat ++ (ys ++ l.drop i.toNat)))

def insG (e : Sh) (args : List AV1) (σ : List Blk) : Option (PD [It.own e]) :=
  match args, σ with
  | [.sc (.own 0 none), .sc (.val (.int .i64 i)), .sc (.own 1 none)], [.elems e₁ l, .elems e₂ ys] => if h : e₁ = e ∧ e₂ = e then insB (α := den e) (h.1 ▸ l) i (h.2 ▸ ys) else none
  | _, _ => none

def insSig (e : Sh) : Sig := { ps := [.own e, .raw, .own e], vals := [.own e], ext := some (insG e) }

structure InsOk (P : Program) (ρ : Ren) (f : FuncId) (nm : String) (fo : Func) (e : Sh) : Prop where
  L : InsLay P ρ f nm fo e.size
  sh : shT P (ρ.t 9) = some e
  sz : sizeT P (ρ.t 9) = some e.size
  by' : bytesOk P (ρ.t 9) = true
  zc : (zeroCells P (ρ.t 9)).map List.length = some e.size
  ne : e ≠ .int .u8

theorem listOf_own {e : Sh} {l ys : List (den e)} : listOf e (.own 1 none) [.elems e l, .elems e ys] = some ys := by
  cases e with
  | int k => cases k <;> simp [listOf, asList, getAt_eq, viewOf]
  | _ => simp [listOf, asList, getAt_eq, viewOf]

theorem setCells_wrote {b : Nat} {T : TypeId} {fr : Nat × Nat} : ∀ (us : List Value) (o : Nat) (vs : Array Value) (w : World), w.heap[b]? = some (.cells vs T fr) → Wrote w (w.setCells b o us) b (setV vs o us) T fr
  | [], o, vs, w, h => ⟨h, fun _ _ => rfl, rfl, rfl, rfl, rfl⟩
  | u :: us, o, vs, w, h => by
    obtain ⟨g1, g2, g3⟩ := setCell_heap (i := o) h u
    have k := setCells_wrote us (o + 1) (vs.setIfInBounds o u) (w.setCell ⟨b, o, none⟩ u) g1
    exact ⟨k.row, fun c hc => (k.rest c hc).trans (g2 c hc), k.size.trans g3, k.os, k.tape, k.output⟩

section
variable {W₀ : World} {P : Program} {ρn : Ren} {f : FuncId} {nm : String} {fo : Func} {e : Sh}

theorem mul_ne {a b : Nat} : (a + b) * e.size = a * e.size + b * e.size := mul_add' _ _ _

/-- A row's elements behind what is laid into its midst. -/
theorem midst {α : Type} {l ys : List α} {i j : Nat} {x : α} (hi : i ≤ l.length) (hx : (l.take i ++ (ys ++ l.drop i))[j]? = some x) :
    (j < i ∧ l[j]? = some x) ∨ (i ≤ j ∧ j < i + ys.length ∧ ys[j - i]? = some x) ∨ (i + ys.length ≤ j ∧ l[j - ys.length]? = some x) := by
  have hl : (l.take i).length = i := by rw [List.length_take]; omega
  rcases Nat.lt_or_ge j i with h | h
  · rw [List.getElem?_append_left (by omega), List.getElem?_take, if_pos h] at hx
    exact .inl ⟨h, hx⟩
  · rw [List.getElem?_append_right (by omega), hl] at hx
    rcases Nat.lt_or_ge (j - i) ys.length with g | g
    · rw [List.getElem?_append_left g] at hx
      exact .inr (.inl ⟨h, by omega, hx⟩)
    · rw [List.getElem?_append_right g, List.getElem?_drop, show i + (j - i - ys.length) = j - ys.length by omega] at hx
      exact .inr (.inr ⟨by omega, hx⟩)

theorem ins_ext (K : InsOk P ρn f nm fo e) : ExtFn W₀ P f (insSig e) := by
  refine ⟨fun g hg => ?_, fun g hg => by cases hg⟩
  have : g = insG e := by cases hg; rfl
  subst this
  refine ⟨?_, _, K.L.fn, rfl⟩
  intro args σ t ht X w ρ vs m ha
  unfold insG at ht
  split at ht
  · rename_i i e₁ l e₂ ys
    split at ht
    · rename_i he
      obtain ⟨rfl, rfl⟩ := he
      unfold insB at ht
      obtain ⟨hgd, ht⟩ := guardK_ok ht
      simp only [Bool.and_eq_true, decide_eq_true_eq] at hgd
      obtain ⟨⟨⟨hi0, hil⟩, hys⟩, hmax⟩ := hgd
      cases ht
      obtain ⟨i, rfl⟩ := Int.eq_ofNat_of_zero_le hi0
      have hil : i ≤ l.length := by omega
      show Calls P f vs w fun e' w' => ∃ v, e' = .returned v ∧ Gave (insSig e₂) X w ρ _ (l.take i ++ (ys ++ l.drop i)) v w'
      -- the arguments
      obtain ⟨v0, r0, hv0, a0, ha1⟩ := AV1sR.tail ha
      obtain ⟨v1, r1, hv1, a1, ha2⟩ := AV1sR.tail ha1
      obtain ⟨v2, r2, hv2, a2, ha3⟩ := AV1sR.tail ha2
      have hr2 : r2 = [] := List.length_eq_zero_iff.1 ha3.1.symm
      subst hr2; subst hv2; subst hv1
      have hvs : vs = #[v0, v1, v2] := by cases vs with | mk l => exact congrArg Array.mk hv0
      subst hvs
      have e1 := a1.val_eq
      subst e1
      cases a0 with | sc a0 =>
      cases a2 with | sc a2 =>
      have a0' := a0
      have a2' := a2
      cases a0 with
      | @own _ n c sz b A hr hA =>
        have hbk := m.blk 0 _ _ hr rfl
        cases a2 with
        | @own _ n2 c2 sz2 b2 A2 hr2 hA2 =>
          have hbk2 := m.blk 1 _ _ hr2 rfl
          cases hbk with
          | elems hl hc hrow =>
            cases hbk2 with
            | elems hl2 hc2 hrow2 =>
              subst hl; subst hl2
              -- what comes lies somewhere
              cases b2 with
              | none =>
                have hcz : c2 = 0 := hrow2
                omega
              | some vb =>
                have hA2' := hA2 vb rfl
                subst hA2'
                have out : ∀ {v : Value} {w' : World} {ρ' : List RB} {σ' : List Blk}, σ'[2]? = some (.elems e₂ (l.take i ++ (ys ++ l.drop i))) → Step X w ρ [.elems e₂ l, .elems e₂ ys] w' ρ' σ' (fun _ => True) → ScR (OX X ρ' σ') w' ρ' (.own 2 none) v → Gave (insSig e₂) X w ρ [.elems e₂ l, .elems e₂ ys] (l.take i ++ (ys ++ l.drop i)) v w' := by
                  intro v w' ρ' σ' hk hs hc
                  refine ⟨ρ', σ', [.sc (.own 2 none)], [v], hs, ?_, .cons (.sc hc) ⟨rfl, by simp⟩, rfl⟩
                  have : projIts [It.own e₂] [.sc (.own 2 none)] σ' = some (l.take i ++ (ys ++ l.drop i)) := by simp [projIts, projIt, projOwn, getAt_eq, hk]
                  exact this
                rcases Nat.eq_or_lt_of_le hil with hend | hlt
                · -- at the end
                  subst hend
                  have hval : l.take l.length ++ (ys ++ l.drop l.length) = l ++ ys := by simp
                  obtain ⟨zs, hzc, hzl⟩ := Option.map_eq_some_iff.1 K.zc
                  have D := does_append (P := P) (R := AV × List Blk) (X := X) (w := w) (ρ := ρ) (a := { tmps := #[.slice A l.length c, .slice (some ⟨vb, 0, none⟩) ys.length c2], defers := [] })
                    (o := { dst := none, op := .call { callee := .builtin .append, args := #[.tmp 0, .tmp 1], argTypes := #[ρn.t 24, ρn.t 24] }, type := ρn.t 24, pos := "", after := #[], guard := none })
                    (st := ⟨[(0, .one (.sc (.own 0 none))), (1, .one (.sc (.own 1 none)))], [.elems e₂ l, .elems e₂ ys]⟩)
                    (k := fun av σ' => some (av, σ')) (r := (.one (.sc (.own 2 none)), [.dead, .elems e₂ ys, .elems e₂ (l ++ ys)])) m
                    (fun t => by
                      rcases t with _ | _ | t
                      · exact .one (.sc a0')
                      · exact .one (.sc a2')
                      · exact any_ok) rfl (p := .tmp 0) (q := .tmp 1) rfl rfl
                    (by unfold plainArg; rw [K.L.t24])
                    (by
                      unfold appendK elemK
                      rw [K.L.t24]
                      simp only [K.sh, K.sz, K.by', beq_self_eq_true, listOf_own, hzc, Option.map_some, hzl]
                      simp [getAt_eq, setAt_eq, guardK, hmax])
                    (T := fun _ => True) (fun _ _ _ => trivial)
                  obtain ⟨av, v, nx, w', ρ', σ', hk, hrun, hnx, hav, hst⟩ := D
                  simp only [Option.some.injEq, Prod.mk.injEq] at hk
                  obtain ⟨rfl, rfl⟩ := hk
                  have hap : (Builtin.append_ #[ρn.t 24, ρn.t 24] (ρn.t 24) #[.slice A l.length c, .slice (some ⟨vb, 0, none⟩) ys.length c2]).run P w = .ok v w' := by
                    unfold execOp at hrun
                    simp [resolve, invoke, builtin, Act.eval] at hrun
                    cases hq : (Builtin.append_ #[ρn.t 24, ρn.t 24] (ρn.t 24) #[.slice A l.length c, .slice (some ⟨vb, 0, none⟩) ys.length c2]).run P w with
                    | halt h' w'' => rw [hq] at hrun; simp [Result.andThen] at hrun
                    | ok v' w'' =>
                      rw [hq] at hrun
                      simp [Result.andThen] at hrun
                      obtain ⟨rfl, rfl⟩ := hrun
                      rcases hnx with h | ⟨h, _⟩
                      · cases h; rfl
                      · cases h
                  refine (ins_end K.L A l.length c vb ys.length c2 w hys hc hap).mono fun e' w'' he => ?_
                  obtain ⟨rfl, rfl⟩ := he
                  refine ⟨v, rfl, out (by rw [hval]; rfl) hst ?_⟩
                  cases hav with | one hav => cases hav with | sc hav => exact hav
                · -- in its midst
                  cases b with
                  | none =>
                    have hcz : c = 0 := hrow
                    omega
                  | some b =>
                    have hA' := hA b rfl
                    subst hA'
                    obtain ⟨_, us, T, fr, g1, g2, g3, g4⟩ := hrow
                    obtain ⟨_, us2, T2, fr2, q1, q2, q3, q4⟩ := hrow2
                    have hne : vb ≠ b := fun h => by
                      subst h
                      have := m.inj 0 1 _ _ _ _ vb hr rfl .elems hr2 rfl .elems
                      cases this
                    obtain ⟨cs, hcf, hcg, hc1⟩ := flat_of (off := 0) (fun i x hi => by rw [Nat.zero_add]; exact g4 i x hi)
                    obtain ⟨ns, hnf, hng, hn1⟩ := flat_of (off := 0) (fun i x hi => by rw [Nat.zero_add]; exact q4 i x hi)
                    simp only [Nat.zero_add] at hcg hng
                    have hcl := hcf.1
                    have hnl := hnf.1
                    have hcs : ∀ j v, cs[j]? = some v → w.cell? ⟨b, j, none⟩ = some v := fun j v hj => by rw [cell_at g1]; exact hcg j v hj
                    have hns : ∀ j v, ns[j]? = some v → w.cell? ⟨vb, j, none⟩ = some v := fun j v hj => by rw [cell_at q1]; exact hng j v hj
                    have hiz : i * e₂.size + e₂.size ≤ l.length * e₂.size := by
                      have := Nat.mul_le_mul_right e₂.size (show i + 1 ≤ l.length by omega)
                      rw [Nat.add_mul, Nat.one_mul] at this; exact this
                    have hdl : (cs.drop (i * e₂.size)).length = (l.length - i) * e₂.size := by rw [List.length_drop, hcl, Nat.sub_mul]
                    have him : (i + ys.length) * e₂.size + (l.length - i) * e₂.size = (l.length + ys.length) * e₂.size := by rw [← Nat.add_mul]; congr 1; omega
                    have hvm : (i + ys.length) * e₂.size = i * e₂.size + ys.length * e₂.size := mul_ne
                    have hlen : (l.take i ++ (ys ++ l.drop i)).length = l.length + ys.length := by simp; omega
                    have hpos := e₂.size_pos
                    -- the new row's cells, wherever they lie
                    have cellsOf : ∀ {O : Own} {w' : World} {F : Array Value}, (∀ {x : den e₂} {vs : Array Value} {p : Nat}, CellsAt (OX X ρ [.elems e₂ l, .elems e₂ ys]) w e₂ x vs p → CellsAt O w' e₂ x vs p) →
                        (l.length + ys.length) * e₂.size ≤ F.size → (∀ j, j < i * e₂.size → F[j]? = cs[j]?) → (∀ j, j < ys.length * e₂.size → F[i * e₂.size + j]? = ns[j]?) → (∀ j, j < (l.length - i) * e₂.size → F[(i + ys.length) * e₂.size + j]? = cs[i * e₂.size + j]?) →
                        ∀ j x, (l.take i ++ (ys ++ l.drop i))[j]? = some x → CellsAt O w' e₂ x F (j * e₂.size) := by
                      intro O w' F tr hF f1 f2 f3 j x hj
                      rcases midst hil hj with ⟨h1, h2⟩ | ⟨h1, h2, h3⟩ | ⟨h1, h2⟩
                      · refine (tr (hcf.2 j x h2)).shift fun p hp => ?_
                        rw [f1 _ (idx_lt h1 hp)]; simp
                      · refine (tr (hnf.2 (j - i) x h3)).shift fun p hp => ?_
                        have := f2 ((j - i) * e₂.size + p) (idx_lt (by omega) hp)
                        rw [show i * e₂.size + ((j - i) * e₂.size + p) = j * e₂.size + p by rw [← Nat.add_assoc, ← Nat.add_mul]; congr 2; omega] at this
                        rw [this]; simp
                      · have hlt' : j - ys.length < l.length := get_lt h2
                        refine (tr (hcf.2 (j - ys.length) x h2)).shift fun p hp => ?_
                        have := f3 ((j - ys.length - i) * e₂.size + p) (idx_lt (by omega) hp)
                        rw [show (i + ys.length) * e₂.size + ((j - ys.length - i) * e₂.size + p) = j * e₂.size + p by rw [← Nat.add_assoc, ← Nat.add_mul]; congr 2; omega,
                          show i * e₂.size + ((j - ys.length - i) * e₂.size + p) = (j - ys.length) * e₂.size + p by rw [← Nat.add_assoc, ← Nat.add_mul]; congr 2; omega] at this
                        rw [this]; simp
                    by_cases hfit : l.length + ys.length ≤ c
                    · -- in its place
                      have hin : (l.length + ys.length) * e₂.size ≤ us.size := Nat.le_trans (Nat.mul_le_mul_right _ hfit) g2
                      have hsh : ∀ {b : Nat} {us : Array Value} {T : TypeId} {fr : Nat × Nat}, w.heap[b]? = some (.cells us T fr) → w.shape? b = some (T, us.size) := fun h => by simp [World.shape?, h]
                      have hfro : ∀ {b : Nat} {us : Array Value} {T : TypeId} {fr : Nat × Nat} (i : Nat), w.heap[b]? = some (.cells us T fr) → w.frozen? ⟨b, i, none⟩ = (fr.1 ≤ i && i < fr.2) := fun {b us T fr} i h => by obtain ⟨p, q⟩ := fr; simp [World.frozen?, h]
                      have hy0 : 0 < us2.size := by
                        have := Nat.mul_le_mul_right e₂.size hc2
                        have := Nat.mul_le_mul_right e₂.size hys
                        omega
                      have hu0 : us.size ≠ 0 := by
                        have := Nat.mul_le_mul_right e₂.size (show l.length ≤ l.length + ys.length by omega)
                        omega
                      have g1' : w.drew.heap[b]? = some (.cells us T fr) := g1
                      have w1 := setCells_wrote (cs.drop (i * e₂.size)) ((i + ys.length) * e₂.size) us w.drew g1'
                      have w2 := setCells_wrote ns (i * e₂.size) _ _ w1.row
                      refine (ins_shift K.L b l.length c i vb ys.length c2 cs ns w hlt hys hfit (by simpa [nmax] using hmax) hne hcl hnl hcs (fun j hj => by rw [cell_at g1, Array.getElem?_eq_getElem (by omega)]; rfl) (fun j hj => by rw [hfro j g1]; exact (g3 rfl).1 j (by omega)) hns hc1 hn1
                        T2 T us2.size us.size (hsh q1) (hsh g1) hu0 (by rw [hfro 0 q1]; exact (q3 rfl).1 0 hy0) (by rw [hfro _ q1]; exact (q3 rfl).2 K.ne)).mono fun e' w' he => ?_
                      obtain ⟨rfl, rfl⟩ := he
                      have hFs : (setV (setV us ((i + ys.length) * e₂.size) (cs.drop (i * e₂.size))) (i * e₂.size) ns).size = us.size := by rw [setV_size, setV_size]
                      obtain ⟨m', t'⟩ := m.swap (w' := (w.drew.setCells b ((i + ys.length) * e₂.size) (cs.drop (i * e₂.size))).setCells b (i * e₂.size) ns) (r' := .s (some b) (l.take i ++ (ys ++ l.drop i)).length c e₂.size) (k' := .elems e₂ (l.take i ++ (ys ++ l.drop i))) hr rfl (by intro c h; cases h; exact .inl .elems)
                        (fun c _ hc => (w2.rest c (fun h => hc (h ▸ .elems))).trans (w1.rest c (fun h => hc (h ▸ .elems)))) (by rw [w2.size, w1.size]; exact Nat.le_refl _) (fun tn => by
                          refine .elems rfl (by rw [hlen]; exact hfit) ⟨fun h => by simp at h, _, _, _, w2.row, by rw [hFs]; exact g2, fun _ => by rw [hFs]; exact g3 rfl, cellsOf (fun h => h.turn tn) (by rw [hFs]; exact hin) (fun j hj => ?_) (fun j hj => ?_) (fun j hj => ?_)⟩
                          · rw [setV_get _ _ _ _ (by rw [setV_size]; omega), if_neg (by omega), setV_get _ _ _ _ (by omega), if_neg (by omega)]
                            have hjl : j < cs.length := by omega
                            rw [List.getElem?_eq_getElem hjl]
                            exact hcg j _ (List.getElem?_eq_getElem hjl)
                          · rw [setV_get _ _ _ _ (by rw [setV_size]; omega), if_pos (by omega), Nat.add_sub_cancel_left]
                          · rw [setV_get _ _ _ _ (by rw [setV_size]; omega), if_neg (by omega), setV_get _ _ _ _ (by omega), if_pos (by omega), Nat.add_sub_cancel_left, List.getElem?_drop])
                      refine ⟨_, rfl, out rfl ⟨m', Ext.app _ _, t', w2.os.trans w1.os, w2.tape.trans w1.tape, w2.output.trans w1.output, fun c _ hc => (w2.rest c (fun h => hc 0 _ _ hr rfl (h ▸ .elems) trivial)).trans (w1.rest c (fun h => hc 0 _ _ hr rfl (h ▸ .elems) trivial)), orig_swap hr rfl m.len trivial (by intro c h; cases h; exact .inl .elems)⟩ ?_⟩
                      rw [← hlen]
                      exact .own (b := some b) (sz := e₂.size) (by rw [List.getElem?_append_right (by rw [m.len]; exact Nat.le_refl _), m.len]; rfl) (fun x hx => by cases hx; rfl)
                    · -- in new memory
                      obtain ⟨G, ROW, hG, hRs, hR1, walk⟩ := ins_grow K.L b l.length c i vb ys.length c2 cs ns w hlt hys hc (by omega) hmax hcl hnl hcs hns hc1 hn1
                      have hin : (l.length + ys.length) * e₂.size ≤ ROW.size := by rw [hRs]; exact Nat.mul_le_mul_right _ hG
                      have g0 : ((w.alloc (.cells ROW (ρn.t 9))).drew).heap[w.heap.size]? = some (.cells ROW (ρn.t 9) (0, 0)) := (show (w.heap.push (Obj.cells ROW (ρn.t 9)))[w.heap.size]? = some (.cells ROW (ρn.t 9) (0, 0)) by simp)
                      have gs : ∀ c, c < w.heap.size → ((w.alloc (.cells ROW (ρn.t 9))).drew).heap[c]? = w.heap[c]? := fun c hc => push_same w _ c hc
                      have w1 := setCells_wrote ns (i * e₂.size) ROW _ g0
                      have g1' : (((w.alloc (.cells ROW (ρn.t 9))).drew.setCells w.heap.size (i * e₂.size) ns).drew).heap[w.heap.size]? = some (.cells (setV ROW (i * e₂.size) ns) (ρn.t 9) (0, 0)) := w1.row
                      have w2 := setCells_wrote (cs.drop (i * e₂.size)) ((i + ys.length) * e₂.size) _ _ g1'
                      refine walk.mono fun e' w' he => ?_
                      obtain ⟨rfl, rfl⟩ := he
                      have hFs : (setV (setV ROW (i * e₂.size) ns) ((i + ys.length) * e₂.size) (cs.drop (i * e₂.size))).size = ROW.size := by rw [setV_size, setV_size]
                      have rest : ∀ c, c < w.heap.size → ((((w.alloc (.cells ROW (ρn.t 9))).drew.setCells w.heap.size (i * e₂.size) ns).drew).setCells w.heap.size ((i + ys.length) * e₂.size) (cs.drop (i * e₂.size))).heap[c]? = w.heap[c]? := fun c hc => ((w2.rest c (by omega)).trans (w1.rest c (by omega))).trans (gs c hc)
                      have hsz : w.heap.size ≤ ((((w.alloc (.cells ROW (ρn.t 9))).drew.setCells w.heap.size (i * e₂.size) ns).drew).setCells w.heap.size ((i + ys.length) * e₂.size) (cs.drop (i * e₂.size))).heap.size := by
                        rw [w2.size]
                        show _ ≤ ((w.alloc (.cells ROW (ρn.t 9))).drew.setCells w.heap.size (i * e₂.size) ns).heap.size
                        rw [w1.size]
                        show _ ≤ (w.heap.push (Obj.cells ROW (ρn.t 9))).size
                        simp
                      obtain ⟨m', t'⟩ := m.swap (w' := (((w.alloc (.cells ROW (ρn.t 9))).drew.setCells w.heap.size (i * e₂.size) ns).drew).setCells w.heap.size ((i + ys.length) * e₂.size) (cs.drop (i * e₂.size))) (r' := .s (some w.heap.size) (l.take i ++ (ys ++ l.drop i)).length G e₂.size) (k' := .elems e₂ (l.take i ++ (ys ++ l.drop i))) hr rfl (by intro c h; cases h; exact .inr (Nat.le_refl _))
                        (fun c hc _ => rest c hc) hsz (fun tn => by
                          refine .elems rfl (by rw [hlen]; exact hG) ⟨fun h => by simp at h, _, _, _, w2.row, by rw [hFs, hRs]; exact Nat.le_refl _, fun _ => loose_none _ _, cellsOf (fun h => h.turn tn) (by rw [hFs]; exact hin) (fun j hj => ?_) (fun j hj => ?_) (fun j hj => ?_)⟩
                          · rw [setV_get _ _ _ _ (by rw [setV_size]; omega), if_neg (by omega), setV_get _ _ _ _ (by omega), if_neg (by omega)]
                            exact hR1 j hj
                          · rw [setV_get _ _ _ _ (by rw [setV_size]; omega), if_neg (by omega), setV_get _ _ _ _ (by omega), if_pos (by omega), Nat.add_sub_cancel_left]
                          · rw [setV_get _ _ _ _ (by rw [setV_size]; omega), if_pos (by omega), Nat.add_sub_cancel_left, List.getElem?_drop])
                      refine ⟨_, rfl, out rfl ⟨m', Ext.app _ _, t', w2.os.trans w1.os, w2.tape.trans w1.tape, w2.output.trans w1.output, fun c hc _ => rest c hc, orig_swap hr rfl m.len trivial (by intro c h; cases h; exact .inr (Nat.le_refl _))⟩ ?_⟩
                      rw [← hlen]
                      exact .own (b := some w.heap.size) (sz := e₂.size) (by rw [List.getElem?_append_right (by rw [m.len]; exact Nat.le_refl _), m.len]; rfl) (fun x hx => by cases hx; rfl)
    · cases ht
  · cases ht

end
end Go.Proofs.Ytmenplonaapliaa.AE
end
