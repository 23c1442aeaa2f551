/- Walks of the functions of the given program that the law reaches, what they compute, and laws on that. Conditions: as each theorem says. -/
import Derived.ArgAppend
import Derived.Below
import Derived.BigQuiet
import Derived.ChangeArms
import Derived.DataReads
import Derived.Deep.AppendLies
import Derived.Deep.CutBlock
import Derived.Deep.DeepCutAuto
import Derived.Deep.Draws
import Derived.Deep.LoopGhost
import Derived.Deep.OwnRows
import Derived.Deep.QuietTactic
import Derived.Deep.RegionHeld3
import Derived.Deep.Slices
import Derived.KernelRfl
import Derived.Laws.BitsLemmas
import Derived.Laws.BytesArg
import Derived.Laws.IdiomCopy
import Derived.Laws.MakeOwn
import Derived.Laws.OwnMore
import Derived.Laws.Rows
import Derived.Laws.Slices
import Derived.Lib.AppendStr
import Derived.Lib.ConvBytes
import Derived.Maps.AppendAt
import Derived.OrdersHeld
import Derived.OwnWalk
import Derived.RowKit
import Derived.RowKit3
import Derived.SizedLaws
import Derived.Tactics
import Derived.Test.YtmnadajjgnniaaaCElemTakesW1
import Derived.Test.YtmnadajjgnniaaaProg
import Derived.WalkKit
import Derived.WideLaws
import Derived.WideShapes
set_option linter.unusedVariables false
set_option linter.unusedSimpArgs false
namespace Go.Proofs.Ytmnadajjgnniaaa
theorem zm {p : Prop} (h : p) : Go.Proofs.YtmnadajjgnniaaaW.PrintWords.Aside0 p := ⟨h⟩
theorem zq0 {P : Prop} (h : P := by repeat (first | (with_reducible first | exact HB.out | apply below_alloc | apply pw_below_drewN | apply below_drew1) | exact HB.out)) : P := h
theorem zq1 {P : Prop} (h : P := by repeat (first | (with_reducible first | exact HB.out | apply below_alloc | apply pw_below_drewN | apply below_drew1 | refine below_set ?_ GE101.out) | exact HB.out)) : P := h
theorem zq2 {P : Prop} (h : P := by (try simp only [List.map_toArray, List.map_cons, List.map_nil]); first | done | rfl | (simp only [List.length_drop, List.length_take]; rfl)) : P := h
theorem zq3 {P : Prop} (h : P := by (with_reducible repeat (first | refine blk_drewN ?_ _ | refine blk_drew ?_ | refine blk_alloc ?_ _)); exact BK101.out) : P := h
theorem zq4 {P : Prop} (h : P := by repeat (first | (with_reducible first | exact HK.out | apply KeepBut.set_ | apply keep_drewN | apply keep_drew | apply keep_alloc) | exact HK.out)) : P := h
theorem zq5 {P : Prop} (h : P := by first | rfl | (simp [errW_none, errW_some] <;> rfl) | (simp [*, errW_none, errW_some] <;> rfl)) : P := h
theorem zq6 {P : Prop} (h : P := by first | (with_reducible assumption) | assumption) : P := h
theorem zq7 {P : Prop} (h : P := by repeat (first | (with_reducible first | exact HB.out | apply below_alloc | apply pw_below_drewN | apply below_drew1 | refine below_set ?_ GE101.out | refine below_set ?_ GE102.out) | exact HB.out)) : P := h
theorem zq8 {P : Prop} (h : P := by (with_reducible repeat (first | refine blk_drewN ?_ _ | refine blk_drew ?_ | refine blk_alloc ?_ _)); refine blk_put (cs := #[.string t102, .int .i64 t103, .int .i64 0]) ?_ 2 _ rfl; (with_reducible repeat (first | refine blk_drewN ?_ _ | refine blk_drew ?_ | refine blk_alloc ?_ _)); refine blk_put (cs := #[.string t102, .int .i64 0, .int .i64 0]) ?_ 1 _ rfl; (with_reducible repeat (first | refine blk_drewN ?_ _ | refine blk_drew ?_ | refine blk_alloc ?_ _)); refine blk_put (cs := #[.string (⟨#[]⟩ : ByteArray), .int .i64 0, .int .i64 0]) ?_ 0 _ rfl; (with_reducible repeat (first | refine blk_drewN ?_ _ | refine blk_drew ?_ | refine blk_alloc ?_ _)); exact BK111.out) : P := h
theorem zq9 {P : Prop} (h : P := by repeat (first | (with_reducible first | exact HI0.out | apply IsS143.alloc | apply IsS143.drewN | apply IsS143.drew | apply IsS143.set_0 | apply IsS143.set_1 | apply IsS143.set_2 | apply IsS143.set_3) | exact HI0.out)) : P := h
theorem zq10 {P : Prop} (h : P := by (with_reducible repeat (first | refine blk_drewN ?_ _ | refine blk_drew ?_ | refine blk_alloc ?_ _)); refine blk_far ?_ NB101_111.out _; (with_reducible repeat (first | refine blk_drewN ?_ _ | refine blk_drew ?_ | refine blk_alloc ?_ _)); refine blk_far ?_ NB101_111.out _; (with_reducible repeat (first | refine blk_drewN ?_ _ | refine blk_drew ?_ | refine blk_alloc ?_ _)); refine blk_far ?_ NB101_111.out _; (with_reducible repeat (first | refine blk_drewN ?_ _ | refine blk_drew ?_ | refine blk_alloc ?_ _)); exact BK101.out) : P := h
theorem zq11 {P : Prop} (h : P := by first | rfl | (simp; done) | (simp [*]; done)) : P := h
theorem zq12 {P : Prop} (h : P := by repeat (first | (with_reducible first | exact HB.out | apply below_alloc | apply pw_below_drewN | apply below_drew1 | refine below_set ?_ (IsS143.ge HI0.out)) | exact HB.out)) : P := h
theorem zq13 {P : Prop} (h : P := by (with_reducible repeat (first | refine blk_drewN ?_ _ | refine blk_drew ?_ | refine blk_alloc ?_ _)); exact BK102.out) : P := h
theorem zq14 {P : Prop} (h : P := by (with_reducible repeat (first | refine blk_drewN ?_ _ | refine blk_drew ?_ | refine blk_alloc ?_ _)); refine blk_far ?_ NB101_106.out _; (with_reducible repeat (first | refine blk_drewN ?_ _ | refine blk_drew ?_ | refine blk_alloc ?_ _)); refine blk_far ?_ NB101_106.out _; (with_reducible repeat (first | refine blk_drewN ?_ _ | refine blk_drew ?_ | refine blk_alloc ?_ _)); refine blk_far ?_ NB101_106.out _; (with_reducible repeat (first | refine blk_drewN ?_ _ | refine blk_drew ?_ | refine blk_alloc ?_ _)); exact BK101.out) : P := h
theorem zq15 {P : Prop} (h : P := by repeat (first | (with_reducible first | exact HB.out | apply below_alloc | apply pw_below_drewN | apply below_drew1 | refine below_set ?_ GE101.out | refine below_set ?_ GE102.out | refine below_set ?_ GE103.out | refine below_set ?_ GE108.out) | exact HB.out)) : P := h
theorem zq16 {P : Prop} (h : P := by repeat (first | exact Drawn0.refl _ | apply Drawn0.step)) : P := h
theorem zq17 {P : Prop} (h : P := by (with_reducible repeat (first | refine blk_drewN ?_ _ | refine blk_drew ?_ | refine blk_alloc ?_ _)); refine blk_put (cs := #[.string t111, .int .i64 t112, .int .i64 t109]) ?_ 2 _ rfl; (with_reducible repeat (first | refine blk_drewN ?_ _ | refine blk_drew ?_ | refine blk_alloc ?_ _)); refine blk_put (cs := #[.string t111, .int .i64 t108, .int .i64 t109]) ?_ 1 _ rfl; (with_reducible repeat (first | refine blk_drewN ?_ _ | refine blk_drew ?_ | refine blk_alloc ?_ _)); refine blk_put (cs := #[.string t107, .int .i64 t108, .int .i64 t109]) ?_ 0 _ rfl; (with_reducible repeat (first | refine blk_drewN ?_ _ | refine blk_drew ?_ | refine blk_alloc ?_ _)); exact BK106.out) : P := h
theorem zq18 {P : Prop} (h : P := by (with_reducible repeat (first | refine blk_drewN ?_ _ | refine blk_drew ?_ | refine blk_alloc ?_ _)); refine blk_put (cs := #[.string ((rd_T98 l0 x10_1).f0), .int .i64 ((rd_T98 l0 x10_1).f1.f0), .int .i64 ((rd_T98 l0 x10_1).f1.f1), .string (⟨#[]⟩ : ByteArray)]) ?_ 3 _ rfl; (with_reducible repeat (first | refine blk_drewN ?_ _ | refine blk_drew ?_ | refine blk_alloc ?_ _)); refine blk_put (cs := #[.string ((rd_T98 l0 x10_1).f0), .int .i64 ((rd_T98 l0 x10_1).f1.f0), .int .i64 0, .string (⟨#[]⟩ : ByteArray)]) ?_ 2 _ rfl; (with_reducible repeat (first | refine blk_drewN ?_ _ | refine blk_drew ?_ | refine blk_alloc ?_ _)); refine blk_put (cs := #[.string ((rd_T98 l0 x10_1).f0), .int .i64 0, .int .i64 0, .string (⟨#[]⟩ : ByteArray)]) ?_ 1 _ rfl; (with_reducible repeat (first | refine blk_drewN ?_ _ | refine blk_drew ?_ | refine blk_alloc ?_ _)); refine blk_put (cs := #[.string (⟨#[]⟩ : ByteArray), .int .i64 0, .int .i64 0, .string (⟨#[]⟩ : ByteArray)]) ?_ 0 _ rfl; (with_reducible repeat (first | refine blk_drewN ?_ _ | refine blk_drew ?_ | refine blk_alloc ?_ _)); exact BK102.out) : P := h
theorem zq19 {P : Prop} (h : P := by (with_reducible repeat (first | refine blk_drewN ?_ _ | refine blk_drew ?_ | refine blk_alloc ?_ _)); refine blk_far ?_ NB102_101.out _; (with_reducible repeat (first | refine blk_drewN ?_ _ | refine blk_drew ?_ | refine blk_alloc ?_ _)); refine blk_far ?_ NB102_101.out _; (with_reducible repeat (first | refine blk_drewN ?_ _ | refine blk_drew ?_ | refine blk_alloc ?_ _)); refine blk_far ?_ NB102_101.out _; (with_reducible repeat (first | refine blk_drewN ?_ _ | refine blk_drew ?_ | refine blk_alloc ?_ _)); exact BK102.out) : P := h
theorem zq20 {P : Prop} (h : P := by repeat (first | (with_reducible first | exact HK.out | apply KeepBut.set_ | apply keep_drewN | apply keep_drew | apply keep_alloc | refine keep_far ?_ GW101.out _ | refine keep_far ?_ GW107.out _) | exact HK.out)) : P := h
theorem zq21 {P : Prop} (h : P := by (with_reducible repeat (first | refine blk_drewN ?_ _ | refine blk_drew ?_ | refine blk_alloc ?_ _)); refine blk_put (cs := #[.string a0_0, .int .i64 a0_1, .int .i64 0]) ?_ 2 _ rfl; (with_reducible repeat (first | refine blk_drewN ?_ _ | refine blk_drew ?_ | refine blk_alloc ?_ _)); refine blk_put (cs := #[.string a0_0, .int .i64 0, .int .i64 0]) ?_ 1 _ rfl; (with_reducible repeat (first | refine blk_drewN ?_ _ | refine blk_drew ?_ | refine blk_alloc ?_ _)); refine blk_put (cs := #[.string (⟨#[]⟩ : ByteArray), .int .i64 0, .int .i64 0]) ?_ 0 _ rfl; (with_reducible repeat (first | refine blk_drewN ?_ _ | refine blk_drew ?_ | refine blk_alloc ?_ _)); refine blk_far ?_ NB102_101.out _; (with_reducible repeat (first | refine blk_drewN ?_ _ | refine blk_drew ?_ | refine blk_alloc ?_ _)); exact BK102.out) : P := h
theorem zq22 {P : Prop} (h : P := by first | exact Kd.R_nil _ _ _ _ _ | exact Kd.N_nil _ _ _ _ _ | exact Kd.V_nil _ _ _ _ _ | exact Kd.Q_nil _ _ _ _ _ | exact Kd.S_nil _ _ _ _ _) : P := h
theorem zq23 {P : Prop} (h : P := by repeat (first | (with_reducible first | exact HI0.out | apply IsS143.alloc | apply IsS143.drewN | apply IsS143.drew | apply IsS143.set_0 | apply IsS143.set_1 | apply IsS143.set_2 | apply IsS143.set_3 | refine IsS143.far ?_ NB0_101.out _ | refine IsS143.far ?_ NB0_107.out _) | exact HI0.out)) : P := h
theorem zq24 {P : Prop} (h : P := by repeat (first | (with_reducible first | exact HB.out | apply below_alloc | apply pw_below_drewN | apply below_drew1 | refine below_set ?_ GE101.out | refine below_set ?_ GE111.out) | exact HB.out)) : P := h
theorem zq25 {P : Prop} (h : P := by (with_reducible repeat (first | refine blk_drewN ?_ _ | refine blk_drew ?_ | refine blk_alloc ?_ _)); refine blk_put (cs := #[.int .i64 t102, .int .i64 0, .string (⟨#[]⟩ : ByteArray)]) ?_ 2 _ rfl; (with_reducible repeat (first | refine blk_drewN ?_ _ | refine blk_drew ?_ | refine blk_alloc ?_ _)); refine blk_put (cs := #[.int .i64 t102, .int .i64 0, .string (⟨#[]⟩ : ByteArray)]) ?_ 1 _ rfl; (with_reducible repeat (first | refine blk_drewN ?_ _ | refine blk_drew ?_ | refine blk_alloc ?_ _)); refine blk_put (cs := #[.int .i64 0, .int .i64 0, .string (⟨#[]⟩ : ByteArray)]) ?_ 0 _ rfl; (with_reducible repeat (first | refine blk_drewN ?_ _ | refine blk_drew ?_ | refine blk_alloc ?_ _)); exact BK107.out) : P := h
theorem zq26 {P : Prop} (h : P := by (with_reducible repeat (first | refine blk_drewN ?_ _ | refine blk_drew ?_ | refine blk_alloc ?_ _)); refine blk_far ?_ NB101_107.out _; (with_reducible repeat (first | refine blk_drewN ?_ _ | refine blk_drew ?_ | refine blk_alloc ?_ _)); refine blk_far ?_ NB101_107.out _; (with_reducible repeat (first | refine blk_drewN ?_ _ | refine blk_drew ?_ | refine blk_alloc ?_ _)); refine blk_far ?_ NB101_107.out _; (with_reducible repeat (first | refine blk_drewN ?_ _ | refine blk_drew ?_ | refine blk_alloc ?_ _)); exact BK101.out) : P := h
theorem zq27 {P : Prop} (h : P := by repeat (first | (with_reducible first | exact HB.out | apply below_alloc | apply pw_below_drewN | apply below_drew1 | refine below_set ?_ (IsS143.ge HI0.out) | refine below_set ?_ GE101.out | refine below_set ?_ GE107.out) | exact HB.out)) : P := h
theorem zq28 {P : Prop} (h : P := by repeat (first | (with_reducible first | exact HB.out | apply below_alloc | apply pw_below_drewN | apply below_drew1 | refine below_set ?_ GE110.out | refine below_set ?_ GE119.out | refine below_set ?_ GE130.out) | exact HB.out)) : P := h
theorem zq29 {P : Prop} (h : P := by repeat (first | (with_reducible first | exact HB.out | apply below_alloc | apply pw_below_drewN | apply below_drew1 | refine below_set ?_ GE101.out | refine below_set ?_ GE111.out | refine below_set ?_ GE112.out) | exact HB.out)) : P := h
theorem zq30 {P : Prop} (h : P := by repeat (first | (with_reducible first | exact HB.out | apply below_alloc | apply pw_below_drewN | apply below_drew1 | refine below_set ?_ GE110.out | refine below_set ?_ GE119.out | refine below_set ?_ GE130.out | refine below_set ?_ GE141.out) | exact HB.out)) : P := h
theorem zq31 {P : Prop} (h : P := by repeat (first | (with_reducible first | exact HB.out | apply below_alloc | apply pw_below_drewN | apply below_drew1 | refine below_set ?_ GE101.out | refine below_set ?_ GE106.out) | exact HB.out)) : P := h
theorem zq32 {P : Prop} (h : P := by (with_reducible repeat (first | apply Kd.R_alloc | apply Kd.R_drewN | apply Kd.R_drew)); exact (Kd.R_mono (Kd.R_far (p := ⟨gb130, 4, none⟩) (Kd.R_far (p := ⟨gb130, 3, none⟩) (Kd.R_far (p := ⟨gb130, 2, none⟩) (Kd.R_far (p := ⟨gb130, 1, none⟩) (Kd.R_far (p := ⟨gb130, 0, none⟩) (Kd.R_types HO128.out BK130.out (by decide)) (fun _ hk => hk.2) (.string t120)) (fun _ hk => hk.2) (.string t121)) (fun _ hk => hk.2) (.string t122)) (fun _ hk => hk.2) (.slice Ao3017 t123.length co3017)) (fun _ hk => hk.2) (.slice Ao3018 t126.length co3018)) (fun _ h_ => h_.1))) : P := h
theorem zq33 {P : Prop} (h : P := by (with_reducible repeat (first | apply Kd.R_alloc | apply Kd.R_drewN | apply Kd.R_drew)); exact (Kd.R_mono (Kd.R_far (p := ⟨gb130, 4, none⟩) (Kd.R_far (p := ⟨gb130, 3, none⟩) (Kd.R_far (p := ⟨gb130, 2, none⟩) (Kd.R_far (p := ⟨gb130, 1, none⟩) (Kd.R_far (p := ⟨gb130, 0, none⟩) (Kd.R_types HO125.out BK130.out (by decide)) (fun _ hk => hk.2) (.string t120)) (fun _ hk => hk.2) (.string t121)) (fun _ hk => hk.2) (.string t122)) (fun _ hk => hk.2) (.slice Ao3017 t123.length co3017)) (fun _ hk => hk.2) (.slice Ao3018 t126.length co3018)) (fun _ h_ => h_.1))) : P := h
theorem zq34 {P : Prop} (h : P := by (with_reducible repeat (first | apply Kd.R_alloc | apply Kd.R_drewN | apply Kd.R_drew)); exact (Kd.R_mono (Kd.R_far (p := ⟨gb130, 4, none⟩) (Kd.R_far (p := ⟨gb130, 3, none⟩) (Kd.R_far (p := ⟨gb130, 2, none⟩) (Kd.R_far (p := ⟨gb130, 1, none⟩) (Kd.R_far (p := ⟨gb130, 0, none⟩) (Kd.R_types HO117.out BK130.out (by decide)) (fun _ hk => hk.2) (.string t120)) (fun _ hk => hk.2) (.string t121)) (fun _ hk => hk.2) (.string t122)) (fun _ hk => hk.2) (.slice Ao3017 t123.length co3017)) (fun _ hk => hk.2) (.slice Ao3018 t126.length co3018)) (fun _ h_ => h_.1))) : P := h
theorem zq35 {P : Prop} (h : P := by (with_reducible repeat (first | apply Kd.R_alloc | apply Kd.R_drewN | apply Kd.R_drew)); exact (Kd.R_mono (Kd.R_far (p := ⟨gb130, 4, none⟩) (Kd.R_far (p := ⟨gb130, 3, none⟩) (Kd.R_far (p := ⟨gb130, 2, none⟩) (Kd.R_far (p := ⟨gb130, 1, none⟩) (Kd.R_far (p := ⟨gb130, 0, none⟩) (Kd.R_types HO114.out BK130.out (by decide)) (fun _ hk => hk.2) (.string t120)) (fun _ hk => hk.2) (.string t121)) (fun _ hk => hk.2) (.string t122)) (fun _ hk => hk.2) (.slice Ao3017 t123.length co3017)) (fun _ hk => hk.2) (.slice Ao3018 t126.length co3018)) (fun _ h_ => h_.1))) : P := h
theorem zq36 {P : Prop} (h : P := by (with_reducible repeat (first | apply Kd.R_alloc | apply Kd.R_drewN | apply Kd.R_drew)); exact (Kd.R_mono (Kd.R_far (p := ⟨gb130, 4, none⟩) (Kd.R_far (p := ⟨gb130, 3, none⟩) (Kd.R_far (p := ⟨gb130, 2, none⟩) (Kd.R_far (p := ⟨gb130, 1, none⟩) (Kd.R_far (p := ⟨gb130, 0, none⟩) (Kd.R_types HO108.out BK130.out (by decide)) (fun _ hk => hk.2) (.string t120)) (fun _ hk => hk.2) (.string t121)) (fun _ hk => hk.2) (.string t122)) (fun _ hk => hk.2) (.slice Ao3017 t123.length co3017)) (fun _ hk => hk.2) (.slice Ao3018 t126.length co3018)) (fun _ h_ => h_.1))) : P := h
theorem zq37 {P : Prop} (h : P := by (with_reducible repeat (first | apply Kd.R_alloc | apply Kd.R_drewN | apply Kd.R_drew)); exact (Kd.R_mono (Kd.R_far (p := ⟨gb130, 4, none⟩) (Kd.R_far (p := ⟨gb130, 3, none⟩) (Kd.R_far (p := ⟨gb130, 2, none⟩) (Kd.R_far (p := ⟨gb130, 1, none⟩) (Kd.R_far (p := ⟨gb130, 0, none⟩) (Kd.R_types HO105.out BK130.out (by decide)) (fun _ hk => hk.2) (.string t120)) (fun _ hk => hk.2) (.string t121)) (fun _ hk => hk.2) (.string t122)) (fun _ hk => hk.2) (.slice Ao3017 t123.length co3017)) (fun _ hk => hk.2) (.slice Ao3018 t126.length co3018)) (fun _ h_ => h_.1))) : P := h
theorem zq38 {P : Prop} (h : P := by (with_reducible repeat (first | apply Kd.R_alloc | apply Kd.R_drewN | apply Kd.R_drew)); exact (Kd.R_mono (Kd.R_far (p := ⟨gb120, 4, none⟩) (Kd.R_far (p := ⟨gb120, 3, none⟩) (Kd.R_far (p := ⟨gb120, 2, none⟩) (Kd.R_far (p := ⟨gb120, 1, none⟩) (Kd.R_far (p := ⟨gb120, 0, none⟩) (Kd.R_types HO119.out BK120.out (by decide)) (fun _ hk => hk.2) (.string a0)) (fun _ hk => hk.2) (.string t105)) (fun _ hk => hk.2) (.string t110)) (fun _ hk => hk.2) (.slice Ao3011 t114.length co3011)) (fun _ hk => hk.2) (.slice Ao3010 t117.length co3010)) (fun _ h_ => h_.1))) : P := h
theorem zq39 {P : Prop} (h : P := by (with_reducible repeat (first | apply Kd.R_alloc | apply Kd.R_drewN | apply Kd.R_drew)); exact (Kd.R_mono (Kd.R_far (p := ⟨gb120, 4, none⟩) (Kd.R_far (p := ⟨gb120, 3, none⟩) (Kd.R_far (p := ⟨gb120, 2, none⟩) (Kd.R_far (p := ⟨gb120, 1, none⟩) (Kd.R_far (p := ⟨gb120, 0, none⟩) (Kd.R_types HO116.out BK120.out (by decide)) (fun _ hk => hk.2) (.string a0)) (fun _ hk => hk.2) (.string t105)) (fun _ hk => hk.2) (.string t110)) (fun _ hk => hk.2) (.slice Ao3011 t114.length co3011)) (fun _ hk => hk.2) (.slice Ao3010 t117.length co3010)) (fun _ h_ => h_.1))) : P := h
theorem zq40 {P : Prop} (h : P := by (with_reducible repeat (first | refine blk_drewN ?_ _ | refine blk_drew ?_ | refine blk_alloc ?_ _)); exact BK110.out) : P := h
theorem zq41 {P : Prop} (h : P := by (with_reducible repeat (first | refine blk_drewN ?_ _ | refine blk_drew ?_ | refine blk_alloc ?_ _)); refine blk_put (cs := #[.string (⟨#[]⟩ : ByteArray), .slice none 0 0, .slice none 0 0]) ?_ 2 _ rfl; (with_reducible repeat (first | refine blk_drewN ?_ _ | refine blk_drew ?_ | refine blk_alloc ?_ _)); refine blk_put (cs := #[.string (⟨#[]⟩ : ByteArray), .slice none 0 0, .slice none 0 0]) ?_ 1 _ rfl; (with_reducible repeat (first | refine blk_drewN ?_ _ | refine blk_drew ?_ | refine blk_alloc ?_ _)); refine blk_put (cs := #[.string (⟨#[]⟩ : ByteArray), .slice none 0 0, .slice none 0 0]) ?_ 0 _ rfl; (with_reducible repeat (first | refine blk_drewN ?_ _ | refine blk_drew ?_ | refine blk_alloc ?_ _)); exact BK101.out) : P := h
theorem zq42 {P : Prop} (h : P := by (with_reducible repeat (first | refine blk_drewN ?_ _ | refine blk_drew ?_ | refine blk_alloc ?_ _)); refine blk_put (cs := #[.string (⟨#[]⟩ : ByteArray), .string (⟨#[]⟩ : ByteArray), .string (⟨#[]⟩ : ByteArray), .slice none 0 0, .slice none 0 0]) ?_ 4 _ rfl; (with_reducible repeat (first | refine blk_drewN ?_ _ | refine blk_drew ?_ | refine blk_alloc ?_ _)); refine blk_put (cs := #[.string (⟨#[]⟩ : ByteArray), .string (⟨#[]⟩ : ByteArray), .string (⟨#[]⟩ : ByteArray), .slice none 0 0, .slice none 0 0]) ?_ 3 _ rfl; (with_reducible repeat (first | refine blk_drewN ?_ _ | refine blk_drew ?_ | refine blk_alloc ?_ _)); refine blk_put (cs := #[.string (⟨#[]⟩ : ByteArray), .string (⟨#[]⟩ : ByteArray), .string (⟨#[]⟩ : ByteArray), .slice none 0 0, .slice none 0 0]) ?_ 2 _ rfl; (with_reducible repeat (first | refine blk_drewN ?_ _ | refine blk_drew ?_ | refine blk_alloc ?_ _)); refine blk_put (cs := #[.string (⟨#[]⟩ : ByteArray), .string (⟨#[]⟩ : ByteArray), .string (⟨#[]⟩ : ByteArray), .slice none 0 0, .slice none 0 0]) ?_ 1 _ rfl; (with_reducible repeat (first | refine blk_drewN ?_ _ | refine blk_drew ?_ | refine blk_alloc ?_ _)); refine blk_put (cs := #[.string (⟨#[]⟩ : ByteArray), .string (⟨#[]⟩ : ByteArray), .string (⟨#[]⟩ : ByteArray), .slice none 0 0, .slice none 0 0]) ?_ 0 _ rfl; (with_reducible repeat (first | refine blk_drewN ?_ _ | refine blk_drew ?_ | refine blk_alloc ?_ _)); exact BK101.out) : P := h
theorem zq43 {P : Prop} (h : P := by repeat (first | (with_reducible first | exact HB.out | apply below_alloc | apply pw_below_drewN | apply below_drew1 | refine below_set ?_ GE101.out | refine below_set ?_ GE106.out | refine below_set ?_ GE120.out) | exact HB.out)) : P := h
theorem zq44 {P : Prop} (h : P := by (with_reducible repeat (first | refine blk_drewN ?_ _ | refine blk_drew ?_ | refine blk_alloc ?_ _)); refine blk_put (cs := #[.string t104, .int .i64 t105, .int .i64 a0_2]) ?_ 2 _ rfl; (with_reducible repeat (first | refine blk_drewN ?_ _ | refine blk_drew ?_ | refine blk_alloc ?_ _)); refine blk_put (cs := #[.string t104, .int .i64 a0_1, .int .i64 a0_2]) ?_ 1 _ rfl; (with_reducible repeat (first | refine blk_drewN ?_ _ | refine blk_drew ?_ | refine blk_alloc ?_ _)); refine blk_put (cs := #[.string a0_0, .int .i64 a0_1, .int .i64 a0_2]) ?_ 0 _ rfl; (with_reducible repeat (first | refine blk_drewN ?_ _ | refine blk_drew ?_ | refine blk_alloc ?_ _)); exact BK101.out) : P := h
theorem zq45 {P : Prop} (h : P := by (with_reducible repeat (first | refine blk_drewN ?_ _ | refine blk_drew ?_ | refine blk_alloc ?_ _)); refine blk_put (cs := #[.string t103, .int .i64 t104, .int .i64 a0_2]) ?_ 2 _ rfl; (with_reducible repeat (first | refine blk_drewN ?_ _ | refine blk_drew ?_ | refine blk_alloc ?_ _)); refine blk_put (cs := #[.string t103, .int .i64 a0_1, .int .i64 a0_2]) ?_ 1 _ rfl; (with_reducible repeat (first | refine blk_drewN ?_ _ | refine blk_drew ?_ | refine blk_alloc ?_ _)); refine blk_put (cs := #[.string a0_0, .int .i64 a0_1, .int .i64 a0_2]) ?_ 0 _ rfl; (with_reducible repeat (first | refine blk_drewN ?_ _ | refine blk_drew ?_ | refine blk_alloc ?_ _)); exact BK101.out) : P := h
theorem zq46 {P : Prop} (h : P := by (with_reducible repeat (first | refine blk_drewN ?_ _ | refine blk_drew ?_ | refine blk_alloc ?_ _)); refine blk_put (cs := #[.string a0_0, .int .i64 a0_1, .int .i64 0]) ?_ 2 _ rfl; (with_reducible repeat (first | refine blk_drewN ?_ _ | refine blk_drew ?_ | refine blk_alloc ?_ _)); refine blk_put (cs := #[.string a0_0, .int .i64 0, .int .i64 0]) ?_ 1 _ rfl; (with_reducible repeat (first | refine blk_drewN ?_ _ | refine blk_drew ?_ | refine blk_alloc ?_ _)); refine blk_put (cs := #[.string (⟨#[]⟩ : ByteArray), .int .i64 0, .int .i64 0]) ?_ 0 _ rfl; (with_reducible repeat (first | refine blk_drewN ?_ _ | refine blk_drew ?_ | refine blk_alloc ?_ _)); exact BK102.out) : P := h
theorem zq47 {P : Prop} (h : P := by (with_reducible repeat (first | refine blk_drewN ?_ _ | refine blk_drew ?_ | refine blk_alloc ?_ _)); refine blk_far ?_ NB103_108.out _; (with_reducible repeat (first | refine blk_drewN ?_ _ | refine blk_drew ?_ | refine blk_alloc ?_ _)); refine blk_far ?_ NB103_101.out _; (with_reducible repeat (first | refine blk_drewN ?_ _ | refine blk_drew ?_ | refine blk_alloc ?_ _)); refine blk_far ?_ NB103_101.out _; (with_reducible repeat (first | refine blk_drewN ?_ _ | refine blk_drew ?_ | refine blk_alloc ?_ _)); refine blk_far ?_ NB103_101.out _; (with_reducible repeat (first | refine blk_drewN ?_ _ | refine blk_drew ?_ | refine blk_alloc ?_ _)); exact BK103.out) : P := h
theorem zq48 {P : Prop} (h : P := by (with_reducible repeat (first | refine blk_drewN ?_ _ | refine blk_drew ?_ | refine blk_alloc ?_ _)); refine blk_far ?_ NB102_108.out _; (with_reducible repeat (first | refine blk_drewN ?_ _ | refine blk_drew ?_ | refine blk_alloc ?_ _)); refine blk_far ?_ NB102_101.out _; (with_reducible repeat (first | refine blk_drewN ?_ _ | refine blk_drew ?_ | refine blk_alloc ?_ _)); refine blk_far ?_ NB102_101.out _; (with_reducible repeat (first | refine blk_drewN ?_ _ | refine blk_drew ?_ | refine blk_alloc ?_ _)); refine blk_far ?_ NB102_101.out _; (with_reducible repeat (first | refine blk_drewN ?_ _ | refine blk_drew ?_ | refine blk_alloc ?_ _)); exact BK102.out) : P := h
theorem zq49 {P : Prop} (h : P := by (with_reducible repeat (first | apply Kd.R_alloc | apply Kd.R_drewN | apply Kd.R_drew)); exact HO105.out) : P := h
theorem zq50 {P : Prop} (h : P := by (with_reducible repeat (first | refine blk_drewN ?_ _ | refine blk_drew ?_ | refine blk_alloc ?_ _)); refine blk_put (cs := #[.string t120, .string t121, .string t122, .slice Ao3017 t123.length co3017, .slice none 0 0]) ?_ 4 _ rfl; (with_reducible repeat (first | refine blk_drewN ?_ _ | refine blk_drew ?_ | refine blk_alloc ?_ _)); refine blk_put (cs := #[.string t120, .string t121, .string t122, .slice none 0 0, .slice none 0 0]) ?_ 3 _ rfl; (with_reducible repeat (first | refine blk_drewN ?_ _ | refine blk_drew ?_ | refine blk_alloc ?_ _)); refine blk_put (cs := #[.string t120, .string t121, .string (⟨#[]⟩ : ByteArray), .slice none 0 0, .slice none 0 0]) ?_ 2 _ rfl; (with_reducible repeat (first | refine blk_drewN ?_ _ | refine blk_drew ?_ | refine blk_alloc ?_ _)); refine blk_put (cs := #[.string t120, .string (⟨#[]⟩ : ByteArray), .string (⟨#[]⟩ : ByteArray), .slice none 0 0, .slice none 0 0]) ?_ 1 _ rfl; (with_reducible repeat (first | refine blk_drewN ?_ _ | refine blk_drew ?_ | refine blk_alloc ?_ _)); refine blk_put (cs := #[.string (⟨#[]⟩ : ByteArray), .string (⟨#[]⟩ : ByteArray), .string (⟨#[]⟩ : ByteArray), .slice none 0 0, .slice none 0 0]) ?_ 0 _ rfl; (with_reducible repeat (first | refine blk_drewN ?_ _ | refine blk_drew ?_ | refine blk_alloc ?_ _)); exact BK130.out) : P := h
theorem zq51 {P : Prop} (h : P := by repeat (first | (with_reducible first | exact HB.out | apply below_alloc | apply pw_below_drewN | apply below_drew1 | refine below_set ?_ GE110.out) | exact HB.out)) : P := h
theorem zq52 {P : Prop} (h : P := by repeat (first | (with_reducible first | exact HB.out | apply below_alloc | apply pw_below_drewN | apply below_drew1 | refine below_set ?_ GE102.out) | exact HB.out)) : P := h
theorem zq53 {P : Prop} (h : P := by (with_reducible repeat (first | refine blk_drewN ?_ _ | refine blk_drew ?_ | refine blk_alloc ?_ _)); refine blk_put (cs := #[.string a0, .string t105, .string t110, .slice Ao3011 t114.length co3011, .slice none 0 0]) ?_ 4 _ rfl; (with_reducible repeat (first | refine blk_drewN ?_ _ | refine blk_drew ?_ | refine blk_alloc ?_ _)); refine blk_put (cs := #[.string a0, .string t105, .string t110, .slice none 0 0, .slice none 0 0]) ?_ 3 _ rfl; (with_reducible repeat (first | refine blk_drewN ?_ _ | refine blk_drew ?_ | refine blk_alloc ?_ _)); refine blk_put (cs := #[.string a0, .string t105, .string (⟨#[]⟩ : ByteArray), .slice none 0 0, .slice none 0 0]) ?_ 2 _ rfl; (with_reducible repeat (first | refine blk_drewN ?_ _ | refine blk_drew ?_ | refine blk_alloc ?_ _)); refine blk_put (cs := #[.string a0, .string (⟨#[]⟩ : ByteArray), .string (⟨#[]⟩ : ByteArray), .slice none 0 0, .slice none 0 0]) ?_ 1 _ rfl; (with_reducible repeat (first | refine blk_drewN ?_ _ | refine blk_drew ?_ | refine blk_alloc ?_ _)); refine blk_put (cs := #[.string (⟨#[]⟩ : ByteArray), .string (⟨#[]⟩ : ByteArray), .string (⟨#[]⟩ : ByteArray), .slice none 0 0, .slice none 0 0]) ?_ 0 _ rfl; (with_reducible repeat (first | refine blk_drewN ?_ _ | refine blk_drew ?_ | refine blk_alloc ?_ _)); exact BK120.out) : P := h
theorem zq54 {P : Prop} (h : P := by (with_reducible repeat (first | refine blk_drewN ?_ _ | refine blk_drew ?_ | refine blk_alloc ?_ _)); exact BK119.out) : P := h
theorem zq55 {P : Prop} (h : P := by (with_reducible repeat (first | apply Kd.R_alloc | apply Kd.R_drewN | apply Kd.R_drew)); exact (Kd.R_mono (Kd.R_far (p := ⟨gb110, 2, none⟩) (Kd.R_far (p := ⟨gb110, 1, none⟩) (Kd.R_far (p := ⟨gb110, 0, none⟩) (Kd.R_types HO108.out BK110.out (by decide)) (fun _ hk => hk.2) (.string t102)) (fun _ hk => hk.2) (.slice Ao3004 t103.length co3004)) (fun _ hk => hk.2) (.slice Ao3005 t106.length co3005)) (fun _ h_ => h_.1))) : P := h
theorem zq56 {P : Prop} (h : P := by (with_reducible repeat (first | apply Kd.R_alloc | apply Kd.R_drewN | apply Kd.R_drew)); exact (Kd.R_mono (Kd.R_far (p := ⟨gb110, 2, none⟩) (Kd.R_far (p := ⟨gb110, 1, none⟩) (Kd.R_far (p := ⟨gb110, 0, none⟩) (Kd.R_types HO105.out BK110.out (by decide)) (fun _ hk => hk.2) (.string t102)) (fun _ hk => hk.2) (.slice Ao3004 t103.length co3004)) (fun _ hk => hk.2) (.slice Ao3005 t106.length co3005)) (fun _ h_ => h_.1))) : P := h
theorem zq57 {P : Prop} (h : P := by repeat (first | (with_reducible first | exact HB.out | apply below_alloc | apply pw_below_drewN | apply below_drew1 | refine below_set ?_ (IsS143.ge HI106.out) | refine below_set ?_ GE101.out | refine below_set ?_ GE117.out) | exact HB.out)) : P := h
theorem zq58 {P : Prop} (h : P := by repeat (first | (with_reducible first | exact HB.out | apply below_alloc | apply pw_below_drewN | apply below_drew1 | refine below_set ?_ (IsS143.ge HI106.out) | refine below_set ?_ GE101.out | refine below_set ?_ GE107.out) | exact HB.out)) : P := h
theorem zq59 {P : Prop} (h : P := by (with_reducible repeat (first | apply Kd.R_alloc | apply Kd.R_drewN | apply Kd.R_drew)); exact (Kd.R_mono (Kd.R_far (p := ⟨gb111, 2, none⟩) (Kd.R_far (p := ⟨gb111, 1, none⟩) (Kd.R_far (p := ⟨gb111, 0, none⟩) (Kd.R_types HO110.out BK111.out (by decide)) (fun _ hk => hk.2) (.string t102)) (fun _ hk => hk.2) (.int .i64 t103)) (fun _ hk => hk.2) (.int .i64 t104)) (fun _ h_ => h_.1))) : P := h
theorem zq60 {P : Prop} (h : P := by (with_reducible repeat (first | apply Kd.R_alloc | apply Kd.R_drewN | apply Kd.R_drew)); exact (Kd.R_mono (Kd.R_far (p := ⟨gb111, 2, none⟩) (Kd.R_far (p := ⟨gb111, 1, none⟩) (Kd.R_far (p := ⟨gb111, 0, none⟩) (Kd.R_types HO107.out BK111.out (by decide)) (fun _ hk => hk.2) (.string t102)) (fun _ hk => hk.2) (.int .i64 t103)) (fun _ hk => hk.2) (.int .i64 t104)) (fun _ h_ => h_.1))) : P := h
theorem zq61 {P : Prop} (h : P := by (with_reducible repeat (first | refine blk_drewN ?_ _ | refine blk_drew ?_ | refine blk_alloc ?_ _)); refine blk_far ?_ NB102_103.out _; (with_reducible repeat (first | refine blk_drewN ?_ _ | refine blk_drew ?_ | refine blk_alloc ?_ _)); refine blk_far ?_ NB102_103.out _; (with_reducible repeat (first | refine blk_drewN ?_ _ | refine blk_drew ?_ | refine blk_alloc ?_ _)); refine blk_far ?_ NB102_103.out _; (with_reducible repeat (first | refine blk_drewN ?_ _ | refine blk_drew ?_ | refine blk_alloc ?_ _)); refine blk_put (cs := #[.string x102000_39, .int .i64 x102001_39, .int .i64 0]) ?_ 2 _ rfl; (with_reducible repeat (first | refine blk_drewN ?_ _ | refine blk_drew ?_ | refine blk_alloc ?_ _)); refine blk_put (cs := #[.string x102000_39, .int .i64 0, .int .i64 0]) ?_ 1 _ rfl; (with_reducible repeat (first | refine blk_drewN ?_ _ | refine blk_drew ?_ | refine blk_alloc ?_ _)); refine blk_put (cs := #[.string (⟨#[]⟩ : ByteArray), .int .i64 0, .int .i64 0]) ?_ 0 _ rfl; (with_reducible repeat (first | refine blk_drewN ?_ _ | refine blk_drew ?_ | refine blk_alloc ?_ _)); exact BK102.out) : P := h
theorem zq62 {P : Prop} (h : P := by (with_reducible repeat (first | refine blk_drewN ?_ _ | refine blk_drew ?_ | refine blk_alloc ?_ _)); refine blk_put (cs := #[.string t103, .int .i64 t104, .int .i64 0]) ?_ 2 _ rfl; (with_reducible repeat (first | refine blk_drewN ?_ _ | refine blk_drew ?_ | refine blk_alloc ?_ _)); refine blk_put (cs := #[.string t103, .int .i64 0, .int .i64 0]) ?_ 1 _ rfl; (with_reducible repeat (first | refine blk_drewN ?_ _ | refine blk_drew ?_ | refine blk_alloc ?_ _)); refine blk_put (cs := #[.string (⟨#[]⟩ : ByteArray), .int .i64 0, .int .i64 0]) ?_ 0 _ rfl; (with_reducible repeat (first | refine blk_drewN ?_ _ | refine blk_drew ?_ | refine blk_alloc ?_ _)); refine blk_far ?_ NB102_101.out _; (with_reducible repeat (first | refine blk_drewN ?_ _ | refine blk_drew ?_ | refine blk_alloc ?_ _)); refine blk_far ?_ NB102_101.out _; (with_reducible repeat (first | refine blk_drewN ?_ _ | refine blk_drew ?_ | refine blk_alloc ?_ _)); refine blk_far ?_ NB102_101.out _; (with_reducible repeat (first | refine blk_drewN ?_ _ | refine blk_drew ?_ | refine blk_alloc ?_ _)); exact BK102.out) : P := h
theorem zq63 {P : Prop} (h : P := by (with_reducible repeat (first | refine blk_drewN ?_ _ | refine blk_drew ?_ | refine blk_alloc ?_ _)); refine blk_far ?_ NB111_112.out _; (with_reducible repeat (first | refine blk_drewN ?_ _ | refine blk_drew ?_ | refine blk_alloc ?_ _)); refine blk_far ?_ NB111_112.out _; (with_reducible repeat (first | refine blk_drewN ?_ _ | refine blk_drew ?_ | refine blk_alloc ?_ _)); refine blk_far ?_ NB111_112.out _; (with_reducible repeat (first | refine blk_drewN ?_ _ | refine blk_drew ?_ | refine blk_alloc ?_ _)); exact BK111.out) : P := h
theorem zq64 {P : Prop} (h : P := by (with_reducible repeat (first | refine blk_drewN ?_ _ | refine blk_drew ?_ | refine blk_alloc ?_ _)); refine blk_far ?_ NB103_101.out _; (with_reducible repeat (first | refine blk_drewN ?_ _ | refine blk_drew ?_ | refine blk_alloc ?_ _)); refine blk_far ?_ NB103_101.out _; (with_reducible repeat (first | refine blk_drewN ?_ _ | refine blk_drew ?_ | refine blk_alloc ?_ _)); refine blk_far ?_ NB103_101.out _; (with_reducible repeat (first | refine blk_drewN ?_ _ | refine blk_drew ?_ | refine blk_alloc ?_ _)); exact BK103.out) : P := h
theorem zq65 {P : Prop} (h : P := by (with_reducible repeat (first | refine blk_drewN ?_ _ | refine blk_drew ?_ | refine blk_alloc ?_ _)); refine blk_far ?_ NB101_112.out _; (with_reducible repeat (first | refine blk_drewN ?_ _ | refine blk_drew ?_ | refine blk_alloc ?_ _)); refine blk_far ?_ NB101_112.out _; (with_reducible repeat (first | refine blk_drewN ?_ _ | refine blk_drew ?_ | refine blk_alloc ?_ _)); refine blk_far ?_ NB101_112.out _; (with_reducible repeat (first | refine blk_drewN ?_ _ | refine blk_drew ?_ | refine blk_alloc ?_ _)); exact BK101.out) : P := h
theorem zq66 {P : Prop} (h : P := by repeat (first | (with_reducible first | exact HB.out | apply below_alloc | apply pw_below_drewN | apply below_drew1 | refine below_set ?_ (IsS143.ge HI106.out) | refine below_set ?_ GE101.out) | exact HB.out)) : P := h
theorem zq67 {P : Prop} (h : P := by (with_reducible repeat (first | apply Kd.R_alloc | apply Kd.R_drewN | apply Kd.R_drew)); exact HO_3.out) : P := h
theorem zq68 {P : Prop} (h : P := by repeat (first | (with_reducible first | exact HB.out | apply below_alloc | apply pw_below_drewN | apply below_drew1 | refine below_set ?_ GE110.out | refine below_set ?_ GE119.out) | exact HB.out)) : P := h
theorem zq69 {P : Prop} (h : P := by (with_reducible repeat (first | refine blk_drewN ?_ _ | refine blk_drew ?_ | refine blk_alloc ?_ _)); exact BK130.out) : P := h
theorem zq70 {P : Prop} (h : P := by (with_reducible repeat (first | apply Kd.R_alloc | apply Kd.R_drewN | apply Kd.R_drew)); exact HO114.out) : P := h
theorem zq71 {P : Prop} (h : P := by (with_reducible repeat (first | apply Kd.R_alloc | apply Kd.R_drewN | apply Kd.R_drew)); exact HO108.out) : P := h
theorem zq72 {P : Prop} (h : P := by (with_reducible repeat (first | apply Kd.R_alloc | apply Kd.R_drewN | apply Kd.R_drew)); exact HO117.out) : P := h
theorem zq73 {P : Prop} (h : P := by (with_reducible repeat (first | apply Kd.R_alloc | apply Kd.R_drewN | apply Kd.R_drew)); exact HO_2.out) : P := h
theorem zq74 {P : Prop} (h : P := by (with_reducible repeat (first | refine blk_drewN ?_ _ | refine blk_drew ?_ | refine blk_alloc ?_ _)); exact BK107.out) : P := h
theorem zq75 {P : Prop} (h : P := by (with_reducible repeat (first | refine blk_drewN ?_ _ | refine blk_drew ?_ | refine blk_alloc ?_ _)); exact BK103.out) : P := h
theorem zq76 {P : Prop} (h : P := by (with_reducible repeat (first | refine blk_drewN ?_ _ | refine blk_drew ?_ | refine blk_alloc ?_ _)); refine blk_far ?_ NB119_130.out _; (with_reducible repeat (first | refine blk_drewN ?_ _ | refine blk_drew ?_ | refine blk_alloc ?_ _)); refine blk_far ?_ NB119_130.out _; (with_reducible repeat (first | refine blk_drewN ?_ _ | refine blk_drew ?_ | refine blk_alloc ?_ _)); refine blk_far ?_ NB119_130.out _; (with_reducible repeat (first | refine blk_drewN ?_ _ | refine blk_drew ?_ | refine blk_alloc ?_ _)); refine blk_far ?_ NB119_130.out _; (with_reducible repeat (first | refine blk_drewN ?_ _ | refine blk_drew ?_ | refine blk_alloc ?_ _)); refine blk_far ?_ NB119_130.out _; (with_reducible repeat (first | refine blk_drewN ?_ _ | refine blk_drew ?_ | refine blk_alloc ?_ _)); exact BK119.out) : P := h
theorem zq77 {P : Prop} (h : P := by (with_reducible repeat (first | refine blk_drewN ?_ _ | refine blk_drew ?_ | refine blk_alloc ?_ _)); refine blk_far ?_ NB110_130.out _; (with_reducible repeat (first | refine blk_drewN ?_ _ | refine blk_drew ?_ | refine blk_alloc ?_ _)); refine blk_far ?_ NB110_130.out _; (with_reducible repeat (first | refine blk_drewN ?_ _ | refine blk_drew ?_ | refine blk_alloc ?_ _)); refine blk_far ?_ NB110_130.out _; (with_reducible repeat (first | refine blk_drewN ?_ _ | refine blk_drew ?_ | refine blk_alloc ?_ _)); refine blk_far ?_ NB110_130.out _; (with_reducible repeat (first | refine blk_drewN ?_ _ | refine blk_drew ?_ | refine blk_alloc ?_ _)); refine blk_far ?_ NB110_130.out _; (with_reducible repeat (first | refine blk_drewN ?_ _ | refine blk_drew ?_ | refine blk_alloc ?_ _)); exact BK110.out) : P := h
theorem zq78 {P : Prop} (h : P := by (with_reducible repeat (first | refine blk_drewN ?_ _ | refine blk_drew ?_ | refine blk_alloc ?_ _)); refine blk_far ?_ NB106_120.out _; (with_reducible repeat (first | refine blk_drewN ?_ _ | refine blk_drew ?_ | refine blk_alloc ?_ _)); refine blk_far ?_ NB106_120.out _; (with_reducible repeat (first | refine blk_drewN ?_ _ | refine blk_drew ?_ | refine blk_alloc ?_ _)); refine blk_far ?_ NB106_120.out _; (with_reducible repeat (first | refine blk_drewN ?_ _ | refine blk_drew ?_ | refine blk_alloc ?_ _)); refine blk_far ?_ NB106_120.out _; (with_reducible repeat (first | refine blk_drewN ?_ _ | refine blk_drew ?_ | refine blk_alloc ?_ _)); refine blk_far ?_ NB106_120.out _; (with_reducible repeat (first | refine blk_drewN ?_ _ | refine blk_drew ?_ | refine blk_alloc ?_ _)); exact BK106.out) : P := h
theorem zq79 {P : Prop} (h : P := by (with_reducible repeat (first | refine blk_drewN ?_ _ | refine blk_drew ?_ | refine blk_alloc ?_ _)); refine blk_far ?_ NB101_120.out _; (with_reducible repeat (first | refine blk_drewN ?_ _ | refine blk_drew ?_ | refine blk_alloc ?_ _)); refine blk_far ?_ NB101_120.out _; (with_reducible repeat (first | refine blk_drewN ?_ _ | refine blk_drew ?_ | refine blk_alloc ?_ _)); refine blk_far ?_ NB101_120.out _; (with_reducible repeat (first | refine blk_drewN ?_ _ | refine blk_drew ?_ | refine blk_alloc ?_ _)); refine blk_far ?_ NB101_120.out _; (with_reducible repeat (first | refine blk_drewN ?_ _ | refine blk_drew ?_ | refine blk_alloc ?_ _)); refine blk_far ?_ NB101_120.out _; (with_reducible repeat (first | refine blk_drewN ?_ _ | refine blk_drew ?_ | refine blk_alloc ?_ _)); exact BK101.out) : P := h
theorem zq80 {P : Prop} (h : P := by (with_reducible repeat (first | apply Kd.R_alloc | apply Kd.R_drewN | apply Kd.R_drew)); exact HO128.out) : P := h
theorem zq81 {P : Prop} (h : P := by (with_reducible repeat (first | apply Kd.R_alloc | apply Kd.R_drewN | apply Kd.R_drew)); exact HO125.out) : P := h
theorem zq82 {P : Prop} (h : P := by (with_reducible repeat (first | refine blk_drewN ?_ _ | refine blk_drew ?_ | refine blk_alloc ?_ _)); refine blk_put (cs := #[.string t102, .slice Ao3004 t103.length co3004, .slice none 0 0]) ?_ 2 _ rfl; (with_reducible repeat (first | refine blk_drewN ?_ _ | refine blk_drew ?_ | refine blk_alloc ?_ _)); refine blk_put (cs := #[.string t102, .slice none 0 0, .slice none 0 0]) ?_ 1 _ rfl; (with_reducible repeat (first | refine blk_drewN ?_ _ | refine blk_drew ?_ | refine blk_alloc ?_ _)); refine blk_put (cs := #[.string (⟨#[]⟩ : ByteArray), .slice none 0 0, .slice none 0 0]) ?_ 0 _ rfl; (with_reducible repeat (first | refine blk_drewN ?_ _ | refine blk_drew ?_ | refine blk_alloc ?_ _)); exact BK110.out) : P := h
theorem zq83 {P : Prop} (h : P := by (with_reducible repeat (first | refine blk_drewN ?_ _ | refine blk_drew ?_ | refine blk_alloc ?_ _)); refine blk_put (cs := #[.int .i64 t107, .int .i64 0, .string (⟨#[]⟩ : ByteArray)]) ?_ 2 _ rfl; (with_reducible repeat (first | refine blk_drewN ?_ _ | refine blk_drew ?_ | refine blk_alloc ?_ _)); refine blk_put (cs := #[.int .i64 t107, .int .i64 0, .string (⟨#[]⟩ : ByteArray)]) ?_ 1 _ rfl; (with_reducible repeat (first | refine blk_drewN ?_ _ | refine blk_drew ?_ | refine blk_alloc ?_ _)); refine blk_put (cs := #[.int .i64 0, .int .i64 0, .string (⟨#[]⟩ : ByteArray)]) ?_ 0 _ rfl; (with_reducible repeat (first | refine blk_drewN ?_ _ | refine blk_drew ?_ | refine blk_alloc ?_ _)); exact BK108.out) : P := h
theorem zq84 {P : Prop} (h : P := by (with_reducible repeat (first | refine blk_drewN ?_ _ | refine blk_drew ?_ | refine blk_alloc ?_ _)); refine blk_put (cs := #[.int .i64 0, .int .i64 0, .string (⟨#[]⟩ : ByteArray)]) ?_ 2 _ rfl; (with_reducible repeat (first | refine blk_drewN ?_ _ | refine blk_drew ?_ | refine blk_alloc ?_ _)); refine blk_put (cs := #[.int .i64 0, .int .i64 0, .string (⟨#[]⟩ : ByteArray)]) ?_ 1 _ rfl; (with_reducible repeat (first | refine blk_drewN ?_ _ | refine blk_drew ?_ | refine blk_alloc ?_ _)); refine blk_put (cs := #[.int .i64 0, .int .i64 0, .string (⟨#[]⟩ : ByteArray)]) ?_ 0 _ rfl; (with_reducible repeat (first | refine blk_drewN ?_ _ | refine blk_drew ?_ | refine blk_alloc ?_ _)); exact BK101.out) : P := h
theorem zq85 {P : Prop} (h : P := by (with_reducible repeat (first | refine blk_drewN ?_ _ | refine blk_drew ?_ | refine blk_alloc ?_ _)); exact BK108.out) : P := h
theorem zq86 {P : Prop} (h : P := by repeat (first | (with_reducible first | exact HB.out | apply below_alloc | apply pw_below_drewN | apply below_drew1 | refine below_set ?_ GE101.out | refine below_set ?_ GE102.out | refine below_set ?_ GE123.out) | exact HB.out)) : P := h
theorem zq87 {P : Prop} (h : P := by repeat (first | (with_reducible first | exact HB.out | apply below_alloc | apply pw_below_drewN | apply below_drew1 | refine below_set ?_ GE101.out | refine below_set ?_ GE102.out | refine below_set ?_ GE103.out) | exact HB.out)) : P := h
theorem zq88 {P : Prop} (h : P := by (with_reducible repeat (first | apply Kd.R_alloc | apply Kd.R_drewN | apply Kd.R_drew)); exact HO139.out) : P := h
theorem zq89 {P : Prop} (h : P := by (with_reducible repeat (first | apply Kd.R_alloc | apply Kd.R_drewN | apply Kd.R_drew)); exact HO136.out) : P := h
theorem zq90 {P : Prop} (h : P := by (with_reducible repeat (first | apply Kd.R_alloc | apply Kd.R_drewN | apply Kd.R_drew)); exact HO110.out) : P := h
theorem zq91 {P : Prop} (h : P := by (with_reducible repeat (first | apply Kd.R_alloc | apply Kd.R_drewN | apply Kd.R_drew)); exact HO_5.out) : P := h
theorem zq92 {P : Prop} (h : P := by (with_reducible repeat (first | refine blk_drewN ?_ _ | refine blk_drew ?_ | refine blk_alloc ?_ _)); exact BK141.out) : P := h
theorem zq93 {P : Prop} (h : P := by (with_reducible repeat (first | refine blk_drewN ?_ _ | refine blk_drew ?_ | refine blk_alloc ?_ _)); refine blk_put (cs := #[.string a0, .string t107, .string t112, .slice Ao3010 t118.length co3010, .slice none 0 0]) ?_ 4 _ rfl; (with_reducible repeat (first | refine blk_drewN ?_ _ | refine blk_drew ?_ | refine blk_alloc ?_ _)); refine blk_put (cs := #[.string a0, .string t107, .string t112, .slice none 0 0, .slice none 0 0]) ?_ 3 _ rfl; (with_reducible repeat (first | refine blk_drewN ?_ _ | refine blk_drew ?_ | refine blk_alloc ?_ _)); exact BK117.out) : P := h
theorem zq94 {P : Prop} (h : P := by (with_reducible repeat (first | apply Kd.R_alloc | apply Kd.R_drewN | apply Kd.R_drew)); exact (Kd.R_mono (Kd.R_far (p := ⟨gb141, 4, none⟩) (Kd.R_far (p := ⟨gb141, 3, none⟩) (Kd.R_far (p := ⟨gb141, 2, none⟩) (Kd.R_far (p := ⟨gb141, 1, none⟩) (Kd.R_far (p := ⟨gb141, 0, none⟩) (Kd.R_types HO117.out BK141.out (by decide)) (fun _ hk => hk.2) (.string t131)) (fun _ hk => hk.2) (.string t132)) (fun _ hk => hk.2) (.string t133)) (fun _ hk => hk.2) (.slice Ao3025 t134.length co3025)) (fun _ hk => hk.2) (.slice Ao3026 t137.length co3026)) (fun _ h_ => h_.1))) : P := h
theorem zq95 {P : Prop} (h : P := by (with_reducible repeat (first | apply Kd.R_alloc | apply Kd.R_drewN | apply Kd.R_drew)); exact (Kd.R_mono (Kd.R_far (p := ⟨gb141, 4, none⟩) (Kd.R_far (p := ⟨gb141, 3, none⟩) (Kd.R_far (p := ⟨gb141, 2, none⟩) (Kd.R_far (p := ⟨gb141, 1, none⟩) (Kd.R_far (p := ⟨gb141, 0, none⟩) (Kd.R_types HO114.out BK141.out (by decide)) (fun _ hk => hk.2) (.string t131)) (fun _ hk => hk.2) (.string t132)) (fun _ hk => hk.2) (.string t133)) (fun _ hk => hk.2) (.slice Ao3025 t134.length co3025)) (fun _ hk => hk.2) (.slice Ao3026 t137.length co3026)) (fun _ h_ => h_.1))) : P := h
theorem zq96 {P : Prop} (h : P := by (with_reducible repeat (first | apply Kd.R_alloc | apply Kd.R_drewN | apply Kd.R_drew)); exact (Kd.R_mono (Kd.R_far (p := ⟨gb141, 4, none⟩) (Kd.R_far (p := ⟨gb141, 3, none⟩) (Kd.R_far (p := ⟨gb141, 2, none⟩) (Kd.R_far (p := ⟨gb141, 1, none⟩) (Kd.R_far (p := ⟨gb141, 0, none⟩) (Kd.R_types HO108.out BK141.out (by decide)) (fun _ hk => hk.2) (.string t131)) (fun _ hk => hk.2) (.string t132)) (fun _ hk => hk.2) (.string t133)) (fun _ hk => hk.2) (.slice Ao3025 t134.length co3025)) (fun _ hk => hk.2) (.slice Ao3026 t137.length co3026)) (fun _ h_ => h_.1))) : P := h
theorem zq97 {P : Prop} (h : P := by (with_reducible repeat (first | apply Kd.R_alloc | apply Kd.R_drewN | apply Kd.R_drew)); exact (Kd.R_mono (Kd.R_far (p := ⟨gb141, 4, none⟩) (Kd.R_far (p := ⟨gb141, 3, none⟩) (Kd.R_far (p := ⟨gb141, 2, none⟩) (Kd.R_far (p := ⟨gb141, 1, none⟩) (Kd.R_far (p := ⟨gb141, 0, none⟩) (Kd.R_types HO105.out BK141.out (by decide)) (fun _ hk => hk.2) (.string t131)) (fun _ hk => hk.2) (.string t132)) (fun _ hk => hk.2) (.string t133)) (fun _ hk => hk.2) (.slice Ao3025 t134.length co3025)) (fun _ hk => hk.2) (.slice Ao3026 t137.length co3026)) (fun _ h_ => h_.1))) : P := h
theorem zq98 {P : Prop} (h : P := by repeat (first | (with_reducible first | exact HK.out | apply KeepBut.set_ | apply keep_drewN | apply keep_drew | apply keep_alloc | refine keep_far ?_ GW101.out _) | exact HK.out)) : P := h
theorem zq99 {P : Prop} (h : P := by (with_reducible repeat (first | refine blk_drewN ?_ _ | refine blk_drew ?_ | refine blk_alloc ?_ _)); refine blk_far ?_ NB103_108.out _; (with_reducible repeat (first | refine blk_drewN ?_ _ | refine blk_drew ?_ | refine blk_alloc ?_ _)); refine blk_far ?_ NB103_108.out _; (with_reducible repeat (first | refine blk_drewN ?_ _ | refine blk_drew ?_ | refine blk_alloc ?_ _)); refine blk_far ?_ NB103_108.out _; (with_reducible repeat (first | refine blk_drewN ?_ _ | refine blk_drew ?_ | refine blk_alloc ?_ _)); exact BK103.out) : P := h
theorem zq100 {P : Prop} (h : P := by (with_reducible repeat (first | refine blk_drewN ?_ _ | refine blk_drew ?_ | refine blk_alloc ?_ _)); refine blk_far ?_ NB102_108.out _; (with_reducible repeat (first | refine blk_drewN ?_ _ | refine blk_drew ?_ | refine blk_alloc ?_ _)); refine blk_far ?_ NB102_108.out _; (with_reducible repeat (first | refine blk_drewN ?_ _ | refine blk_drew ?_ | refine blk_alloc ?_ _)); refine blk_far ?_ NB102_108.out _; (with_reducible repeat (first | refine blk_drewN ?_ _ | refine blk_drew ?_ | refine blk_alloc ?_ _)); exact BK102.out) : P := h
theorem zq101 {P : Prop} (h : P := by (with_reducible repeat (first | refine blk_drewN ?_ _ | refine blk_drew ?_ | refine blk_alloc ?_ _)); refine blk_far ?_ NB101_108.out _; (with_reducible repeat (first | refine blk_drewN ?_ _ | refine blk_drew ?_ | refine blk_alloc ?_ _)); refine blk_far ?_ NB101_108.out _; (with_reducible repeat (first | refine blk_drewN ?_ _ | refine blk_drew ?_ | refine blk_alloc ?_ _)); refine blk_far ?_ NB101_108.out _; (with_reducible repeat (first | refine blk_drewN ?_ _ | refine blk_drew ?_ | refine blk_alloc ?_ _)); exact BK101.out) : P := h
theorem zq102 {P : Prop} (h : P := by repeat (first | (with_reducible first | exact HB.out | apply below_alloc | apply pw_below_drewN | apply below_drew1 | refine below_set ?_ GE101.out | refine below_set ?_ GE102.out | refine below_set ?_ GE123.out | refine below_set ?_ GE130.out) | exact HB.out)) : P := h
theorem zq103 {P : Prop} (h : P := by (with_reducible repeat (first | refine blk_drewN ?_ _ | refine blk_drew ?_ | refine blk_alloc ?_ _)); refine blk_far ?_ NB101_107.out _; (with_reducible repeat (first | refine blk_drewN ?_ _ | refine blk_drew ?_ | refine blk_alloc ?_ _)); exact BK101.out) : P := h
theorem zq104 {P : Prop} (h : P := by (with_reducible repeat (first | refine blk_drewN ?_ _ | refine blk_drew ?_ | refine blk_alloc ?_ _)); refine blk_put (cs := #[.string a0, .slice Ao3008 t108.length co3008, .slice none 0 0]) ?_ 2 _ rfl; (with_reducible repeat (first | refine blk_drewN ?_ _ | refine blk_drew ?_ | refine blk_alloc ?_ _)); refine blk_put (cs := #[.string a0, .slice none 0 0, .slice none 0 0]) ?_ 1 _ rfl; (with_reducible repeat (first | refine blk_drewN ?_ _ | refine blk_drew ?_ | refine blk_alloc ?_ _)); exact BK107.out) : P := h
theorem zq105 {P : Prop} (h : P := by repeat (first | (with_reducible first | exact HB.out | apply below_alloc | apply pw_below_drewN | apply below_drew1 | refine below_set ?_ GE101.out | refine below_set ?_ GE102.out | refine below_set ?_ GE111.out) | exact HB.out)) : P := h
theorem zq106 {P : Prop} (h : P := by (with_reducible repeat (first | apply Kd.R_alloc | apply Kd.R_drewN | apply Kd.R_drew)); exact (Kd.R_mono (Kd.R_far (p := ⟨gb119, 2, none⟩) (Kd.R_far (p := ⟨gb119, 1, none⟩) (Kd.R_far (p := ⟨gb119, 0, none⟩) (Kd.R_types HO117.out BK119.out (by decide)) (fun _ hk => hk.2) (.string t111)) (fun _ hk => hk.2) (.slice Ao3010 t112.length co3010)) (fun _ hk => hk.2) (.slice Ao3011 t115.length co3011)) (fun _ h_ => h_.1))) : P := h
theorem zq107 {P : Prop} (h : P := by (with_reducible repeat (first | apply Kd.R_alloc | apply Kd.R_drewN | apply Kd.R_drew)); exact (Kd.R_mono (Kd.R_far (p := ⟨gb119, 2, none⟩) (Kd.R_far (p := ⟨gb119, 1, none⟩) (Kd.R_far (p := ⟨gb119, 0, none⟩) (Kd.R_types HO114.out BK119.out (by decide)) (fun _ hk => hk.2) (.string t111)) (fun _ hk => hk.2) (.slice Ao3010 t112.length co3010)) (fun _ hk => hk.2) (.slice Ao3011 t115.length co3011)) (fun _ h_ => h_.1))) : P := h
theorem zq108 {P : Prop} (h : P := by (with_reducible repeat (first | apply Kd.R_alloc | apply Kd.R_drewN | apply Kd.R_drew)); exact (Kd.R_mono (Kd.R_far (p := ⟨gb119, 2, none⟩) (Kd.R_far (p := ⟨gb119, 1, none⟩) (Kd.R_far (p := ⟨gb119, 0, none⟩) (Kd.R_types HO108.out BK119.out (by decide)) (fun _ hk => hk.2) (.string t111)) (fun _ hk => hk.2) (.slice Ao3010 t112.length co3010)) (fun _ hk => hk.2) (.slice Ao3011 t115.length co3011)) (fun _ h_ => h_.1))) : P := h
theorem zq109 {P : Prop} (h : P := by (with_reducible repeat (first | apply Kd.R_alloc | apply Kd.R_drewN | apply Kd.R_drew)); exact (Kd.R_mono (Kd.R_far (p := ⟨gb119, 2, none⟩) (Kd.R_far (p := ⟨gb119, 1, none⟩) (Kd.R_far (p := ⟨gb119, 0, none⟩) (Kd.R_types HO105.out BK119.out (by decide)) (fun _ hk => hk.2) (.string t111)) (fun _ hk => hk.2) (.slice Ao3010 t112.length co3010)) (fun _ hk => hk.2) (.slice Ao3011 t115.length co3011)) (fun _ h_ => h_.1))) : P := h
theorem zq110 {P : Prop} (h : P := by (with_reducible repeat (first | apply Kd.R_alloc | apply Kd.R_drewN | apply Kd.R_drew)); exact (Kd.R_mono (Kd.R_far (p := ⟨gb112, 2, none⟩) (Kd.R_far (p := ⟨gb112, 1, none⟩) (Kd.R_far (p := ⟨gb112, 0, none⟩) (Kd.R_types HO110.out BK112.out (by decide)) (fun _ hk => hk.2) (.string a0)) (fun _ hk => hk.2) (.slice Ao3007 t105.length co3007)) (fun _ hk => hk.2) (.slice Ao3006 t108.length co3006)) (fun _ h_ => h_.1))) : P := h
theorem zq111 {P : Prop} (h : P := by (with_reducible repeat (first | apply Kd.R_alloc | apply Kd.R_drewN | apply Kd.R_drew)); exact (Kd.R_mono (Kd.R_far (p := ⟨gb112, 2, none⟩) (Kd.R_far (p := ⟨gb112, 1, none⟩) (Kd.R_far (p := ⟨gb112, 0, none⟩) (Kd.R_types HO107.out BK112.out (by decide)) (fun _ hk => hk.2) (.string a0)) (fun _ hk => hk.2) (.slice Ao3007 t105.length co3007)) (fun _ hk => hk.2) (.slice Ao3006 t108.length co3006)) (fun _ h_ => h_.1))) : P := h
theorem zq112 {P : Prop} (h : P := by (with_reducible repeat (first | apply Kd.R_alloc | apply Kd.R_drewN | apply Kd.R_drew)); exact HO107.out) : P := h
theorem zq113 {P : Prop} (h : P := by (with_reducible repeat (first | apply Kd.R_alloc | apply Kd.R_drewN | apply Kd.R_drew)); exact (Kd.R_mono (Kd.R_far (p := ⟨gb112, 2, none⟩) (Kd.R_far (p := ⟨gb112, 1, none⟩) (Kd.R_far (p := ⟨gb112, 0, none⟩) (Kd.R_types HO110.out BK112.out (by decide)) (fun _ hk => hk.2) (.string a0)) (fun _ hk => hk.2) (.slice Ao32 t105.length co32)) (fun _ hk => hk.2) (.slice Ao31 t108.length co31)) (fun _ h_ => h_.1))) : P := h
theorem zq114 {P : Prop} (h : P := by (with_reducible repeat (first | apply Kd.R_alloc | apply Kd.R_drewN | apply Kd.R_drew)); exact (Kd.R_mono (Kd.R_far (p := ⟨gb112, 2, none⟩) (Kd.R_far (p := ⟨gb112, 1, none⟩) (Kd.R_far (p := ⟨gb112, 0, none⟩) (Kd.R_types HO110.out BK112.out (by decide)) (fun _ hk => hk.2) (.string a0)) (fun _ hk => hk.2) (.slice Ao15 t105.length co15)) (fun _ hk => hk.2) (.slice Ao14 t108.length co14)) (fun _ h_ => h_.1))) : P := h
theorem zq115 {P : Prop} (h : P := by (with_reducible repeat (first | apply Kd.R_alloc | apply Kd.R_drewN | apply Kd.R_drew)); exact (Kd.R_mono (Kd.R_far (p := ⟨gb112, 2, none⟩) (Kd.R_far (p := ⟨gb112, 1, none⟩) (Kd.R_far (p := ⟨gb112, 0, none⟩) (Kd.R_types HO107.out BK112.out (by decide)) (fun _ hk => hk.2) (.string a0)) (fun _ hk => hk.2) (.slice Ao32 t105.length co32)) (fun _ hk => hk.2) (.slice Ao31 t108.length co31)) (fun _ h_ => h_.1))) : P := h
theorem zq116 {P : Prop} (h : P := by (with_reducible repeat (first | apply Kd.R_alloc | apply Kd.R_drewN | apply Kd.R_drew)); exact (Kd.R_mono (Kd.R_far (p := ⟨gb112, 2, none⟩) (Kd.R_far (p := ⟨gb112, 1, none⟩) (Kd.R_far (p := ⟨gb112, 0, none⟩) (Kd.R_types HO107.out BK112.out (by decide)) (fun _ hk => hk.2) (.string a0)) (fun _ hk => hk.2) (.slice Ao15 t105.length co15)) (fun _ hk => hk.2) (.slice Ao14 t108.length co14)) (fun _ h_ => h_.1))) : P := h
theorem zq117 {P : Prop} (h : P := by (with_reducible repeat (first | refine blk_drewN ?_ _ | refine blk_drew ?_ | refine blk_alloc ?_ _)); refine blk_far ?_ NB101_117.out _; (with_reducible repeat (first | refine blk_drewN ?_ _ | refine blk_drew ?_ | refine blk_alloc ?_ _)); refine blk_far ?_ NB101_117.out _; (with_reducible repeat (first | refine blk_drewN ?_ _ | refine blk_drew ?_ | refine blk_alloc ?_ _)); exact BK101.out) : P := h
theorem zq118 {P : Prop} (h : P := by (with_reducible repeat (first | refine blk_drewN ?_ _ | refine blk_drew ?_ | refine blk_alloc ?_ _)); refine blk_far ?_ NB101_107.out _; (with_reducible repeat (first | refine blk_drewN ?_ _ | refine blk_drew ?_ | refine blk_alloc ?_ _)); refine blk_far ?_ NB101_107.out _; (with_reducible repeat (first | refine blk_drewN ?_ _ | refine blk_drew ?_ | refine blk_alloc ?_ _)); exact BK101.out) : P := h
theorem zq119 {P : Prop} (h : P := by (with_reducible repeat (first | apply Kd.R_alloc | apply Kd.R_drewN | apply Kd.R_drew)); exact (Kd.R_mono (Kd.R_far (p := ⟨gb106, 2, none⟩) (Kd.R_far (p := ⟨gb106, 1, none⟩) (Kd.R_far (p := ⟨gb106, 0, none⟩) (Kd.R_types HO119.out BK106.out (by decide)) (fun _ hk => hk.2) (.string t111)) (fun _ hk => hk.2) (.int .i64 t112)) (fun _ hk => hk.2) (.int .i64 t113)) (fun _ h_ => h_.1))) : P := h
theorem zq120 {P : Prop} (h : P := by (with_reducible repeat (first | apply Kd.R_alloc | apply Kd.R_drewN | apply Kd.R_drew)); exact (Kd.R_mono (Kd.R_far (p := ⟨gb106, 2, none⟩) (Kd.R_far (p := ⟨gb106, 1, none⟩) (Kd.R_far (p := ⟨gb106, 0, none⟩) (Kd.R_types HO116.out BK106.out (by decide)) (fun _ hk => hk.2) (.string t111)) (fun _ hk => hk.2) (.int .i64 t112)) (fun _ hk => hk.2) (.int .i64 t113)) (fun _ h_ => h_.1))) : P := h
theorem zq121 {P : Prop} (h : P := by have := HK1.out; first | omega | exact Nat.le_refl _) : P := h
theorem zq122 {P : Prop} (h : P := by (with_reducible repeat (first | apply Kd.R_alloc | apply Kd.R_drewN | apply Kd.R_drew)); exact (Kd.R_mono (Kd.R_far (p := ⟨gb117, 4, none⟩) (Kd.R_far (p := ⟨gb117, 3, none⟩) (Kd.R_types HO123.out BK117.out (by decide)) (fun _ hk => hk.2) (.slice Ao3010 t118.length co3010)) (fun _ hk => hk.2) (.slice Ao3012 t121.length co3012)) (fun _ h_ => h_.1))) : P := h
theorem zq123 {P : Prop} (h : P := by (with_reducible repeat (first | apply Kd.R_alloc | apply Kd.R_drewN | apply Kd.R_drew)); exact (Kd.R_mono (Kd.R_far (p := ⟨gb117, 4, none⟩) (Kd.R_far (p := ⟨gb117, 3, none⟩) (Kd.R_types HO120.out BK117.out (by decide)) (fun _ hk => hk.2) (.slice Ao3010 t118.length co3010)) (fun _ hk => hk.2) (.slice Ao3012 t121.length co3012)) (fun _ h_ => h_.1))) : P := h
theorem zq124 {P : Prop} (h : P := by (with_reducible repeat (first | apply Kd.R_alloc | apply Kd.R_drewN | apply Kd.R_drew)); exact (Kd.R_mono (Kd.R_far (p := ⟨gb107, 2, none⟩) (Kd.R_far (p := ⟨gb107, 1, none⟩) (Kd.R_types HO113.out BK107.out (by decide)) (fun _ hk => hk.2) (.slice Ao3008 t108.length co3008)) (fun _ hk => hk.2) (.slice Ao3010 t111.length co3010)) (fun _ h_ => h_.1))) : P := h
theorem zq125 {P : Prop} (h : P := by (with_reducible repeat (first | apply Kd.R_alloc | apply Kd.R_drewN | apply Kd.R_drew)); exact (Kd.R_mono (Kd.R_far (p := ⟨gb107, 2, none⟩) (Kd.R_far (p := ⟨gb107, 1, none⟩) (Kd.R_types HO110.out BK107.out (by decide)) (fun _ hk => hk.2) (.slice Ao3008 t108.length co3008)) (fun _ hk => hk.2) (.slice Ao3010 t111.length co3010)) (fun _ h_ => h_.1))) : P := h
theorem zq126 {P : Prop} (h : P := by repeat (first | (with_reducible first | exact HB.out | apply below_alloc | apply pw_below_drewN | apply below_drew1 | refine below_set ?_ GE106.out) | exact HB.out)) : P := h
theorem zq127 {P : Prop} (h : P := by (with_reducible repeat (first | refine blk_drewN ?_ _ | refine blk_drew ?_ | refine blk_alloc ?_ _)); refine blk_put (cs := #[.int .i64 t102, .int .i64 0, .string (⟨#[]⟩ : ByteArray)]) ?_ 1 _ rfl; (with_reducible repeat (first | refine blk_drewN ?_ _ | refine blk_drew ?_ | refine blk_alloc ?_ _)); exact BK107.out) : P := h
theorem zq128 {P : Prop} (h : P := by repeat (first | (with_reducible first | exact HI106.out | apply IsS143.alloc | apply IsS143.drewN | apply IsS143.drew | apply IsS143.set_0 | apply IsS143.set_1 | apply IsS143.set_2 | apply IsS143.set_3 | refine IsS143.far ?_ NB106_101.out _ | refine IsS143.far ?_ NB106_117.out _) | exact HI106.out)) : P := h
theorem zq129 {P : Prop} (h : P := by repeat (first | (with_reducible first | exact HI106.out | apply IsS143.alloc | apply IsS143.drewN | apply IsS143.drew | apply IsS143.set_0 | apply IsS143.set_1 | apply IsS143.set_2 | apply IsS143.set_3 | refine IsS143.far ?_ NB106_101.out _ | refine IsS143.far ?_ NB106_107.out _) | exact HI106.out)) : P := h
theorem zq130 {P : Prop} (h : P := by first | omega | exact Nat.le_refl _) : P := h
theorem zq131 {P : Prop} (h : P := by repeat (first | (with_reducible first | exact HI106.out | apply IsS143.alloc | apply IsS143.drewN | apply IsS143.drew | apply IsS143.set_0 | apply IsS143.set_1 | apply IsS143.set_2 | apply IsS143.set_3 | refine IsS143.far ?_ NB106_101.out _) | exact HI106.out)) : P := h
theorem zq132 {P : Prop} (h : P := by rw [show 1 = 0 + 1 from rfl, ← List.drop_drop]; exact (List.take_append_drop _ _).symm) : P := h
theorem zq133 {P : Prop} (h : P := by (with_reducible repeat (first | refine blk_drewN ?_ _ | refine blk_drew ?_ | refine blk_alloc ?_ _)); exact BK123.out) : P := h
theorem zq134 {P : Prop} (h : P := by (with_reducible repeat (first | refine blk_drewN ?_ _ | refine blk_drew ?_ | refine blk_alloc ?_ _)); exact BK106.out) : P := h
theorem zq135 {P : Prop} (h : P := by first | rfl | (simp; done) | (simp only [← hji2, ← hji10, ← hji12] <;> (first | rfl | simp)) | (simp [*]; done)) : P := h
theorem zq136 {P : Prop} (h : P := by (with_reducible repeat (first | apply Kd.R_alloc | apply Kd.R_drewN | apply Kd.R_drew)); exact HO113.out) : P := h
theorem zq137 {P : Prop} (h : P := by (with_reducible repeat (first | apply Kd.R_alloc | apply Kd.R_drewN | apply Kd.R_drew)); exact HO_6.out) : P := h
theorem zq138 {P : Prop} (h : P := by rw [← add_field _ _ 1 (by omega)]; exact hc 1 _ rfl) : P := h
theorem zq139 {P : Prop} (h : P := by first | rfl | (simp [errW_none, errW_some] <;> rfl) | (simp only [← hji15]; first | rfl | (simp [errW_none, errW_some] <;> rfl)) | (simp [*, errW_none, errW_some] <;> rfl)) : P := h
theorem zq140 {P : Prop} (h : P := by rw [show 2 = 1 + 1 from rfl, ← List.drop_drop]; exact (List.take_append_drop _ _).symm) : P := h
theorem zq141 {P : Prop} (h : P := by rw [ByteArray.size_append]; omega) : P := h
theorem zq142 {P : Prop} (h : P := by rw [← add_field _ _ 2 (by omega)]; exact hc 2 _ rfl) : P := h
theorem zq143 {P : Prop} (h : P := by repeat (first | (with_reducible first | exact HBW.out | apply below_alloc | apply pw_below_drewN | apply below_drew1) | exact HBW.out)) : P := h
end Go.Proofs.Ytmnadajjgnniaaa
section
namespace Go.Proofs.Ytmnadajjgnniaaa.HBase
open Go
theorem less_leq : ∀ x y : List UInt8, (Op.bytesLess x y || x == y) = !(Op.bytesLess y x)
  | [], [] => by simp [Op.bytesLess]
  | [], b :: y => by simp [Op.bytesLess]
  | a :: x, [] => by simp [Op.bytesLess]
  | a :: x, b :: y => by
    have ih := less_leq x y
    by_cases h1 : a < b
    · have h2 : ¬ b < a := by simp only [UInt8.lt_iff_toNat_lt] at *; omega
      have h3 : ¬ b = a := by rintro rfl; simp at h1
      simp [Op.bytesLess, h1, h2, h3]
    · by_cases h2 : b < a
      · have h3 : ¬ b = a := by rintro rfl; simp at h2
        have h4 : ¬ a = b := fun h => h3 h.symm
        simp [Op.bytesLess, h1, h2, h4]
      · have h3 : a = b := by
          apply UInt8.toNat_inj.1
          simp only [UInt8.lt_iff_toNat_lt] at *
          omega
        subst h3
        simp [Op.bytesLess, h1] at ih ⊢
        exact ih
@[go_sem high] theorem binOp_string_leq_p (t : TypeId) (a b : ByteArray) : binOp .leq t (.string a) (.string b) = pure (.bool !(Op.bytesLess b.toList a.toList)) := by
  simp [binOp, Op.stringOp, ← less_leq]
@[go_sem high] theorem binOp_string_gtr_p (t : TypeId) (a b : ByteArray) : binOp .gtr t (.string a) (.string b) = pure (.bool (Op.bytesLess b.toList a.toList)) := by
  show pure (Value.bool !(Op.bytesLess a.toList b.toList || a.toList == b.toList)) = _
  rw [less_leq, Bool.not_not]
@[go_sem high] theorem binOp_string_geq_p (t : TypeId) (a b : ByteArray) : binOp .geq t (.string a) (.string b) = pure (.bool !(Op.bytesLess a.toList b.toList)) := by simp [binOp, Op.stringOp]
end Go.Proofs.Ytmnadajjgnniaaa.HBase
end
section
namespace Go.Proofs.Ytmnadajjgnniaaa.MA
open Go.RowKit Go.Proofs.YtmnadajjgnniaaaW.PrintWords Go.Proofs.YtmnadajjgnniaaaW.PrintLast Go.Proofs.YtmnadajjgnniaaaW.PrintMore
attribute [local go_sem] max2_int min2_int max_two min_two max_three min_three max_four min_four



def errW : Option Int → Value
  | none => .nilIface
  | some c => .iface 0 (.int .i64 c)
theorem errW_none : errW none = .nilIface := rfl
theorem errW_some (c : Int) : errW (some c) = .iface 0 (.int .i64 c) := rfl

theorem info3 : (Try.prog.info? 3).map (fun i => (i.zero, i.size, i.bytes)) = some (some (.int .i64 0), 1, 8) := by kernel_rfl
theorem info5 : (Try.prog.info? 5).map (fun i => (i.zero, i.size, i.bytes)) = some (some (.int .u8 0), 1, 1) := by kernel_rfl
theorem info9 : (Try.prog.info? 9).map (fun i => (i.zero, i.size, i.bytes)) = some (some (.string ⟨#[]⟩), 1, 16) := by kernel_rfl
theorem info25 : (Try.prog.info? 25).map (fun i => (i.zero, i.size, i.bytes)) = some (some (.agg #[(.string ⟨#[]⟩), (.slice none 0 0), (.slice none 0 0)]), 3, 64) := by kernel_rfl
theorem info38 : (Try.prog.info? 38).map (fun i => (i.zero, i.size, i.bytes)) = some (some (.agg #[(.string ⟨#[]⟩), (.string ⟨#[]⟩), (.string ⟨#[]⟩), (.slice none 0 0), (.slice none 0 0)]), 5, 96) := by kernel_rfl
theorem info98 : (Try.prog.info? 98).map (fun i => (i.zero, i.size, i.bytes)) = some (some (.agg #[(.string ⟨#[]⟩), (.int .i64 0), (.int .i64 0), (.string ⟨#[]⟩)]), 4, 48) := by kernel_rfl
-- the values' own types
structure S80 where
  f0 : Int
  f1 : Int
  f2 : ByteArray
def z80 : S80 := ⟨(0 : Int), (0 : Int), (⟨#[]⟩ : ByteArray)⟩
def k80 : Kd S80 := Kd.iso (Kd.pair (Kd.int .i64) (Kd.pair (Kd.int .i64) Kd.string)) (fun x : S80 => (x.f0, x.f1, x.f2))
theorem k80_open {w : World} {x : S80} {cs : List Value} (h : k80.K w x cs) : cs = [.int .i64 x.f0, .int .i64 x.f1, .string x.f2] := by
  obtain ⟨_, _, rfl, rfl, ⟨_, _, rfl, rfl, rfl⟩⟩ := h; exact rfl
theorem k80_openM {w : World} {base : Nat} {ok : Nat → Prop} {x : S80} {cs : List Value} (h : k80.M w base ok x cs) : cs = [.int .i64 x.f0, .int .i64 x.f1, .string x.f2] := by
  obtain ⟨_, _, rfl, rfl, ⟨_, _, rfl, rfl, rfl⟩⟩ := h; exact rfl
theorem k80_mk (w : World) (x : S80)  : k80.K w x [.int .i64 x.f0, .int .i64 x.f1, .string x.f2] := ⟨[.int .i64 x.f0], [.int .i64 x.f1, .string x.f2], rfl, rfl, ⟨[.int .i64 x.f1], [.string x.f2], rfl, rfl, rfl⟩⟩
theorem k80_mkM (w : World) (base : Nat) (ok : Nat → Prop) (x : S80)  : k80.M w base ok x [.int .i64 x.f0, .int .i64 x.f1, .string x.f2] := ⟨[.int .i64 x.f0], [.int .i64 x.f1, .string x.f2], rfl, rfl, ⟨[.int .i64 x.f1], [.string x.f2], rfl, rfl, rfl⟩⟩
theorem k80_mkF (W : World) (ok : Nat → Prop) (x : S80) : Kd.FK k80 W ok x [.int .i64 x.f0, .int .i64 x.f1, .string x.f2] := fun W2 _ => k80_mk W2 x
def rd_T80 (xs : List S80) (i : Int) : S80 := xs.getD i.toNat z80
theorem at_T80 {w : World} {A : Option Addr} {n : Nat} {xs : List S80} (h : Kd.C k80 w A n xs) (i : Int) (h0 : 0 ≤ i) (h1 : i < n) : ∃ ad , A = some ad ∧ w.cell? (ad.add (i.toNat * 3)) = some (.int .i64 (rd_T80 xs i).f0) ∧ w.cell? ⟨(ad.add (i.toNat * 3)).block, (ad.add (i.toNat * 3)).off + 1, none⟩ = some (.int .i64 (rd_T80 xs i).f1) ∧ w.cell? ⟨(ad.add (i.toNat * 3)).block, (ad.add (i.toNat * 3)).off + 2, none⟩ = some (.string (rd_T80 xs i).f2) := by
  obtain ⟨ad, c, e, _, hK, hc0⟩ := Kd.C_get h z80 i h0 h1; have hc : ∀ j u, c[j]? = some u → w.cell? (ad.add (i.toNat * 3 + j)) = some u := hc0; obtain rfl := k80_open hK; exact ⟨ad, e, hc 0 _ rfl, zq138, zq142⟩

structure S98 where
  f0 : ByteArray
  f1 : S80
def z98 : S98 := ⟨(⟨#[]⟩ : ByteArray), z80⟩
def k98 : Kd S98 := Kd.iso (Kd.pair Kd.string k80) (fun x : S98 => (x.f0, x.f1))
theorem k98_open {w : World} {x : S98} {cs : List Value} (h : k98.K w x cs) : cs = [.string x.f0, .int .i64 x.f1.f0, .int .i64 x.f1.f1, .string x.f1.f2] := by
  obtain ⟨_, _, rfl, rfl, s1⟩ := h; obtain rfl := k80_open s1; exact rfl
theorem k98_openM {w : World} {base : Nat} {ok : Nat → Prop} {x : S98} {cs : List Value} (h : k98.M w base ok x cs) : cs = [.string x.f0, .int .i64 x.f1.f0, .int .i64 x.f1.f1, .string x.f1.f2] := by
  obtain ⟨_, _, rfl, rfl, s1⟩ := h; obtain rfl := k80_openM s1; exact rfl
theorem k98_mk (w : World) (x : S98)  : k98.K w x [.string x.f0, .int .i64 x.f1.f0, .int .i64 x.f1.f1, .string x.f1.f2] := ⟨[.string x.f0], [.int .i64 x.f1.f0, .int .i64 x.f1.f1, .string x.f1.f2], rfl, rfl, (k80_mk w x.f1 )⟩
theorem k98_mkM (w : World) (base : Nat) (ok : Nat → Prop) (x : S98)  : k98.M w base ok x [.string x.f0, .int .i64 x.f1.f0, .int .i64 x.f1.f1, .string x.f1.f2] := ⟨[.string x.f0], [.int .i64 x.f1.f0, .int .i64 x.f1.f1, .string x.f1.f2], rfl, rfl, (k80_mkM w base ok x.f1 )⟩
theorem k98_mkF (W : World) (ok : Nat → Prop) (x : S98) : Kd.FK k98 W ok x [.string x.f0, .int .i64 x.f1.f0, .int .i64 x.f1.f1, .string x.f1.f2] := fun W2 _ => k98_mk W2 x
def rd_T98 (xs : List S98) (i : Int) : S98 := xs.getD i.toNat z98
theorem at_T98 {w : World} {A : Option Addr} {n : Nat} {xs : List S98} (h : Kd.C k98 w A n xs) (i : Int) (h0 : 0 ≤ i) (h1 : i < n) : ∃ ad , A = some ad ∧ w.cell? (ad.add (i.toNat * 4)) = some (.string (rd_T98 xs i).f0) ∧ w.cell? ⟨(ad.add (i.toNat * 4)).block, (ad.add (i.toNat * 4)).off + 1, none⟩ = some (.int .i64 (rd_T98 xs i).f1.f0) ∧ w.cell? ⟨(ad.add (i.toNat * 4)).block, (ad.add (i.toNat * 4)).off + 2, none⟩ = some (.int .i64 (rd_T98 xs i).f1.f1) ∧ w.cell? ⟨(ad.add (i.toNat * 4)).block, (ad.add (i.toNat * 4)).off + 3, none⟩ = some (.string (rd_T98 xs i).f1.f2) := by
  obtain ⟨ad, c, e, _, hK, hc0⟩ := Kd.C_get h z98 i h0 h1; have hc : ∀ j u, c[j]? = some u → w.cell? (ad.add (i.toNat * 4 + j)) = some u := hc0; obtain rfl := k98_open hK; exact ⟨ad, e, hc 0 _ rfl, zq138, zq142, by rw [← add_field _ _ 3 (by omega)]; exact hc 3 _ rfl⟩

def rd_L5 (xs : List (List ByteArray)) (i : Int) : (List ByteArray) := xs.getD i.toNat ([] : List ByteArray)
theorem at_L5 {w : World} {A : Option Addr} {n : Nat} {xs : List (List ByteArray)} (h : Kd.C (Kd.slice 9 Kd.string) w A n xs) (i : Int) (h0 : 0 ≤ i) (h1 : i < n) : ∃ ad A0 c0, A = some ad ∧ w.cell? (ad.add i.toNat) = some (.slice A0 (rd_L5 xs i).length c0) ∧ (rd_L5 xs i).length ≤ c0 ∧ Kd.string.C w A0 (rd_L5 xs i).length (rd_L5 xs i) := by
  obtain ⟨ad, c, e, _, hK, hc0⟩ := Kd.C_get h ([] : List ByteArray) i h0 h1; have hc : ∀ j u, c[j]? = some u → w.cell? (ad.add (i.toNat * 1 + j)) = some u := hc0; obtain ⟨A0, c0, rfl, l0, g0⟩ := hK; exact ⟨ad, A0, c0, e, by have hq := hc 0 _ rfl; rwa [Nat.mul_one, Nat.add_zero] at hq, l0, g0⟩

def rd_L6 (xs : List (List S98)) (i : Int) : (List S98) := xs.getD i.toNat ([] : List S98)
theorem at_L6 {w : World} {A : Option Addr} {n : Nat} {xs : List (List S98)} (h : Kd.C (Kd.slice 98 k98) w A n xs) (i : Int) (h0 : 0 ≤ i) (h1 : i < n) : ∃ ad A0 c0, A = some ad ∧ w.cell? (ad.add i.toNat) = some (.slice A0 (rd_L6 xs i).length c0) ∧ (rd_L6 xs i).length ≤ c0 ∧ k98.C w A0 (rd_L6 xs i).length (rd_L6 xs i) := by
  obtain ⟨ad, c, e, _, hK, hc0⟩ := Kd.C_get h ([] : List S98) i h0 h1; have hc : ∀ j u, c[j]? = some u → w.cell? (ad.add (i.toNat * 1 + j)) = some u := hc0; obtain ⟨A0, c0, rfl, l0, g0⟩ := hK; exact ⟨ad, A0, c0, e, by have hq := hc 0 _ rfl; rwa [Nat.mul_one, Nat.add_zero] at hq, l0, g0⟩

structure S25 where
  f0 : ByteArray
  f1 : (List ByteArray)
  f2 : (List S98)
def z25 : S25 := ⟨(⟨#[]⟩ : ByteArray), ([] : List ByteArray), ([] : List S98)⟩
def k25 : Kd S25 := Kd.iso (Kd.pair Kd.string (Kd.pair (Kd.slice 9 Kd.string) (Kd.slice 98 k98))) (fun x : S25 => (x.f0, x.f1, x.f2))
theorem k25_open {w : World} {x : S25} {cs : List Value} (h : k25.K w x cs) : ∃ A1 c1 A2 c2, cs = [.string x.f0, .slice A1 x.f1.length c1, .slice A2 x.f2.length c2] ∧ x.f1.length ≤ c1 ∧ Kd.string.C w A1 x.f1.length x.f1 ∧ x.f2.length ≤ c2 ∧ k98.C w A2 x.f2.length x.f2 := by
  obtain ⟨_, _, rfl, rfl, ⟨_, _, rfl, ⟨A1, c1, rfl, l1, g1⟩, ⟨A2, c2, rfl, l2, g2⟩⟩⟩ := h; exact ⟨A1, c1, A2, c2, rfl, l1, g1, l2, g2⟩
theorem k25_openM {w : World} {base : Nat} {ok : Nat → Prop} {x : S25} {cs : List Value} (h : k25.M w base ok x cs) : ∃ v1 v2, cs = [.string x.f0, v1, v2] ∧ Kd.string.R 9 w base ok v1 x.f1 ∧ k98.R 98 w base ok v2 x.f2 := by
  obtain ⟨_, _, rfl, rfl, ⟨_, _, rfl, ⟨v1, rfl, g1⟩, ⟨v2, rfl, g2⟩⟩⟩ := h; exact ⟨v1, v2, rfl, g1, g2⟩
theorem k25_mk (w : World) (x : S25) {A1 : Option Addr} {c1 : Nat} (l1 : x.f1.length ≤ c1) (g1 : Kd.string.C w A1 x.f1.length x.f1) {A2 : Option Addr} {c2 : Nat} (l2 : x.f2.length ≤ c2) (g2 : k98.C w A2 x.f2.length x.f2) : k25.K w x [.string x.f0, .slice A1 x.f1.length c1, .slice A2 x.f2.length c2] := ⟨[.string x.f0], [.slice A1 x.f1.length c1, .slice A2 x.f2.length c2], rfl, rfl, ⟨[.slice A1 x.f1.length c1], [.slice A2 x.f2.length c2], rfl, ⟨A1, c1, rfl, l1, g1⟩, ⟨A2, c2, rfl, l2, g2⟩⟩⟩
theorem k25_mkM (w : World) (base : Nat) (ok : Nat → Prop) (x : S25) {v1 : Value} (g1 : Kd.string.R 9 w base ok v1 x.f1) {v2 : Value} (g2 : k98.R 98 w base ok v2 x.f2) : k25.M w base ok x [.string x.f0, v1, v2] := ⟨[.string x.f0], [v1, v2], rfl, rfl, ⟨[v1], [v2], rfl, ⟨v1, rfl, g1⟩, ⟨v2, rfl, g2⟩⟩⟩
theorem k25_openF {W : World} {ok : Nat → Prop} {x : S25} {cs : List Value} (h : Kd.FK k25 W ok x cs) : ∃ A1 c1 A2 c2, cs = [.string x.f0, .slice A1 x.f1.length c1, .slice A2 x.f2.length c2] ∧ x.f1.length ≤ c1 ∧ Kd.F Kd.string W ok A1 x.f1.length x.f1 ∧ x.f2.length ≤ c2 ∧ Kd.F k98 W ok A2 x.f2.length x.f2 := by
  obtain ⟨A1, c1, A2, c2, rfl, l1, _, l2, _⟩ := k25_open (Kd.FK_now h); exact ⟨A1, c1, A2, c2, rfl, l1, (fun W' hW => by obtain ⟨A1_, c1_, A2_, c2_, he, l1_, g1_, l2_, g2_⟩ := k25_open (h W' hW); injection (Option.some.inj (show some (Value.slice A1 x.f1.length c1) = some (Value.slice A1_ x.f1.length c1_) from congrArg (fun l => l[1]?) he)) with ha_ _ _; rw [ha_]; exact g1_), l2, (fun W' hW => by obtain ⟨A1_, c1_, A2_, c2_, he, l1_, g1_, l2_, g2_⟩ := k25_open (h W' hW); injection (Option.some.inj (show some (Value.slice A2 x.f2.length c2) = some (Value.slice A2_ x.f2.length c2_) from congrArg (fun l => l[2]?) he)) with ha_ _ _; rw [ha_]; exact g2_)⟩
theorem k25_mkF (W : World) (ok : Nat → Prop) (x : S25) {A1 : Option Addr} {c1 : Nat} (l1 : x.f1.length ≤ c1) (g1 : Kd.F Kd.string W ok A1 x.f1.length x.f1) {A2 : Option Addr} {c2 : Nat} (l2 : x.f2.length ≤ c2) (g2 : Kd.F k98 W ok A2 x.f2.length x.f2) : Kd.FK k25 W ok x [.string x.f0, .slice A1 x.f1.length c1, .slice A2 x.f2.length c2] := fun W2 hW => k25_mk W2 x l1 (g1 W2 hW) l2 (g2 W2 hW)
def rd_T25 (xs : List S25) (i : Int) : S25 := xs.getD i.toNat z25
theorem at_T25 {w : World} {A : Option Addr} {n : Nat} {xs : List S25} (h : Kd.C k25 w A n xs) (i : Int) (h0 : 0 ≤ i) (h1 : i < n) : ∃ ad A1 c1 A2 c2, A = some ad ∧ w.cell? (ad.add (i.toNat * 3)) = some (.string (rd_T25 xs i).f0) ∧ w.cell? ⟨(ad.add (i.toNat * 3)).block, (ad.add (i.toNat * 3)).off + 1, none⟩ = some (.slice A1 (rd_T25 xs i).f1.length c1) ∧ w.cell? ⟨(ad.add (i.toNat * 3)).block, (ad.add (i.toNat * 3)).off + 2, none⟩ = some (.slice A2 (rd_T25 xs i).f2.length c2) ∧ (rd_T25 xs i).f1.length ≤ c1 ∧ Kd.string.C w A1 (rd_T25 xs i).f1.length (rd_T25 xs i).f1 ∧ (rd_T25 xs i).f2.length ≤ c2 ∧ k98.C w A2 (rd_T25 xs i).f2.length (rd_T25 xs i).f2 := by
  obtain ⟨ad, c, e, _, hK, hc0⟩ := Kd.C_get h z25 i h0 h1; have hc : ∀ j u, c[j]? = some u → w.cell? (ad.add (i.toNat * 3 + j)) = some u := hc0; obtain ⟨A1, c1, A2, c2, rfl, l1, g1, l2, g2⟩ := k25_open hK; exact ⟨ad, A1, c1, A2, c2, e, hc 0 _ rfl, zq138, zq142, l1, g1, l2, g2⟩

structure S38 where
  f0 : ByteArray
  f1 : ByteArray
  f2 : ByteArray
  f3 : (List ByteArray)
  f4 : (List S98)
def z38 : S38 := ⟨(⟨#[]⟩ : ByteArray), (⟨#[]⟩ : ByteArray), (⟨#[]⟩ : ByteArray), ([] : List ByteArray), ([] : List S98)⟩
def k38 : Kd S38 := Kd.iso (Kd.pair Kd.string (Kd.pair Kd.string (Kd.pair Kd.string (Kd.pair (Kd.slice 9 Kd.string) (Kd.slice 98 k98))))) (fun x : S38 => (x.f0, x.f1, x.f2, x.f3, x.f4))
theorem k38_open {w : World} {x : S38} {cs : List Value} (h : k38.K w x cs) : ∃ A3 c3 A4 c4, cs = [.string x.f0, .string x.f1, .string x.f2, .slice A3 x.f3.length c3, .slice A4 x.f4.length c4] ∧ x.f3.length ≤ c3 ∧ Kd.string.C w A3 x.f3.length x.f3 ∧ x.f4.length ≤ c4 ∧ k98.C w A4 x.f4.length x.f4 := by
  obtain ⟨_, _, rfl, rfl, ⟨_, _, rfl, rfl, ⟨_, _, rfl, rfl, ⟨_, _, rfl, ⟨A3, c3, rfl, l3, g3⟩, ⟨A4, c4, rfl, l4, g4⟩⟩⟩⟩⟩ := h; exact ⟨A3, c3, A4, c4, rfl, l3, g3, l4, g4⟩
theorem k38_openM {w : World} {base : Nat} {ok : Nat → Prop} {x : S38} {cs : List Value} (h : k38.M w base ok x cs) : ∃ v3 v4, cs = [.string x.f0, .string x.f1, .string x.f2, v3, v4] ∧ Kd.string.R 9 w base ok v3 x.f3 ∧ k98.R 98 w base ok v4 x.f4 := by
  obtain ⟨_, _, rfl, rfl, ⟨_, _, rfl, rfl, ⟨_, _, rfl, rfl, ⟨_, _, rfl, ⟨v3, rfl, g3⟩, ⟨v4, rfl, g4⟩⟩⟩⟩⟩ := h; exact ⟨v3, v4, rfl, g3, g4⟩
theorem k38_mk (w : World) (x : S38) {A3 : Option Addr} {c3 : Nat} (l3 : x.f3.length ≤ c3) (g3 : Kd.string.C w A3 x.f3.length x.f3) {A4 : Option Addr} {c4 : Nat} (l4 : x.f4.length ≤ c4) (g4 : k98.C w A4 x.f4.length x.f4) : k38.K w x [.string x.f0, .string x.f1, .string x.f2, .slice A3 x.f3.length c3, .slice A4 x.f4.length c4] := ⟨[.string x.f0], [.string x.f1, .string x.f2, .slice A3 x.f3.length c3, .slice A4 x.f4.length c4], rfl, rfl, ⟨[.string x.f1], [.string x.f2, .slice A3 x.f3.length c3, .slice A4 x.f4.length c4], rfl, rfl, ⟨[.string x.f2], [.slice A3 x.f3.length c3, .slice A4 x.f4.length c4], rfl, rfl, ⟨[.slice A3 x.f3.length c3], [.slice A4 x.f4.length c4], rfl, ⟨A3, c3, rfl, l3, g3⟩, ⟨A4, c4, rfl, l4, g4⟩⟩⟩⟩⟩
theorem k38_mkM (w : World) (base : Nat) (ok : Nat → Prop) (x : S38) {v3 : Value} (g3 : Kd.string.R 9 w base ok v3 x.f3) {v4 : Value} (g4 : k98.R 98 w base ok v4 x.f4) : k38.M w base ok x [.string x.f0, .string x.f1, .string x.f2, v3, v4] := ⟨[.string x.f0], [.string x.f1, .string x.f2, v3, v4], rfl, rfl, ⟨[.string x.f1], [.string x.f2, v3, v4], rfl, rfl, ⟨[.string x.f2], [v3, v4], rfl, rfl, ⟨[v3], [v4], rfl, ⟨v3, rfl, g3⟩, ⟨v4, rfl, g4⟩⟩⟩⟩⟩
theorem k38_openF {W : World} {ok : Nat → Prop} {x : S38} {cs : List Value} (h : Kd.FK k38 W ok x cs) : ∃ A3 c3 A4 c4, cs = [.string x.f0, .string x.f1, .string x.f2, .slice A3 x.f3.length c3, .slice A4 x.f4.length c4] ∧ x.f3.length ≤ c3 ∧ Kd.F Kd.string W ok A3 x.f3.length x.f3 ∧ x.f4.length ≤ c4 ∧ Kd.F k98 W ok A4 x.f4.length x.f4 := by
  obtain ⟨A3, c3, A4, c4, rfl, l3, _, l4, _⟩ := k38_open (Kd.FK_now h); exact ⟨A3, c3, A4, c4, rfl, l3, (fun W' hW => by obtain ⟨A3_, c3_, A4_, c4_, he, l3_, g3_, l4_, g4_⟩ := k38_open (h W' hW); injection (Option.some.inj (show some (Value.slice A3 x.f3.length c3) = some (Value.slice A3_ x.f3.length c3_) from congrArg (fun l => l[3]?) he)) with ha_ _ _; rw [ha_]; exact g3_), l4, (fun W' hW => by obtain ⟨A3_, c3_, A4_, c4_, he, l3_, g3_, l4_, g4_⟩ := k38_open (h W' hW); injection (Option.some.inj (show some (Value.slice A4 x.f4.length c4) = some (Value.slice A4_ x.f4.length c4_) from congrArg (fun l => l[4]?) he)) with ha_ _ _; rw [ha_]; exact g4_)⟩
theorem k38_mkF (W : World) (ok : Nat → Prop) (x : S38) {A3 : Option Addr} {c3 : Nat} (l3 : x.f3.length ≤ c3) (g3 : Kd.F Kd.string W ok A3 x.f3.length x.f3) {A4 : Option Addr} {c4 : Nat} (l4 : x.f4.length ≤ c4) (g4 : Kd.F k98 W ok A4 x.f4.length x.f4) : Kd.FK k38 W ok x [.string x.f0, .string x.f1, .string x.f2, .slice A3 x.f3.length c3, .slice A4 x.f4.length c4] := fun W2 hW => k38_mk W2 x l3 (g3 W2 hW) l4 (g4 W2 hW)
def rd_T38 (xs : List S38) (i : Int) : S38 := xs.getD i.toNat z38
theorem at_T38 {w : World} {A : Option Addr} {n : Nat} {xs : List S38} (h : Kd.C k38 w A n xs) (i : Int) (h0 : 0 ≤ i) (h1 : i < n) : ∃ ad A3 c3 A4 c4, A = some ad ∧ w.cell? (ad.add (i.toNat * 5)) = some (.string (rd_T38 xs i).f0) ∧ w.cell? ⟨(ad.add (i.toNat * 5)).block, (ad.add (i.toNat * 5)).off + 1, none⟩ = some (.string (rd_T38 xs i).f1) ∧ w.cell? ⟨(ad.add (i.toNat * 5)).block, (ad.add (i.toNat * 5)).off + 2, none⟩ = some (.string (rd_T38 xs i).f2) ∧ w.cell? ⟨(ad.add (i.toNat * 5)).block, (ad.add (i.toNat * 5)).off + 3, none⟩ = some (.slice A3 (rd_T38 xs i).f3.length c3) ∧ w.cell? ⟨(ad.add (i.toNat * 5)).block, (ad.add (i.toNat * 5)).off + 4, none⟩ = some (.slice A4 (rd_T38 xs i).f4.length c4) ∧ (rd_T38 xs i).f3.length ≤ c3 ∧ Kd.string.C w A3 (rd_T38 xs i).f3.length (rd_T38 xs i).f3 ∧ (rd_T38 xs i).f4.length ≤ c4 ∧ k98.C w A4 (rd_T38 xs i).f4.length (rd_T38 xs i).f4 := by
  obtain ⟨ad, c, e, _, hK, hc0⟩ := Kd.C_get h z38 i h0 h1; have hc : ∀ j u, c[j]? = some u → w.cell? (ad.add (i.toNat * 5 + j)) = some u := hc0; obtain ⟨A3, c3, A4, c4, rfl, l3, g3, l4, g4⟩ := k38_open hK; exact ⟨ad, A3, c3, A4, c4, e, hc 0 _ rfl, zq138, zq142, by rw [← add_field _ _ 3 (by omega)]; exact hc 3 _ rfl, by rw [← add_field _ _ 4 (by omega)]; exact hc 4 _ rfl, l3, g3, l4, g4⟩

structure S60 where
  f0 : ByteArray
  f1 : ByteArray
def z60 : S60 := ⟨(⟨#[]⟩ : ByteArray), (⟨#[]⟩ : ByteArray)⟩
def k60 : Kd S60 := Kd.iso (Kd.pair Kd.string Kd.string) (fun x : S60 => (x.f0, x.f1))
theorem k60_open {w : World} {x : S60} {cs : List Value} (h : k60.K w x cs) : cs = [.string x.f0, .string x.f1] := by
  obtain ⟨_, _, rfl, rfl, rfl⟩ := h; exact rfl
theorem k60_openM {w : World} {base : Nat} {ok : Nat → Prop} {x : S60} {cs : List Value} (h : k60.M w base ok x cs) : cs = [.string x.f0, .string x.f1] := by
  obtain ⟨_, _, rfl, rfl, rfl⟩ := h; exact rfl
theorem k60_mk (w : World) (x : S60)  : k60.K w x [.string x.f0, .string x.f1] := ⟨[.string x.f0], [.string x.f1], rfl, rfl, rfl⟩
theorem k60_mkM (w : World) (base : Nat) (ok : Nat → Prop) (x : S60)  : k60.M w base ok x [.string x.f0, .string x.f1] := ⟨[.string x.f0], [.string x.f1], rfl, rfl, rfl⟩
theorem k60_mkF (W : World) (ok : Nat → Prop) (x : S60) : Kd.FK k60 W ok x [.string x.f0, .string x.f1] := fun W2 _ => k60_mk W2 x
def rd_T60 (xs : List S60) (i : Int) : S60 := xs.getD i.toNat z60
theorem at_T60 {w : World} {A : Option Addr} {n : Nat} {xs : List S60} (h : Kd.C k60 w A n xs) (i : Int) (h0 : 0 ≤ i) (h1 : i < n) : ∃ ad , A = some ad ∧ w.cell? (ad.add (i.toNat * 2)) = some (.string (rd_T60 xs i).f0) ∧ w.cell? ⟨(ad.add (i.toNat * 2)).block, (ad.add (i.toNat * 2)).off + 1, none⟩ = some (.string (rd_T60 xs i).f1) := by
  obtain ⟨ad, c, e, _, hK, hc0⟩ := Kd.C_get h z60 i h0 h1; have hc : ∀ j u, c[j]? = some u → w.cell? (ad.add (i.toNat * 2 + j)) = some u := hc0; obtain rfl := k60_open hK; exact ⟨ad, e, hc 0 _ rfl, zq138⟩

def rd_L10 (xs : List (List S60)) (i : Int) : (List S60) := xs.getD i.toNat ([] : List S60)
theorem at_L10 {w : World} {A : Option Addr} {n : Nat} {xs : List (List S60)} (h : Kd.C (Kd.slice 60 k60) w A n xs) (i : Int) (h0 : 0 ≤ i) (h1 : i < n) : ∃ ad A0 c0, A = some ad ∧ w.cell? (ad.add i.toNat) = some (.slice A0 (rd_L10 xs i).length c0) ∧ (rd_L10 xs i).length ≤ c0 ∧ k60.C w A0 (rd_L10 xs i).length (rd_L10 xs i) := by
  obtain ⟨ad, c, e, _, hK, hc0⟩ := Kd.C_get h ([] : List S60) i h0 h1; have hc : ∀ j u, c[j]? = some u → w.cell? (ad.add (i.toNat * 1 + j)) = some u := hc0; obtain ⟨A0, c0, rfl, l0, g0⟩ := hK; exact ⟨ad, A0, c0, e, by have hq := hc 0 _ rfl; rwa [Nat.mul_one, Nat.add_zero] at hq, l0, g0⟩

end Go.Proofs.Ytmnadajjgnniaaa.MA
end
section
namespace Go.Proofs.Ytmnadajjgnniaaa.HOpen
open Go.RowKit Go.Proofs.YtmnadajjgnniaaaW.PrintWords Go.ChangeShapes Go.WideShapes Go.Deep
section
variable {H : Type} (enc : TypeId × Value → H) (P : Program) (W : World)
def Opens {α : Type} (t : TypeId) (K : α → List Value → Prop) (G : α → Prop) : Prop :=
  ∀ (fuel : Nat) (cs : List Value) (x : DataW H × List MemPlace), DataW.trod enc P W 0 (fun _ => true) true fuel t cs = some x → (∀ n ∈ x.1.weights P t, n ≤ 140737488351232) → ∃ a, K a cs ∧ G a
variable {enc P W}
theorem opens_int {t : TypeId} {k : IntKind} (ht : P.underlying t = some (.int k)) : Opens enc P W t ((Kd.int k).K W) (fun n => (Lit.int k n).wf = true) := by
  intro fuel cs x h _
  obtain ⟨n, rfl, _, hn⟩ := DataW.trod_int ht h
  exact ⟨n, rfl, hn⟩
theorem opens_bool {t : TypeId} (ht : P.underlying t = some .bool) : Opens enc P W t (Kd.bool.K W) (fun _ => True) := by
  intro fuel cs x h _
  obtain ⟨n, rfl, _⟩ := DataW.trod_bool ht h
  exact ⟨n, rfl, trivial⟩
theorem opens_string {t : TypeId} (ht : P.underlying t = some .string) : Opens enc P W t (Kd.string.K W) (fun s => s.size ≤ 140737488351232) := by
  intro fuel cs x h hw
  obtain ⟨s, rfl, rfl, _⟩ := DataW.trod_string ht h
  refine ⟨s, rfl, ?_⟩
  have := hw s.data.toList.length (by simp [DataW.weights])
  simpa using this
theorem weights_all_mem {e : TypeId} {n : Nat} {d : DataW H} : ∀ {ds : List (DataW H)}, d ∈ ds → n ∈ d.weights P e → n ∈ DataW.weightsAll P e ds
  | d' :: r, hd, hn => by
    unfold DataW.weightsAll
    rcases List.mem_cons.1 hd with rfl | hd
    · exact List.mem_append_left _ hn
    · exact List.mem_append_right _ (weights_all_mem hd hn)
theorem choose_list {α : Type} {p : Nat → α → Prop} : ∀ n, (∀ i, i < n → ∃ a, p i a) → ∃ l : List α, l.length = n ∧ ∀ i a, l[i]? = some a → p i a
  | 0, _ => ⟨[], rfl, fun i a h => by simp at h⟩
  | n + 1, h => by
    obtain ⟨l, hl, hp⟩ := choose_list n (fun i hi => h i (by omega))
    obtain ⟨a, ha⟩ := h n (by omega)
    refine ⟨l ++ [a], by simp [hl], fun i b hb => ?_⟩
    rcases Nat.lt_trichotomy i n with hi | hi | hi
    · rw [List.getElem?_append_left (by omega)] at hb
      exact hp i b hb
    · subst hi
      rw [List.getElem?_append_right (by omega), hl] at hb
      simp at hb
      subst hb
      exact ha
    · rw [List.getElem?_append_right (by omega), List.getElem?_eq_none (by simp; omega)] at hb
      cases hb
theorem opens_slice {α : Type} {t e : TypeId} {d : Kd α} {G : α → Prop} {B : Nat} (ht : P.underlying t = some (.slice e)) (hs : P.cellsOf e = d.sz) (hb : P.bytesOf e = B) (he : Opens enc P W e (d.K W) G) :
    Opens enc P W t ((Kd.slice e d).K W) (fun l => l.length * B ≤ 140737488351232 ∧ ∀ x ∈ l, G x) := by
  intro fuel cs x h hw
  rcases open_slice ht h with ⟨rfl, _⟩ | ⟨a, len, cap, m, n, D, Pl, rfl, _, hl, hm, hmm, rfl, hi⟩
  · refine ⟨[], ⟨none, 0, rfl, Nat.le_refl _, rfl, by simp, fun h => absurd h (by simp)⟩, by simp, by simp⟩
  · have hlm : len ≤ m := by rw [hmm]; simpa using hl
    have hwt : ((len + (m - len)) * B) ≤ 140737488351232 := by
      have := hw ((len + (m - len)) * B) (by simp [DataW.weights, ht, hb])
      exact this
    obtain ⟨l, hll, hp⟩ := choose_list (α := α) (p := fun i y => ∃ c, d.K W y c ∧ G y ∧ ∀ q u, c[q]? = some u → W.cell? (a.add (i * d.sz + q)) = some u) len (fun i hil => by
      obtain ⟨cs', hc, htr⟩ := hi i (by omega)
      obtain ⟨y, hy, hg⟩ := he n cs' _ htr (fun q hq => by
        refine hw q ?_
        simp only [DataW.weights, ht]
        refine List.mem_cons_of_mem _ (List.mem_append_left _ (weights_all_mem (d := D i) ?_ hq))
        exact List.mem_map.2 ⟨i, by simpa using hil, rfl⟩)
      obtain ⟨_, hcl, hat⟩ := World.cells?_some hc
      refine ⟨y, cs', hy, hg, fun q u hq => ?_⟩
      rw [hs] at hat hcl
      have hql : q < d.sz := by
        have := (List.getElem?_eq_some_iff.1 hq).1
        omega
      have h1 := hat q hql
      rw [Go.Deep.add_add] at h1
      rw [h1, hq])
    refine ⟨l, ⟨some a, cap, by rw [hll], by omega, rfl, by unfold maxLen at hm; omega, fun _ => ⟨a, rfl, fun j p hj => ?_⟩⟩, ?_, ?_⟩
    · obtain ⟨c, hK, _, hc⟩ := hp j p hj
      exact ⟨c, d.K_len hK, hK, hc⟩
    · rw [hll]
      exact Nat.le_trans (Nat.mul_le_mul_right _ (by omega)) hwt
    · intro x hx
      obtain ⟨i, hi⟩ := List.getElem?_of_mem hx
      obtain ⟨_, _, hg, _⟩ := hp i x hi
      exact hg
theorem weights_each {p : Nat → Bool} {ts : List TypeId} {ds : List (DataW H)} (h : (DataW.weightsEach P ts ds).all p = true) {j : Nat} {t : TypeId} {d : DataW H} (ht : ts[j]? = some t) (hd : ds[j]? = some d) : ∀ n ∈ d.weights P t, p n = true :=
  fun n hn => List.all_eq_true.1 h _ (DataW.weights_mem_each ht hd n hn)
end
end Go.Proofs.Ytmnadajjgnniaaa.HOpen
end
section
namespace Go.Proofs.Ytmnadajjgnniaaa.MA
open Go.RowKit Go.Proofs.YtmnadajjgnniaaaW.PrintWords Go.Proofs.Ytmnadajjgnniaaa.HOpen
def G80 (x : S80) : Prop := (Lit.int .i64 x.f0).wf = true ∧ (Lit.int .i64 x.f1).wf = true ∧ x.f2.size ≤ 140737488351232
set_option maxRecDepth 100000 in
theorem open_T80 {H : Type} {enc : TypeId × Value → H} {W : World} : Opens enc Try.prog W 80 (k80.K W) G80 := by
  intro fuel cs x h hw
  obtain ⟨xs, n, _, rfl, hlen, hxl, hf⟩ := DataW.trod_struct Try.underlying80 h
  have hL : Try.prog.cellsOf 80 = 3 := by kernel_rfl
  rw [hL] at hlen
  match xs, hxl with
  | [y0, y1, y2], _ =>
    have c0 : Try.prog.cellsOf 3 = 1 := by kernel_rfl
    have h0 : DataW.trod enc Try.prog W 0 (fun _ => true) true n 3 ((cs.drop 0).take (Try.prog.cellsOf 3)) = some y0 := hf 0 _ rfl
    rw [c0] at h0
    obtain ⟨a0, k0, g0⟩ := (opens_int Try.underlying3) n _ y0 h0 (fun q hq => hw q (by simp only [DataW.weights, Try.underlying80]; exact DataW.weights_mem_each (j := 0) rfl rfl q hq))
    have c1 : Try.prog.cellsOf 3 = 1 := by kernel_rfl
    have h1 : DataW.trod enc Try.prog W 0 (fun _ => true) true n 3 ((cs.drop 1).take (Try.prog.cellsOf 3)) = some y1 := hf 1 _ rfl
    rw [c1] at h1
    obtain ⟨a1, k1, g1⟩ := (opens_int Try.underlying3) n _ y1 h1 (fun q hq => hw q (by simp only [DataW.weights, Try.underlying80]; exact DataW.weights_mem_each (j := 1) rfl rfl q hq))
    have c2 : Try.prog.cellsOf 9 = 1 := by kernel_rfl
    have h2 : DataW.trod enc Try.prog W 0 (fun _ => true) true n 9 ((cs.drop 2).take (Try.prog.cellsOf 9)) = some y2 := hf 2 _ rfl
    rw [c2] at h2
    obtain ⟨a2, k2, g2⟩ := (opens_string Try.underlying9) n _ y2 h2 (fun q hq => hw q (by simp only [DataW.weights, Try.underlying80]; exact DataW.weights_mem_each (j := 2) rfl rfl q hq))
    have e2 : (cs.drop 2).take 1 = cs.drop 2 := List.take_of_length_le (by rw [List.length_drop]; omega)
    rw [e2] at k2
    have K2 := k2
    have K1 : (Kd.pair (Kd.int .i64) Kd.string).K W (a1, a2) (cs.drop 1) := ⟨(cs.drop 1).take 1, cs.drop 2, zq140, k1, K2⟩
    have K0 : (Kd.pair (Kd.int .i64) (Kd.pair (Kd.int .i64) Kd.string)).K W (a0, a1, a2) (cs.drop 0) := ⟨(cs.drop 0).take 1, cs.drop 1, zq132, k0, K1⟩
    rw [List.drop_zero] at K0
    exact ⟨⟨a0, a1, a2⟩, K0, ⟨g0, g1, g2⟩⟩
def G98 (x : S98) : Prop := x.f0.size ≤ 140737488351232 ∧ G80 x.f1
set_option maxRecDepth 100000 in
theorem open_T98 {H : Type} {enc : TypeId × Value → H} {W : World} : Opens enc Try.prog W 98 (k98.K W) G98 := by
  intro fuel cs x h hw
  obtain ⟨xs, n, _, rfl, hlen, hxl, hf⟩ := DataW.trod_struct Try.underlying98 h
  have hL : Try.prog.cellsOf 98 = 4 := by kernel_rfl
  rw [hL] at hlen
  match xs, hxl with
  | [y0, y1], _ =>
    have c0 : Try.prog.cellsOf 9 = 1 := by kernel_rfl
    have h0 : DataW.trod enc Try.prog W 0 (fun _ => true) true n 9 ((cs.drop 0).take (Try.prog.cellsOf 9)) = some y0 := hf 0 _ rfl
    rw [c0] at h0
    obtain ⟨a0, k0, g0⟩ := (opens_string Try.underlying9) n _ y0 h0 (fun q hq => hw q (by simp only [DataW.weights, Try.underlying98]; exact DataW.weights_mem_each (j := 0) rfl rfl q hq))
    have c1 : Try.prog.cellsOf 80 = 3 := by kernel_rfl
    have h1 : DataW.trod enc Try.prog W 0 (fun _ => true) true n 80 ((cs.drop 1).take (Try.prog.cellsOf 80)) = some y1 := hf 1 _ rfl
    rw [c1] at h1
    obtain ⟨a1, k1, g1⟩ := open_T80 n _ y1 h1 (fun q hq => hw q (by simp only [DataW.weights, Try.underlying98]; exact DataW.weights_mem_each (j := 1) rfl rfl q hq))
    have e1 : (cs.drop 1).take 3 = cs.drop 1 := List.take_of_length_le (by rw [List.length_drop]; omega)
    rw [e1] at k1
    have K1 := k1
    have K0 : (Kd.pair Kd.string k80).K W (a0, a1) (cs.drop 0) := ⟨(cs.drop 0).take 1, cs.drop 1, zq132, k0, K1⟩
    rw [List.drop_zero] at K0
    exact ⟨⟨a0, a1⟩, K0, ⟨g0, g1⟩⟩
def G25 (x : S25) : Prop := x.f0.size ≤ 140737488351232 ∧ (x.f1.length * 16 ≤ 140737488351232 ∧ ∀ y ∈ x.f1, y.size ≤ 140737488351232) ∧ (x.f2.length * 48 ≤ 140737488351232 ∧ ∀ y ∈ x.f2, G98 y)
set_option maxRecDepth 100000 in
theorem open_T25 {H : Type} {enc : TypeId × Value → H} {W : World} : Opens enc Try.prog W 25 (k25.K W) G25 := by
  intro fuel cs x h hw
  obtain ⟨xs, n, _, rfl, hlen, hxl, hf⟩ := DataW.trod_struct Try.underlying25 h
  have hL : Try.prog.cellsOf 25 = 3 := by kernel_rfl
  rw [hL] at hlen
  match xs, hxl with
  | [y0, y1, y2], _ =>
    have c0 : Try.prog.cellsOf 9 = 1 := by kernel_rfl
    have h0 : DataW.trod enc Try.prog W 0 (fun _ => true) true n 9 ((cs.drop 0).take (Try.prog.cellsOf 9)) = some y0 := hf 0 _ rfl
    rw [c0] at h0
    obtain ⟨a0, k0, g0⟩ := (opens_string Try.underlying9) n _ y0 h0 (fun q hq => hw q (by simp only [DataW.weights, Try.underlying25]; exact DataW.weights_mem_each (j := 0) rfl rfl q hq))
    have c1 : Try.prog.cellsOf 22 = 1 := by kernel_rfl
    have h1 : DataW.trod enc Try.prog W 0 (fun _ => true) true n 22 ((cs.drop 1).take (Try.prog.cellsOf 22)) = some y1 := hf 1 _ rfl
    rw [c1] at h1
    obtain ⟨a1, k1, g1⟩ := (opens_slice (e := 9) (d := Kd.string) (B := 16) Try.underlying22 (by kernel_rfl) (by kernel_rfl) (opens_string Try.underlying9)) n _ y1 h1 (fun q hq => hw q (by simp only [DataW.weights, Try.underlying25]; exact DataW.weights_mem_each (j := 1) rfl rfl q hq))
    have c2 : Try.prog.cellsOf 23 = 1 := by kernel_rfl
    have h2 : DataW.trod enc Try.prog W 0 (fun _ => true) true n 23 ((cs.drop 2).take (Try.prog.cellsOf 23)) = some y2 := hf 2 _ rfl
    rw [c2] at h2
    obtain ⟨a2, k2, g2⟩ := (opens_slice (e := 98) (d := k98) (B := 48) Try.underlying23 (by kernel_rfl) (by kernel_rfl) open_T98) n _ y2 h2 (fun q hq => hw q (by simp only [DataW.weights, Try.underlying25]; exact DataW.weights_mem_each (j := 2) rfl rfl q hq))
    have e2 : (cs.drop 2).take 1 = cs.drop 2 := List.take_of_length_le (by rw [List.length_drop]; omega)
    rw [e2] at k2
    have K2 := k2
    have K1 : (Kd.pair (Kd.slice 9 Kd.string) (Kd.slice 98 k98)).K W (a1, a2) (cs.drop 1) := ⟨(cs.drop 1).take 1, cs.drop 2, zq140, k1, K2⟩
    have K0 : (Kd.pair Kd.string (Kd.pair (Kd.slice 9 Kd.string) (Kd.slice 98 k98))).K W (a0, a1, a2) (cs.drop 0) := ⟨(cs.drop 0).take 1, cs.drop 1, zq132, k0, K1⟩
    rw [List.drop_zero] at K0
    exact ⟨⟨a0, a1, a2⟩, K0, ⟨g0, g1, g2⟩⟩
def G38 (x : S38) : Prop := x.f0.size ≤ 140737488351232 ∧ x.f1.size ≤ 140737488351232 ∧ x.f2.size ≤ 140737488351232 ∧ (x.f3.length * 16 ≤ 140737488351232 ∧ ∀ y ∈ x.f3, y.size ≤ 140737488351232) ∧ (x.f4.length * 48 ≤ 140737488351232 ∧ ∀ y ∈ x.f4, G98 y)
set_option maxRecDepth 100000 in
theorem open_T38 {H : Type} {enc : TypeId × Value → H} {W : World} : Opens enc Try.prog W 38 (k38.K W) G38 := by
  intro fuel cs x h hw
  obtain ⟨xs, n, _, rfl, hlen, hxl, hf⟩ := DataW.trod_struct Try.underlying38 h
  have hL : Try.prog.cellsOf 38 = 5 := by kernel_rfl
  rw [hL] at hlen
  match xs, hxl with
  | [y0, y1, y2, y3, y4], _ =>
    have c0 : Try.prog.cellsOf 9 = 1 := by kernel_rfl
    have h0 : DataW.trod enc Try.prog W 0 (fun _ => true) true n 9 ((cs.drop 0).take (Try.prog.cellsOf 9)) = some y0 := hf 0 _ rfl
    rw [c0] at h0
    obtain ⟨a0, k0, g0⟩ := (opens_string Try.underlying9) n _ y0 h0 (fun q hq => hw q (by simp only [DataW.weights, Try.underlying38]; exact DataW.weights_mem_each (j := 0) rfl rfl q hq))
    have c1 : Try.prog.cellsOf 9 = 1 := by kernel_rfl
    have h1 : DataW.trod enc Try.prog W 0 (fun _ => true) true n 9 ((cs.drop 1).take (Try.prog.cellsOf 9)) = some y1 := hf 1 _ rfl
    rw [c1] at h1
    obtain ⟨a1, k1, g1⟩ := (opens_string Try.underlying9) n _ y1 h1 (fun q hq => hw q (by simp only [DataW.weights, Try.underlying38]; exact DataW.weights_mem_each (j := 1) rfl rfl q hq))
    have c2 : Try.prog.cellsOf 9 = 1 := by kernel_rfl
    have h2 : DataW.trod enc Try.prog W 0 (fun _ => true) true n 9 ((cs.drop 2).take (Try.prog.cellsOf 9)) = some y2 := hf 2 _ rfl
    rw [c2] at h2
    obtain ⟨a2, k2, g2⟩ := (opens_string Try.underlying9) n _ y2 h2 (fun q hq => hw q (by simp only [DataW.weights, Try.underlying38]; exact DataW.weights_mem_each (j := 2) rfl rfl q hq))
    have c3 : Try.prog.cellsOf 22 = 1 := by kernel_rfl
    have h3 : DataW.trod enc Try.prog W 0 (fun _ => true) true n 22 ((cs.drop 3).take (Try.prog.cellsOf 22)) = some y3 := hf 3 _ rfl
    rw [c3] at h3
    obtain ⟨a3, k3, g3⟩ := (opens_slice (e := 9) (d := Kd.string) (B := 16) Try.underlying22 (by kernel_rfl) (by kernel_rfl) (opens_string Try.underlying9)) n _ y3 h3 (fun q hq => hw q (by simp only [DataW.weights, Try.underlying38]; exact DataW.weights_mem_each (j := 3) rfl rfl q hq))
    have c4 : Try.prog.cellsOf 23 = 1 := by kernel_rfl
    have h4 : DataW.trod enc Try.prog W 0 (fun _ => true) true n 23 ((cs.drop 4).take (Try.prog.cellsOf 23)) = some y4 := hf 4 _ rfl
    rw [c4] at h4
    obtain ⟨a4, k4, g4⟩ := (opens_slice (e := 98) (d := k98) (B := 48) Try.underlying23 (by kernel_rfl) (by kernel_rfl) open_T98) n _ y4 h4 (fun q hq => hw q (by simp only [DataW.weights, Try.underlying38]; exact DataW.weights_mem_each (j := 4) rfl rfl q hq))
    have e4 : (cs.drop 4).take 1 = cs.drop 4 := List.take_of_length_le (by rw [List.length_drop]; omega)
    rw [e4] at k4
    have K4 := k4
    have K3 : (Kd.pair (Kd.slice 9 Kd.string) (Kd.slice 98 k98)).K W (a3, a4) (cs.drop 3) := ⟨(cs.drop 3).take 1, cs.drop 4, by rw [show 4 = 3 + 1 from rfl, ← List.drop_drop]; exact (List.take_append_drop _ _).symm, k3, K4⟩
    have K2 : (Kd.pair Kd.string (Kd.pair (Kd.slice 9 Kd.string) (Kd.slice 98 k98))).K W (a2, a3, a4) (cs.drop 2) := ⟨(cs.drop 2).take 1, cs.drop 3, by rw [show 3 = 2 + 1 from rfl, ← List.drop_drop]; exact (List.take_append_drop _ _).symm, k2, K3⟩
    have K1 : (Kd.pair Kd.string (Kd.pair Kd.string (Kd.pair (Kd.slice 9 Kd.string) (Kd.slice 98 k98)))).K W (a1, a2, a3, a4) (cs.drop 1) := ⟨(cs.drop 1).take 1, cs.drop 2, zq140, k1, K2⟩
    have K0 : (Kd.pair Kd.string (Kd.pair Kd.string (Kd.pair Kd.string (Kd.pair (Kd.slice 9 Kd.string) (Kd.slice 98 k98))))).K W (a0, a1, a2, a3, a4) (cs.drop 0) := ⟨(cs.drop 0).take 1, cs.drop 1, zq132, k0, K1⟩
    rw [List.drop_zero] at K0
    exact ⟨⟨a0, a1, a2, a3, a4⟩, K0, ⟨g0, g1, g2, g3, g4⟩⟩
end Go.Proofs.Ytmnadajjgnniaaa.MA
end
section
namespace Go.Proofs.Ytmnadajjgnniaaa.MA
open Go.RowKit Go.Proofs.YtmnadajjgnniaaaW.PrintWords Go.Proofs.YtmnadajjgnniaaaW.PrintLast Go.Proofs.YtmnadajjgnniaaaW.PrintMore
attribute [local go_sem] max2_int min2_int max_two min_two max_three min_three max_four min_four

def name_fits.f (a0 : Int) : Option (Bool) := if a0 ≥ 97 then (if a0 ≤ 122 then (some true) else (if a0 ≥ 48 then (if a0 ≤ 57 then (some true) else (some (a0 == 45))) else (some (a0 == 45)))) else (if a0 ≥ 48 then (if a0 ≤ 57 then (some true) else (some (a0 == 45))) else (some (a0 == 45)))
set_option maxHeartbeats 8000000 in
set_option maxRecDepth 100000 in
theorem name_fits.calls (a0 : Int) (r : Bool) (w : World) (h : name_fits.f a0 = some r) :
    Calls Try.prog 84 #[.int .u8 a0] w fun e w' => e = .returned (.bool r) ∧ Drawn0 w w' := by
  have H : (if a0 ≥ 97 then (if a0 ≤ 122 then (some true) else (if a0 ≥ 48 then (if a0 ≤ 57 then (some true) else (some (a0 == 45))) else (some (a0 == 45)))) else (if a0 ≥ 48 then (if a0 ≤ 57 then (some true) else (some (a0 == 45))) else (some (a0 == 45)))) = some r := h; clear h; by_cases c2 : a0 ≥ 97
  · rw [if_pos c2] at H; have c2b0 : decide (97 ≤ a0) = true := decide_eq_true c2; clear c2; by_cases c3 : a0 ≤ 122
    · rw [if_pos c3] at H; have c3b0 : decide (a0 ≤ 122) = true := decide_eq_true c3; clear c3; obtain rfl := Option.some.inj H; go_enter Try.func84, Try.ntmps84; (go_wp2); (go_ret); exact ⟨zq11, zq16⟩
    · rw [if_neg c3] at H; have c3b0 : decide (a0 ≤ 122) = false := decide_eq_false c3; clear c3; by_cases c4 : a0 ≥ 48
      · rw [if_pos c4] at H; have c4b0 : decide (48 ≤ a0) = true := decide_eq_true c4; clear c4; by_cases c5 : a0 ≤ 57
        · rw [if_pos c5] at H; have c5b0 : decide (a0 ≤ 57) = true := decide_eq_true c5; clear c5; obtain rfl := Option.some.inj H; go_enter Try.func84, Try.ntmps84; (go_wp2); (go_ret); exact ⟨zq11, zq16⟩
        · rw [if_neg c5] at H; have c5b0 : decide (a0 ≤ 57) = false := decide_eq_false c5; clear c5; obtain rfl := Option.some.inj H; go_enter Try.func84, Try.ntmps84; (go_wp2); (go_ret); exact ⟨zq11, zq16⟩
      · rw [if_neg c4] at H; have c4b0 : decide (48 ≤ a0) = false := decide_eq_false c4; clear c4; obtain rfl := Option.some.inj H; go_enter Try.func84, Try.ntmps84; (go_wp2); (go_ret); exact ⟨zq11, zq16⟩
  · rw [if_neg c2] at H; have c2b0 : decide (97 ≤ a0) = false := decide_eq_false c2; clear c2; by_cases c6 : a0 ≥ 48
    · rw [if_pos c6] at H; have c6b0 : decide (48 ≤ a0) = true := decide_eq_true c6; clear c6; by_cases c7 : a0 ≤ 57
      · rw [if_pos c7] at H; have c7b0 : decide (a0 ≤ 57) = true := decide_eq_true c7; clear c7; obtain rfl := Option.some.inj H; go_enter Try.func84, Try.ntmps84; (go_wp2); (go_ret); exact ⟨zq11, zq16⟩
      · rw [if_neg c7] at H; have c7b0 : decide (a0 ≤ 57) = false := decide_eq_false c7; clear c7; obtain rfl := Option.some.inj H; go_enter Try.func84, Try.ntmps84; (go_wp2); (go_ret); exact ⟨zq11, zq16⟩
    · rw [if_neg c6] at H; have c6b0 : decide (48 ≤ a0) = false := decide_eq_false c6; clear c6; obtain rfl := Option.some.inj H; go_enter Try.func84, Try.ntmps84; (go_wp2); (go_ret); exact ⟨zq11, zq16⟩

end Go.Proofs.Ytmnadajjgnniaaa.MA
end
section
namespace Go.Proofs.Ytmnadajjgnniaaa.MA
open Go.RowKit Go.Proofs.YtmnadajjgnniaaaW.PrintWords Go.Proofs.YtmnadajjgnniaaaW.PrintLast Go.Proofs.YtmnadajjgnniaaaW.PrintMore
attribute [local go_sem] max2_int min2_int max_two min_two max_three min_three max_four min_four

mutual
def name_Check.j0 : Nat → ByteArray → Bool → Option (Int)
  | 0, _, _ => none
  | k + 1, x0, x10 => if x10 = true then (some 2) else (name_Check.l0 k x0 (x0.size : Int) 0)
def name_Check.l0 : Nat → ByteArray → Int → Int → Option (Int)
  | 0, _, _, _ => none
  | k + 1, x0, x12, x13 => if x13 < x12 then (if 0 ≤ x13 then (if x13 < (x0.size : Int) then ((name_fits.f (bt x0 x13)).bind fun t101 => (if t101 = true then (name_Check.l0 k x0 x12 (wrap64 (x13 + 1))) else (some 2))) else (none)) else (none)) else (some 0)
end
def name_Check.f (k : Nat) (a0 : ByteArray) : Option (Int) := if a0.toList = ([] : List UInt8) then (name_Check.j0 k a0 true) else (name_Check.j0 k a0 (decide ((a0.size : Int) > 12)))
theorem name_Check.mono_l : ∀ k, (∀ y0 y1, LeO (name_Check.j0 k y0 y1) (name_Check.j0 (k + 1) y0 y1)) ∧ (∀ y0 y1 y2, LeO (name_Check.l0 k y0 y1 y2) (name_Check.l0 (k + 1) y0 y1 y2))
  | 0 => ⟨fun _ _ r h => by simp [name_Check.j0] at h, fun _ _ _ r h => by simp [name_Check.l0] at h⟩
  | k + 1 => by
    obtain ⟨ih0, ih1⟩ := name_Check.mono_l k; refine ⟨?_, ?_⟩
    · intro y0 y1; unfold name_Check.j0
      repeat' first
      | (with_reducible exact ih0 _ _)
      | (with_reducible exact ih1 _ _ _)
      | (with_reducible exact LeO.refl _)
      | (with_reducible exact LeO.none _)
      | (with_reducible refine LeO.ite ?_ ?_)
      | (with_reducible refine LeO.bind ?_ (fun _ => ?_))
      | exact ih0 _ _
      | exact ih1 _ _ _
      | exact LeO.none _
      | refine LeO.ite ?_ ?_
      | refine LeO.bind ?_ (fun _ => ?_)
    · intro y0 y1 y2; unfold name_Check.l0
      repeat' first
      | (with_reducible exact ih0 _ _)
      | (with_reducible exact ih1 _ _ _)
      | (with_reducible exact LeO.refl _)
      | (with_reducible exact LeO.none _)
      | (with_reducible refine LeO.ite ?_ ?_)
      | (with_reducible refine LeO.bind ?_ (fun _ => ?_))
      | exact ih0 _ _
      | exact ih1 _ _ _
      | exact LeO.none _
      | refine LeO.ite ?_ ?_
      | refine LeO.bind ?_ (fun _ => ?_)
theorem name_Check.mono : ∀ a0 k, LeO (name_Check.f k a0) (name_Check.f (k + 1) a0) := by
  intro a0 k; obtain ⟨ih0, ih1⟩ := name_Check.mono_l k; unfold name_Check.f
  repeat' first
      | (with_reducible exact ih0 _ _)
      | (with_reducible exact ih1 _ _ _)
      | (with_reducible exact LeO.refl _)
      | (with_reducible exact LeO.none _)
      | (with_reducible refine LeO.ite ?_ ?_)
      | (with_reducible refine LeO.bind ?_ (fun _ => ?_))
      | exact ih0 _ _
      | exact ih1 _ _ _
      | exact LeO.none _
      | refine LeO.ite ?_ ?_
      | refine LeO.bind ?_ (fun _ => ?_)
set_option maxHeartbeats 8000000 in
set_option maxRecDepth 100000 in
theorem name_Check.calls (k : Nat) (a0 : ByteArray) (r : Int) (w : World) (h : name_Check.f k a0 = some r) :
    Calls Try.prog 56 #[.string a0] w fun e w' => e = .returned (.int .i64 r) ∧ Drawn0 w w' := by
  have H : (if a0.toList = ([] : List UInt8) then (name_Check.j0 k a0 true) else (name_Check.j0 k a0 (decide ((a0.size : Int) > 12)))) = some r := h; clear h; have HC2 := Aside0.mk H; clear H; go_enter Try.func56, Try.ntmps56; go_upto_region 1 with (fail); (go_cut [10] (fun v10 wc => ∃ (kq : Nat) (x10_1 : Bool), v10 = .bool x10_1 ∧ Aside0 (name_Check.j0 kq a0 x10_1 = some r) ∧ Aside0 (kq ≤ k) ∧ Drawn0 w wc))
  case first =>
    have H := HC2.out; clear HC2; by_cases c3 : a0.toList = ([] : List UInt8)
    · rw [if_pos c3] at H; have c3b0 : (a0.toList == ([] : List UInt8)) = true := beq_iff_eq.mpr c3; have c3b1 : (a0.toList != ([] : List UInt8)) = false := bne_eq_false_iff_eq.mpr c3; clear c3; (first | rw [c3b0] | (simp only [i64_w, i32_w]; rw [c3b0]) | skip); have H' := Aside0.mk H; clear H; (go_wp2); (go_meet)
      case rel => exact ⟨_, (true), (zq11), H', ⟨zq130⟩, zq16⟩
    · rw [if_neg c3] at H; have c3b0 : (a0.toList == ([] : List UInt8)) = false := beq_eq_false_iff_ne.mpr c3; have c3b1 : (a0.toList != ([] : List UInt8)) = true := bne_iff_ne.mpr c3; (first | rw [c3b0] | (simp only [i64_w, i32_w]; rw [c3b0]) | skip); have H' := Aside0.mk H; clear H; (go_wp2); (go_meet)
      case rel => exact ⟨_, (decide ((a0.size : Int) > 12)), (zq11), H', ⟨zq130⟩, zq16⟩
  case rest =>
    clear HC2; (try clear p2); (try clear c3); (try clear c3b0); (try clear c3b1); obtain ⟨kq, x10_1, rfl, HA, HJ1, ⟨mc1, rfl⟩⟩ := hcut
    cases kq with
    | zero => exact absurd HA.out (by simp [name_Check.j0])
    | succ kj1 =>
      have H := HA.out; clear HA; simp only [name_Check.j0] at H; by_cases c4 : x10_1 = true
      · subst c4; (have H1 : (some 2) = some r := by rw [if_pos rfl] at H; exact H); clear H; have H := H1; clear H1; obtain rfl := Option.some.inj H; (go_wp2); (go_ret); exact ⟨zq11, zq16⟩
      · replace c4 := Bool.eq_false_iff.mpr c4; subst c4; (have H1 : (name_Check.l0 kj1 a0 (a0.size : Int) 0) = some r := by rw [if_neg (show ¬ (false = true) by decide)] at H; exact H); clear H; have H := H1; clear H1; have H' := Aside0.mk H; clear H; (go_wp2); (go_loopg [13] kj1 (fun kq v13 w' => ∃ (x13_2 : Int), v13 = .int .i64 x13_2 ∧ Aside0 (name_Check.l0 kq a0 (a0.size : Int) x13_2 = some r) ∧ Aside0 (kq ≤ kj1) ∧ Drawn0 w w'))
        case atStart => exact ⟨(0), (zq11), H', ⟨Nat.le_refl _⟩, zq16⟩
        case round =>
          clear H'; (try clear c1); (try clear p2); (try clear c3); (try clear c3b0); (try clear c3b1); (try clear c4); (try clear p2); obtain ⟨x13_2, rfl, HA, HK2, ⟨m2, rfl⟩⟩ := hrel
          cases gk with
          | zero => exact absurd HA.out (by simp [name_Check.l0])
          | succ k2 =>
            have H := HA.out; clear HA; simp only [name_Check.l0] at H; by_cases c5 : x13_2 < (a0.size : Int)
            · rw [if_pos c5] at H; have c5b0 : decide (x13_2 < (a0.size : Int)) = true := decide_eq_true c5; clear c5; by_cases c6 : 0 ≤ x13_2
              · rw [if_pos c6] at H; have c6b0 : decide (0 ≤ x13_2) = true := decide_eq_true c6; clear c6; by_cases c7 : x13_2 < (a0.size : Int)
                · rw [if_pos c7] at H; have c7b0 : decide (x13_2 < (a0.size : Int)) = true := decide_eq_true c7; clear c7; replace H := Option.bind_eq_some_iff.mp H; obtain ⟨t101, A90, H⟩ := H; replace H : (if t101 = true then (name_Check.l0 k2 a0 (a0.size : Int) (wrap64 (x13_2 + 1))) else (some 2)) = some r := H; have A9 := Aside0.mk A90; clear A90; by_cases c10 : t101 = true
                  · subst c10; (have H1 : (name_Check.l0 k2 a0 (a0.size : Int) (wrap64 (x13_2 + 1))) = some r := by rw [if_pos rfl] at H; exact H); clear H; have H := H1; clear H1; have H' := Aside0.mk H; clear H; have p8 : 0 ≤ (x13_2 : Int) := of_decide_eq_true (zq6); have q8 : x13_2 < (a0.size : Int) := of_decide_eq_true (zq6); have hx8 := bt_at a0 x13_2; replace p8 := eq_true p8; replace q8 := eq_true q8; go_wp2_with (first | ((with_reducible refine gate_callee (f := 84) rfl ?_); refine goesL_ (some 19) rfl rfl Try.func84 (by kernel_rfl) rfl #[.int .u8 (bt a0 x13_2)] rfl (zq2) ?_; (with_reducible refine (name_fits.calls (bt a0 x13_2) true _ A9.out).mono ?_); rintro e w' ⟨rfl, ⟨nd, rfl⟩⟩; refine ⟨_, rfl, ?_⟩)); (go_roundg k2)
                    case measure => have := HJ1.out; have := HK2.out; omega
                    case rel => exact ⟨(wrap64 (x13_2 + 1)), (zq11), H', ⟨by have := HJ1.out; have := HK2.out; omega⟩, zq16⟩
                  · replace c10 := Bool.eq_false_iff.mpr c10; subst c10; (have H1 : (some 2) = some r := by rw [if_neg (show ¬ (false = true) by decide)] at H; exact H); clear H; have H := H1; clear H1; obtain rfl := Option.some.inj H; have p8 : 0 ≤ (x13_2 : Int) := of_decide_eq_true (zq6); have q8 : x13_2 < (a0.size : Int) := of_decide_eq_true (zq6); have hx8 := bt_at a0 x13_2; replace p8 := eq_true p8; replace q8 := eq_true q8; go_wp2_with (first | ((with_reducible refine gate_callee (f := 84) rfl ?_); refine goesL_ (some 19) rfl rfl Try.func84 (by kernel_rfl) rfl #[.int .u8 (bt a0 x13_2)] rfl (zq2) ?_; (with_reducible refine (name_fits.calls (bt a0 x13_2) false _ A9.out).mono ?_); rintro e w' ⟨rfl, ⟨nd, rfl⟩⟩; refine ⟨_, rfl, ?_⟩)); (go_ret); exact ⟨zq11, zq16⟩
                · rw [if_neg c7] at H; exact absurd H (by simp)
              · rw [if_neg c6] at H; exact absurd H (by simp)
            · rw [if_neg c5] at H; have c5b0 : decide (x13_2 < (a0.size : Int)) = false := decide_eq_false c5; clear c5; obtain rfl := Option.some.inj H; (go_wp2); (go_ret); exact ⟨zq11, zq16⟩

end Go.Proofs.Ytmnadajjgnniaaa.MA
end
section
namespace Go.Proofs.Ytmnadajjgnniaaa.MA
open Go.RowKit Go.Proofs.YtmnadajjgnniaaaW.PrintWords Go.Proofs.YtmnadajjgnniaaaW.PrintLast Go.Proofs.YtmnadajjgnniaaaW.PrintMore
attribute [local go_sem] max2_int min2_int max_two min_two max_three min_three max_four min_four

def value_Check.f (a0_0 : Int) (a0_1 : Int) (a0_2 : ByteArray) : Option (Int) := if a0_0 = 1 then (if a0_1 = 0 then (if (a0_2.toList = ([] : List UInt8)) then (some 0) else (some 2)) else (if a0_1 = 1 then (if (a0_2.toList = ([] : List UInt8)) then (some 0) else (some 2)) else (some 2))) else (if a0_0 = 2 then (if (a0_2.toList = ([] : List UInt8)) then (some 0) else (some 2)) else (if a0_0 = 3 then (if a0_1 = 0 then (if ((a0_2.size : Int) ≤ 64) then (some 0) else (some 2)) else (some 2)) else (some 2)))
set_option maxHeartbeats 8000000 in
set_option maxRecDepth 100000 in
theorem value_Check.calls (a0_0 : Int) (a0_1 : Int) (a0_2 : ByteArray) (r : Int) (w : World) (h : value_Check.f a0_0 a0_1 a0_2 = some r) :
    Calls Try.prog 58 #[.agg #[.int .i64 a0_0, .int .i64 a0_1, .string a0_2]] w fun e w' => e = .returned (.int .i64 r) ∧ Below w.heap.size w w' := by
  have hu80 := Try.underlying80; have HB := zm (Below.refl w.heap.size w); have H : (if a0_0 = 1 then (if a0_1 = 0 then (if (a0_2.toList = ([] : List UInt8)) then (some 0) else (some 2)) else (if a0_1 = 1 then (if (a0_2.toList = ([] : List UInt8)) then (some 0) else (some 2)) else (some 2))) else (if a0_0 = 2 then (if (a0_2.toList = ([] : List UInt8)) then (some 0) else (some 2)) else (if a0_0 = 3 then (if a0_1 = 0 then (if ((a0_2.size : Int) ≤ 64) then (some 0) else (some 2)) else (some 2)) else (some 2)))) = some r := h; clear h; by_cases c2 : a0_0 = 1
  · rw [if_pos c2] at H; have c2b0 : (a0_0 == 1) = true := beq_iff_eq.mpr c2; have c2b1 : (a0_0 != 1) = false := bne_eq_false_iff_eq.mpr c2; clear c2; by_cases c3 : a0_1 = 0
    · rw [if_pos c3] at H; have c3b0 : (a0_1 == 0) = true := beq_iff_eq.mpr c3; have c3b1 : (a0_1 != 0) = false := bne_eq_false_iff_eq.mpr c3; clear c3; by_cases c4 : (a0_2.toList = ([] : List UInt8))
      · rw [if_pos c4] at H; have c4b0 : (a0_2.toList == ([] : List UInt8)) = true := beq_iff_eq.mpr c4; have c4b1 : (a0_2.toList != ([] : List UInt8)) = false := bne_eq_false_iff_eq.mpr c4; clear c4; obtain rfl := Option.some.inj H; go_enter Try.func58, Try.ntmps58; go_wp2_with (first | ((with_reducible refine gate_dst (N := 1) rfl ?_); (try (refine gate_guard (by rfl) ?_; dsimp only)); refine box_event ?hg (N := 1) ?hd (cs := #[.int .i64 a0_0, .int .i64 a0_1, .string a0_2]) (t := 80) ?hr ?_; (case hd => rfl); (case hg => rfl); (case hr => first | (go_simp; done) | (go_simp; rfl)); intro gb101 hg w5 hbox hb; have n0_ := zm (below_step (zq0) hb); have n1_ := zm (hbox); have n2_ := zm ((by rw [hg]; exact (below_size (zq0)) : w.heap.size ≤ gb101)); have n3_ := zm ((by rw [hg]; exact (below_size (zq0)) : w.heap.size ≤ gb101)); clear HB; revert n0_ n1_ n2_ n3_; intro HB BK101 GW101 GE101; clear hb hbox hg; have hcz6_0 : w5.cell? ⟨gb101, 0, none⟩ = some (.int .i64 a0_0) := (blk_cell BK101.out 0).trans rfl; have hcz6_1 : w5.cell? ⟨gb101, 1, none⟩ = some (.int .i64 a0_1) := (blk_cell BK101.out 1).trans rfl; have hcz6_2 : w5.cell? ⟨gb101, 2, none⟩ = some (.string a0_2) := (blk_cell BK101.out 2).trans rfl; have hfz6_0 := blk_frozen BK101.out 0; have hfz6_1 := blk_frozen BK101.out 1; have hfz6_2 := blk_frozen BK101.out 2)); (go_ret); exact ⟨zq5, zq1⟩
      · rw [if_neg c4] at H; have c4b0 : (a0_2.toList == ([] : List UInt8)) = false := beq_eq_false_iff_ne.mpr c4; have c4b1 : (a0_2.toList != ([] : List UInt8)) = true := bne_iff_ne.mpr c4; obtain rfl := Option.some.inj H; go_enter Try.func58, Try.ntmps58; go_wp2_with (first | ((with_reducible refine gate_dst (N := 1) rfl ?_); (try (refine gate_guard (by rfl) ?_; dsimp only)); refine box_event ?hg (N := 1) ?hd (cs := #[.int .i64 a0_0, .int .i64 a0_1, .string a0_2]) (t := 80) ?hr ?_; (case hd => rfl); (case hg => rfl); (case hr => first | (go_simp; done) | (go_simp; rfl)); intro gb101 hg w7 hbox hb; have n0_ := zm (below_step (zq0) hb); have n1_ := zm (hbox); have n2_ := zm ((by rw [hg]; exact (below_size (zq0)) : w.heap.size ≤ gb101)); have n3_ := zm ((by rw [hg]; exact (below_size (zq0)) : w.heap.size ≤ gb101)); clear HB; revert n0_ n1_ n2_ n3_; intro HB BK101 GW101 GE101; clear hb hbox hg; have hcz8_0 : w7.cell? ⟨gb101, 0, none⟩ = some (.int .i64 a0_0) := (blk_cell BK101.out 0).trans rfl; have hcz8_1 : w7.cell? ⟨gb101, 1, none⟩ = some (.int .i64 a0_1) := (blk_cell BK101.out 1).trans rfl; have hcz8_2 : w7.cell? ⟨gb101, 2, none⟩ = some (.string a0_2) := (blk_cell BK101.out 2).trans rfl; have hfz8_0 := blk_frozen BK101.out 0; have hfz8_1 := blk_frozen BK101.out 1; have hfz8_2 := blk_frozen BK101.out 2)); (go_ret); exact ⟨zq5, zq1⟩
    · rw [if_neg c3] at H; have c3b0 : (a0_1 == 0) = false := beq_eq_false_iff_ne.mpr c3; have c3b1 : (a0_1 != 0) = true := bne_iff_ne.mpr c3; by_cases c9 : a0_1 = 1
      · rw [if_pos c9] at H; have c9b0 : (a0_1 == 1) = true := beq_iff_eq.mpr c9; have c9b1 : (a0_1 != 1) = false := bne_eq_false_iff_eq.mpr c9; clear c9; by_cases c10 : (a0_2.toList = ([] : List UInt8))
        · rw [if_pos c10] at H; have c10b0 : (a0_2.toList == ([] : List UInt8)) = true := beq_iff_eq.mpr c10; have c10b1 : (a0_2.toList != ([] : List UInt8)) = false := bne_eq_false_iff_eq.mpr c10; clear c10; obtain rfl := Option.some.inj H; go_enter Try.func58, Try.ntmps58; go_wp2_with (first | ((with_reducible refine gate_dst (N := 1) rfl ?_); (try (refine gate_guard (by rfl) ?_; dsimp only)); refine box_event ?hg (N := 1) ?hd (cs := #[.int .i64 a0_0, .int .i64 a0_1, .string a0_2]) (t := 80) ?hr ?_; (case hd => rfl); (case hg => rfl); (case hr => first | (go_simp; done) | (go_simp; rfl)); intro gb101 hg w11 hbox hb; have n0_ := zm (below_step (zq0) hb); have n1_ := zm (hbox); have n2_ := zm ((by rw [hg]; exact (below_size (zq0)) : w.heap.size ≤ gb101)); have n3_ := zm ((by rw [hg]; exact (below_size (zq0)) : w.heap.size ≤ gb101)); clear HB; revert n0_ n1_ n2_ n3_; intro HB BK101 GW101 GE101; clear hb hbox hg; have hcz12_0 : w11.cell? ⟨gb101, 0, none⟩ = some (.int .i64 a0_0) := (blk_cell BK101.out 0).trans rfl; have hcz12_1 : w11.cell? ⟨gb101, 1, none⟩ = some (.int .i64 a0_1) := (blk_cell BK101.out 1).trans rfl; have hcz12_2 : w11.cell? ⟨gb101, 2, none⟩ = some (.string a0_2) := (blk_cell BK101.out 2).trans rfl; have hfz12_0 := blk_frozen BK101.out 0; have hfz12_1 := blk_frozen BK101.out 1; have hfz12_2 := blk_frozen BK101.out 2)); (go_ret); exact ⟨zq5, zq1⟩
        · rw [if_neg c10] at H; have c10b0 : (a0_2.toList == ([] : List UInt8)) = false := beq_eq_false_iff_ne.mpr c10; have c10b1 : (a0_2.toList != ([] : List UInt8)) = true := bne_iff_ne.mpr c10; obtain rfl := Option.some.inj H; go_enter Try.func58, Try.ntmps58; go_wp2_with (first | ((with_reducible refine gate_dst (N := 1) rfl ?_); (try (refine gate_guard (by rfl) ?_; dsimp only)); refine box_event ?hg (N := 1) ?hd (cs := #[.int .i64 a0_0, .int .i64 a0_1, .string a0_2]) (t := 80) ?hr ?_; (case hd => rfl); (case hg => rfl); (case hr => first | (go_simp; done) | (go_simp; rfl)); intro gb101 hg w13 hbox hb; have n0_ := zm (below_step (zq0) hb); have n1_ := zm (hbox); have n2_ := zm ((by rw [hg]; exact (below_size (zq0)) : w.heap.size ≤ gb101)); have n3_ := zm ((by rw [hg]; exact (below_size (zq0)) : w.heap.size ≤ gb101)); clear HB; revert n0_ n1_ n2_ n3_; intro HB BK101 GW101 GE101; clear hb hbox hg; have hcz14_0 : w13.cell? ⟨gb101, 0, none⟩ = some (.int .i64 a0_0) := (blk_cell BK101.out 0).trans rfl; have hcz14_1 : w13.cell? ⟨gb101, 1, none⟩ = some (.int .i64 a0_1) := (blk_cell BK101.out 1).trans rfl; have hcz14_2 : w13.cell? ⟨gb101, 2, none⟩ = some (.string a0_2) := (blk_cell BK101.out 2).trans rfl; have hfz14_0 := blk_frozen BK101.out 0; have hfz14_1 := blk_frozen BK101.out 1; have hfz14_2 := blk_frozen BK101.out 2)); (go_ret); exact ⟨zq5, zq1⟩
      · rw [if_neg c9] at H; have c9b0 : (a0_1 == 1) = false := beq_eq_false_iff_ne.mpr c9; have c9b1 : (a0_1 != 1) = true := bne_iff_ne.mpr c9; obtain rfl := Option.some.inj H; go_enter Try.func58, Try.ntmps58; go_wp2_with (first | ((with_reducible refine gate_dst (N := 1) rfl ?_); (try (refine gate_guard (by rfl) ?_; dsimp only)); refine box_event ?hg (N := 1) ?hd (cs := #[.int .i64 a0_0, .int .i64 a0_1, .string a0_2]) (t := 80) ?hr ?_; (case hd => rfl); (case hg => rfl); (case hr => first | (go_simp; done) | (go_simp; rfl)); intro gb101 hg w15 hbox hb; have n0_ := zm (below_step (zq0) hb); have n1_ := zm (hbox); have n2_ := zm ((by rw [hg]; exact (below_size (zq0)) : w.heap.size ≤ gb101)); have n3_ := zm ((by rw [hg]; exact (below_size (zq0)) : w.heap.size ≤ gb101)); clear HB; revert n0_ n1_ n2_ n3_; intro HB BK101 GW101 GE101; clear hb hbox hg; have hcz16_0 : w15.cell? ⟨gb101, 0, none⟩ = some (.int .i64 a0_0) := (blk_cell BK101.out 0).trans rfl; have hcz16_1 : w15.cell? ⟨gb101, 1, none⟩ = some (.int .i64 a0_1) := (blk_cell BK101.out 1).trans rfl; have hcz16_2 : w15.cell? ⟨gb101, 2, none⟩ = some (.string a0_2) := (blk_cell BK101.out 2).trans rfl; have hfz16_0 := blk_frozen BK101.out 0; have hfz16_1 := blk_frozen BK101.out 1; have hfz16_2 := blk_frozen BK101.out 2)); (go_ret); exact ⟨zq5, zq1⟩
  · rw [if_neg c2] at H; have c2b0 : (a0_0 == 1) = false := beq_eq_false_iff_ne.mpr c2; have c2b1 : (a0_0 != 1) = true := bne_iff_ne.mpr c2; by_cases c17 : a0_0 = 2
    · rw [if_pos c17] at H; have c17b0 : (a0_0 == 2) = true := beq_iff_eq.mpr c17; have c17b1 : (a0_0 != 2) = false := bne_eq_false_iff_eq.mpr c17; clear c17; by_cases c18 : (a0_2.toList = ([] : List UInt8))
      · rw [if_pos c18] at H; have c18b0 : (a0_2.toList == ([] : List UInt8)) = true := beq_iff_eq.mpr c18; have c18b1 : (a0_2.toList != ([] : List UInt8)) = false := bne_eq_false_iff_eq.mpr c18; clear c18; obtain rfl := Option.some.inj H; go_enter Try.func58, Try.ntmps58; go_wp2_with (first | ((with_reducible refine gate_dst (N := 1) rfl ?_); (try (refine gate_guard (by rfl) ?_; dsimp only)); refine box_event ?hg (N := 1) ?hd (cs := #[.int .i64 a0_0, .int .i64 a0_1, .string a0_2]) (t := 80) ?hr ?_; (case hd => rfl); (case hg => rfl); (case hr => first | (go_simp; done) | (go_simp; rfl)); intro gb101 hg w19 hbox hb; have n0_ := zm (below_step (zq0) hb); have n1_ := zm (hbox); have n2_ := zm ((by rw [hg]; exact (below_size (zq0)) : w.heap.size ≤ gb101)); have n3_ := zm ((by rw [hg]; exact (below_size (zq0)) : w.heap.size ≤ gb101)); clear HB; revert n0_ n1_ n2_ n3_; intro HB BK101 GW101 GE101; clear hb hbox hg; have hcz20_0 : w19.cell? ⟨gb101, 0, none⟩ = some (.int .i64 a0_0) := (blk_cell BK101.out 0).trans rfl; have hcz20_1 : w19.cell? ⟨gb101, 1, none⟩ = some (.int .i64 a0_1) := (blk_cell BK101.out 1).trans rfl; have hcz20_2 : w19.cell? ⟨gb101, 2, none⟩ = some (.string a0_2) := (blk_cell BK101.out 2).trans rfl; have hfz20_0 := blk_frozen BK101.out 0; have hfz20_1 := blk_frozen BK101.out 1; have hfz20_2 := blk_frozen BK101.out 2)); (go_ret); exact ⟨zq5, zq1⟩
      · rw [if_neg c18] at H; have c18b0 : (a0_2.toList == ([] : List UInt8)) = false := beq_eq_false_iff_ne.mpr c18; have c18b1 : (a0_2.toList != ([] : List UInt8)) = true := bne_iff_ne.mpr c18; obtain rfl := Option.some.inj H; go_enter Try.func58, Try.ntmps58; go_wp2_with (first | ((with_reducible refine gate_dst (N := 1) rfl ?_); (try (refine gate_guard (by rfl) ?_; dsimp only)); refine box_event ?hg (N := 1) ?hd (cs := #[.int .i64 a0_0, .int .i64 a0_1, .string a0_2]) (t := 80) ?hr ?_; (case hd => rfl); (case hg => rfl); (case hr => first | (go_simp; done) | (go_simp; rfl)); intro gb101 hg w21 hbox hb; have n0_ := zm (below_step (zq0) hb); have n1_ := zm (hbox); have n2_ := zm ((by rw [hg]; exact (below_size (zq0)) : w.heap.size ≤ gb101)); have n3_ := zm ((by rw [hg]; exact (below_size (zq0)) : w.heap.size ≤ gb101)); clear HB; revert n0_ n1_ n2_ n3_; intro HB BK101 GW101 GE101; clear hb hbox hg; have hcz22_0 : w21.cell? ⟨gb101, 0, none⟩ = some (.int .i64 a0_0) := (blk_cell BK101.out 0).trans rfl; have hcz22_1 : w21.cell? ⟨gb101, 1, none⟩ = some (.int .i64 a0_1) := (blk_cell BK101.out 1).trans rfl; have hcz22_2 : w21.cell? ⟨gb101, 2, none⟩ = some (.string a0_2) := (blk_cell BK101.out 2).trans rfl; have hfz22_0 := blk_frozen BK101.out 0; have hfz22_1 := blk_frozen BK101.out 1; have hfz22_2 := blk_frozen BK101.out 2)); (go_ret); exact ⟨zq5, zq1⟩
    · rw [if_neg c17] at H; have c17b0 : (a0_0 == 2) = false := beq_eq_false_iff_ne.mpr c17; have c17b1 : (a0_0 != 2) = true := bne_iff_ne.mpr c17; by_cases c23 : a0_0 = 3
      · rw [if_pos c23] at H; have c23b0 : (a0_0 == 3) = true := beq_iff_eq.mpr c23; have c23b1 : (a0_0 != 3) = false := bne_eq_false_iff_eq.mpr c23; clear c23; by_cases c24 : a0_1 = 0
        · rw [if_pos c24] at H; have c24b0 : (a0_1 == 0) = true := beq_iff_eq.mpr c24; have c24b1 : (a0_1 != 0) = false := bne_eq_false_iff_eq.mpr c24; clear c24; by_cases c25 : ((a0_2.size : Int) ≤ 64)
          · rw [if_pos c25] at H; have c25b0 : decide ((a0_2.size : Int) ≤ 64) = true := decide_eq_true c25; have c25b1 : decide (a0_2.size ≤ 64) = true := decide_eq_true (by omega); clear c25; obtain rfl := Option.some.inj H; go_enter Try.func58, Try.ntmps58; go_wp2_with (first | ((with_reducible refine gate_dst (N := 1) rfl ?_); (try (refine gate_guard (by rfl) ?_; dsimp only)); refine box_event ?hg (N := 1) ?hd (cs := #[.int .i64 a0_0, .int .i64 a0_1, .string a0_2]) (t := 80) ?hr ?_; (case hd => rfl); (case hg => rfl); (case hr => first | (go_simp; done) | (go_simp; rfl)); intro gb101 hg w26 hbox hb; have n0_ := zm (below_step (zq0) hb); have n1_ := zm (hbox); have n2_ := zm ((by rw [hg]; exact (below_size (zq0)) : w.heap.size ≤ gb101)); have n3_ := zm ((by rw [hg]; exact (below_size (zq0)) : w.heap.size ≤ gb101)); clear HB; revert n0_ n1_ n2_ n3_; intro HB BK101 GW101 GE101; clear hb hbox hg; have hcz27_0 : w26.cell? ⟨gb101, 0, none⟩ = some (.int .i64 a0_0) := (blk_cell BK101.out 0).trans rfl; have hcz27_1 : w26.cell? ⟨gb101, 1, none⟩ = some (.int .i64 a0_1) := (blk_cell BK101.out 1).trans rfl; have hcz27_2 : w26.cell? ⟨gb101, 2, none⟩ = some (.string a0_2) := (blk_cell BK101.out 2).trans rfl; have hfz27_0 := blk_frozen BK101.out 0; have hfz27_1 := blk_frozen BK101.out 1; have hfz27_2 := blk_frozen BK101.out 2)); (go_ret); exact ⟨zq5, zq1⟩
          · rw [if_neg c25] at H; have c25b0 : decide ((a0_2.size : Int) ≤ 64) = false := decide_eq_false c25; have c25b1 : decide (a0_2.size ≤ 64) = false := decide_eq_false (by omega); clear c25; obtain rfl := Option.some.inj H; go_enter Try.func58, Try.ntmps58; go_wp2_with (first | ((with_reducible refine gate_dst (N := 1) rfl ?_); (try (refine gate_guard (by rfl) ?_; dsimp only)); refine box_event ?hg (N := 1) ?hd (cs := #[.int .i64 a0_0, .int .i64 a0_1, .string a0_2]) (t := 80) ?hr ?_; (case hd => rfl); (case hg => rfl); (case hr => first | (go_simp; done) | (go_simp; rfl)); intro gb101 hg w28 hbox hb; have n0_ := zm (below_step (zq0) hb); have n1_ := zm (hbox); have n2_ := zm ((by rw [hg]; exact (below_size (zq0)) : w.heap.size ≤ gb101)); have n3_ := zm ((by rw [hg]; exact (below_size (zq0)) : w.heap.size ≤ gb101)); clear HB; revert n0_ n1_ n2_ n3_; intro HB BK101 GW101 GE101; clear hb hbox hg; have hcz29_0 : w28.cell? ⟨gb101, 0, none⟩ = some (.int .i64 a0_0) := (blk_cell BK101.out 0).trans rfl; have hcz29_1 : w28.cell? ⟨gb101, 1, none⟩ = some (.int .i64 a0_1) := (blk_cell BK101.out 1).trans rfl; have hcz29_2 : w28.cell? ⟨gb101, 2, none⟩ = some (.string a0_2) := (blk_cell BK101.out 2).trans rfl; have hfz29_0 := blk_frozen BK101.out 0; have hfz29_1 := blk_frozen BK101.out 1; have hfz29_2 := blk_frozen BK101.out 2)); (go_ret); exact ⟨zq5, zq1⟩
        · rw [if_neg c24] at H; have c24b0 : (a0_1 == 0) = false := beq_eq_false_iff_ne.mpr c24; have c24b1 : (a0_1 != 0) = true := bne_iff_ne.mpr c24; obtain rfl := Option.some.inj H; go_enter Try.func58, Try.ntmps58; go_wp2_with (first | ((with_reducible refine gate_dst (N := 1) rfl ?_); (try (refine gate_guard (by rfl) ?_; dsimp only)); refine box_event ?hg (N := 1) ?hd (cs := #[.int .i64 a0_0, .int .i64 a0_1, .string a0_2]) (t := 80) ?hr ?_; (case hd => rfl); (case hg => rfl); (case hr => first | (go_simp; done) | (go_simp; rfl)); intro gb101 hg w30 hbox hb; have n0_ := zm (below_step (zq0) hb); have n1_ := zm (hbox); have n2_ := zm ((by rw [hg]; exact (below_size (zq0)) : w.heap.size ≤ gb101)); have n3_ := zm ((by rw [hg]; exact (below_size (zq0)) : w.heap.size ≤ gb101)); clear HB; revert n0_ n1_ n2_ n3_; intro HB BK101 GW101 GE101; clear hb hbox hg; have hcz31_0 : w30.cell? ⟨gb101, 0, none⟩ = some (.int .i64 a0_0) := (blk_cell BK101.out 0).trans rfl; have hcz31_1 : w30.cell? ⟨gb101, 1, none⟩ = some (.int .i64 a0_1) := (blk_cell BK101.out 1).trans rfl; have hcz31_2 : w30.cell? ⟨gb101, 2, none⟩ = some (.string a0_2) := (blk_cell BK101.out 2).trans rfl; have hfz31_0 := blk_frozen BK101.out 0; have hfz31_1 := blk_frozen BK101.out 1; have hfz31_2 := blk_frozen BK101.out 2)); (go_ret); exact ⟨zq5, zq1⟩
      · rw [if_neg c23] at H; have c23b0 : (a0_0 == 3) = false := beq_eq_false_iff_ne.mpr c23; have c23b1 : (a0_0 != 3) = true := bne_iff_ne.mpr c23; obtain rfl := Option.some.inj H; go_enter Try.func58, Try.ntmps58; go_wp2_with (first | ((with_reducible refine gate_dst (N := 1) rfl ?_); (try (refine gate_guard (by rfl) ?_; dsimp only)); refine box_event ?hg (N := 1) ?hd (cs := #[.int .i64 a0_0, .int .i64 a0_1, .string a0_2]) (t := 80) ?hr ?_; (case hd => rfl); (case hg => rfl); (case hr => first | (go_simp; done) | (go_simp; rfl)); intro gb101 hg w32 hbox hb; have n0_ := zm (below_step (zq0) hb); have n1_ := zm (hbox); have n2_ := zm ((by rw [hg]; exact (below_size (zq0)) : w.heap.size ≤ gb101)); have n3_ := zm ((by rw [hg]; exact (below_size (zq0)) : w.heap.size ≤ gb101)); clear HB; revert n0_ n1_ n2_ n3_; intro HB BK101 GW101 GE101; clear hb hbox hg; have hcz33_0 : w32.cell? ⟨gb101, 0, none⟩ = some (.int .i64 a0_0) := (blk_cell BK101.out 0).trans rfl; have hcz33_1 : w32.cell? ⟨gb101, 1, none⟩ = some (.int .i64 a0_1) := (blk_cell BK101.out 1).trans rfl; have hcz33_2 : w32.cell? ⟨gb101, 2, none⟩ = some (.string a0_2) := (blk_cell BK101.out 2).trans rfl; have hfz33_0 := blk_frozen BK101.out 0; have hfz33_1 := blk_frozen BK101.out 1; have hfz33_2 := blk_frozen BK101.out 2)); (go_ret); exact ⟨zq5, zq1⟩

end Go.Proofs.Ytmnadajjgnniaaa.MA
end
section
namespace Go.Proofs.Ytmnadajjgnniaaa.MA
open Go.RowKit Go.Proofs.YtmnadajjgnniaaaW.PrintWords Go.Proofs.YtmnadajjgnniaaaW.PrintLast Go.Proofs.YtmnadajjgnniaaaW.PrintMore
attribute [local go_sem] max2_int min2_int max_two min_two max_three min_three max_four min_four

mutual
def elem_CheckProps.l0 : Nat → List (S98) → List (S98) → Int → Int → Option (Int)
  | 0, _, _, _, _ => none
  | k + 1, x0, x8, x9, x10 => if x10 < x9 then (if 0 ≤ x10 then (if x10 < (x8.length : Int) then ((name_Check.f k ((rd_T98 x8 x10).f0)).bind fun t103 => (if t103 = 0 then ((value_Check.f ((rd_T98 x8 x10).f1.f0) ((rd_T98 x8 x10).f1.f1) ((rd_T98 x8 x10).f1.f2)).bind fun t104 => (elem_CheckProps.j1 k x0 x10 x8 x9 x10 (t104 != 0) ((rd_T98 x8 x10).f0) ((rd_T98 x8 x10).f1.f0) ((rd_T98 x8 x10).f1.f1) ((rd_T98 x8 x10).f1.f2))) else (elem_CheckProps.j1 k x0 x10 x8 x9 x10 true ((rd_T98 x8 x10).f0) ((rd_T98 x8 x10).f1.f0) ((rd_T98 x8 x10).f1.f1) ((rd_T98 x8 x10).f1.f2)))) else (none)) else (none)) else (some 0)
def elem_CheckProps.j1 : Nat → List (S98) → Int → List (S98) → Int → Int → Bool → ByteArray → Int → Int → ByteArray → Option (Int)
  | 0, _, _, _, _, _, _, _, _, _, _ => none
  | k + 1, x0, x3, x8, x9, x10, x15, x103000, x103001, x103002, x103003 => if x15 = true then (some 2) else (if x3 > 0 then (if 0 ≤ (wrap64 (x3 - 1)) then (if (wrap64 (x3 - 1)) < (x0.length : Int) then (if ((Op.bytesLess (((rd_T98 x0 (wrap64 (x3 - 1))).f0).toList) x103000.toList) = true) then (elem_CheckProps.l0 k x0 x8 x9 (wrap64 (x10 + 1))) else (some 4)) else (none)) else (none)) else (elem_CheckProps.l0 k x0 x8 x9 (wrap64 (x10 + 1))))
end
def elem_CheckProps.f (k : Nat) (l0 : List (S98)) : Option (Int) := if (l0.length : Int) > 8 then (some 5) else (elem_CheckProps.l0 k l0 l0 (l0.length : Int) 0)
theorem elem_CheckProps.mono_l : ∀ k, (∀ y0 y1 y2 y3, LeO (elem_CheckProps.l0 k y0 y1 y2 y3) (elem_CheckProps.l0 (k + 1) y0 y1 y2 y3)) ∧ (∀ y0 y1 y2 y3 y4 y5 y6 y7 y8 y9, LeO (elem_CheckProps.j1 k y0 y1 y2 y3 y4 y5 y6 y7 y8 y9) (elem_CheckProps.j1 (k + 1) y0 y1 y2 y3 y4 y5 y6 y7 y8 y9))
  | 0 => ⟨fun _ _ _ _ r h => by simp [elem_CheckProps.l0] at h, fun _ _ _ _ _ _ _ _ _ _ r h => by simp [elem_CheckProps.j1] at h⟩
  | k + 1 => by
    obtain ⟨ih0, ih1⟩ := elem_CheckProps.mono_l k; refine ⟨?_, ?_⟩
    · intro y0 y1 y2 y3; unfold elem_CheckProps.l0
      repeat' first
      | (with_reducible exact ih0 _ _ _ _)
      | (with_reducible exact ih1 _ _ _ _ _ _ _ _ _ _)
      | (with_reducible exact name_Check.mono _ _)
      | (with_reducible exact LeO.refl _)
      | (with_reducible exact LeO.none _)
      | (with_reducible refine LeO.ite ?_ ?_)
      | (with_reducible refine LeO.bind ?_ (fun _ => ?_))
      | exact ih0 _ _ _ _
      | exact ih1 _ _ _ _ _ _ _ _ _ _
      | exact name_Check.mono _ _
      | exact LeO.none _
      | refine LeO.ite ?_ ?_
      | refine LeO.bind ?_ (fun _ => ?_)
    · intro y0 y1 y2 y3 y4 y5 y6 y7 y8 y9; unfold elem_CheckProps.j1
      repeat' first
      | (with_reducible exact ih0 _ _ _ _)
      | (with_reducible exact ih1 _ _ _ _ _ _ _ _ _ _)
      | (with_reducible exact name_Check.mono _ _)
      | (with_reducible exact LeO.refl _)
      | (with_reducible exact LeO.none _)
      | (with_reducible refine LeO.ite ?_ ?_)
      | (with_reducible refine LeO.bind ?_ (fun _ => ?_))
      | exact ih0 _ _ _ _
      | exact ih1 _ _ _ _ _ _ _ _ _ _
      | exact name_Check.mono _ _
      | exact LeO.none _
      | refine LeO.ite ?_ ?_
      | refine LeO.bind ?_ (fun _ => ?_)
theorem elem_CheckProps.mono : ∀ a0 k, LeO (elem_CheckProps.f k a0) (elem_CheckProps.f (k + 1) a0) := by
  intro a0 k; obtain ⟨ih0, ih1⟩ := elem_CheckProps.mono_l k; unfold elem_CheckProps.f
  repeat' first
      | (with_reducible exact ih0 _ _ _ _)
      | (with_reducible exact ih1 _ _ _ _ _ _ _ _ _ _)
      | (with_reducible exact name_Check.mono _ _)
      | (with_reducible exact LeO.refl _)
      | (with_reducible exact LeO.none _)
      | (with_reducible refine LeO.ite ?_ ?_)
      | (with_reducible refine LeO.bind ?_ (fun _ => ?_))
      | exact ih0 _ _ _ _
      | exact ih1 _ _ _ _ _ _ _ _ _ _
      | exact name_Check.mono _ _
      | exact LeO.none _
      | refine LeO.ite ?_ ?_
      | refine LeO.bind ?_ (fun _ => ?_)
set_option maxHeartbeats 8000000 in
set_option maxRecDepth 100000 in
theorem elem_CheckProps.calls (k : Nat) (A0 : Option Addr) (c0 : Nat) (l0 : List (S98)) (r : Int) (w : World) (hr0 : Kd.C k98 w A0 l0.length l0) (hc0 : l0.length ≤ c0) (h : elem_CheckProps.f k l0 = some r) :
    Calls Try.prog 16 #[.slice A0 l0.length c0] w fun e w' => e = .returned (.int .i64 r) ∧ Below w.heap.size w w' := by
  have hu98 := Try.underlying98; have hu80 := Try.underlying80; have HR0 := Aside0.mk hr0; have HC0 := Aside0.mk hc0; clear hr0 hc0; have HB := zm (Below.refl w.heap.size w); have H : (if (l0.length : Int) > 8 then (some 5) else (elem_CheckProps.l0 k l0 l0 (l0.length : Int) 0)) = some r := h; clear h; by_cases c2 : (l0.length : Int) > 8
  · rw [if_pos c2] at H; have c2b0 : decide (8 < (l0.length : Int)) = true := decide_eq_true c2; have c2b1 : decide (8 < l0.length) = true := decide_eq_true (by omega); clear c2; obtain rfl := Option.some.inj H; go_enter Try.func16, Try.ntmps16; (go_wp2); (repeat (go_quiet (fail); try go_wp2)); (go_ret); exact ⟨zq5, zq0⟩
  · rw [if_neg c2] at H; have c2b0 : decide (8 < (l0.length : Int)) = false := decide_eq_false c2; have c2b1 : decide (8 < l0.length) = false := decide_eq_false (by omega); clear c2; have H' := Aside0.mk H; clear H; go_enter Try.func16, Try.ntmps16; (go_wp2); (repeat (go_quiet (fail); try go_wp2)); (go_loopg [10] k (fun kq v10 w' => ∃ (x10_1 : Int), v10 = .int .i64 x10_1 ∧ Aside0 (elem_CheckProps.l0 kq l0 l0 (l0.length : Int) x10_1 = some r) ∧ Aside0 (kq ≤ k) ∧ Aside0 (Below w.heap.size w w')))
    case atStart => exact ⟨(0), (zq11), H', ⟨Nat.le_refl _⟩, ⟨zq0⟩⟩
    case round =>
      clear H'; (try clear c1); (try clear c2); (try clear c2b0); (try clear c2b1); (try clear p2); obtain ⟨x10_1, rfl, HA, HK1, HB⟩ := hrel
      cases gk with
      | zero => exact absurd HA.out (by simp [elem_CheckProps.l0])
      | succ k1 =>
        have H := HA.out; clear HA; simp only [elem_CheckProps.l0] at H; by_cases c3 : x10_1 < (l0.length : Int)
        · rw [if_pos c3] at H; have c3b0 : decide (x10_1 < (l0.length : Int)) = true := decide_eq_true c3; clear c3; by_cases c4 : 0 ≤ x10_1
          · rw [if_pos c4] at H; have c4b0 : decide (0 ≤ x10_1) = true := decide_eq_true c4; clear c4; by_cases c5 : x10_1 < (l0.length : Int)
            · rw [if_pos c5] at H; have c5b0 : decide (x10_1 < (l0.length : Int)) = true := decide_eq_true c5; clear c5; have HC6 := Aside0.mk H; clear H; have p101 : 0 ≤ (x10_1 : Int) := of_decide_eq_true (zq6); have q101 : x10_1 < (l0.length : Int) := of_decide_eq_true (zq6); obtain ⟨ad101, e101, hx101_0, hx101_1, hx101_2, hx101_3⟩ := at_T98 HR0.out x10_1 p101 q101; cases e101; replace hx101_0 := (HB.out.cell (World.block_lt_of_cell? w _ hx101_0)).trans hx101_0; replace hx101_1 := (HB.out.cell (World.block_lt_of_cell? w _ hx101_1)).trans hx101_1; replace hx101_2 := (HB.out.cell (World.block_lt_of_cell? w _ hx101_2)).trans hx101_2; replace hx101_3 := (HB.out.cell (World.block_lt_of_cell? w _ hx101_3)).trans hx101_3; replace p101 := eq_true p101; replace q101 := eq_true q101; go_upto_region 6 with (first | ((with_reducible refine gate_dst (N := 4) rfl ?_); refine box_event ?hg (N := 4) ?hd (cs := #[.string (⟨#[]⟩ : ByteArray), .int .i64 0, .int .i64 0, .string (⟨#[]⟩ : ByteArray)]) (t := 98) ?hr ?_; (case hd => rfl); (case hg => rfl); (case hr => first | (go_simp; done) | (go_simp; rfl)); intro gb102 hg w7 hbox hb; have n0_ := zm (below_step (zq0) hb); have n1_ := zm (hbox); have n2_ := zm ((by rw [hg]; exact (below_size (zq0)) : w.heap.size ≤ gb102)); have n3_ := zm ((by rw [hg]; exact (below_size (zq0)) : w.heap.size ≤ gb102)); clear HB; revert n0_ n1_ n2_ n3_; intro HB BK102 GW102 GE102; clear hb hbox hg; have hcz8_0 : w7.cell? ⟨gb102, 0, none⟩ = some (.string (⟨#[]⟩ : ByteArray)) := (blk_cell BK102.out 0).trans rfl; have hcz8_1 : w7.cell? ⟨gb102, 1, none⟩ = some (.int .i64 0) := (blk_cell BK102.out 1).trans rfl; have hcz8_2 : w7.cell? ⟨gb102, 2, none⟩ = some (.int .i64 0) := (blk_cell BK102.out 2).trans rfl; have hcz8_3 : w7.cell? ⟨gb102, 3, none⟩ = some (.string (⟨#[]⟩ : ByteArray)) := (blk_cell BK102.out 3).trans rfl; have hfz8_0 := blk_frozen BK102.out 0; have hfz8_1 := blk_frozen BK102.out 1; have hfz8_2 := blk_frozen BK102.out 2; have hfz8_3 := blk_frozen BK102.out 3)); (repeat (go_quiet (first | ((with_reducible refine gate_dst (N := 4) rfl ?_); refine box_event ?hg (N := 4) ?hd (cs := #[.string (⟨#[]⟩ : ByteArray), .int .i64 0, .int .i64 0, .string (⟨#[]⟩ : ByteArray)]) (t := 98) ?hr ?_; (case hd => rfl); (case hg => rfl); (case hr => first | (go_simp; done) | (go_simp; rfl)); intro gb102 hg w7 hbox hb; have n0_ := zm (below_step (zq0) hb); have n1_ := zm (hbox); have n2_ := zm ((by rw [hg]; exact (below_size (zq0)) : w.heap.size ≤ gb102)); have n3_ := zm ((by rw [hg]; exact (below_size (zq0)) : w.heap.size ≤ gb102)); clear HB; revert n0_ n1_ n2_ n3_; intro HB BK102 GW102 GE102; clear hb hbox hg; have hcz8_0 : w7.cell? ⟨gb102, 0, none⟩ = some (.string (⟨#[]⟩ : ByteArray)) := (blk_cell BK102.out 0).trans rfl; have hcz8_1 : w7.cell? ⟨gb102, 1, none⟩ = some (.int .i64 0) := (blk_cell BK102.out 1).trans rfl; have hcz8_2 : w7.cell? ⟨gb102, 2, none⟩ = some (.int .i64 0) := (blk_cell BK102.out 2).trans rfl; have hcz8_3 : w7.cell? ⟨gb102, 3, none⟩ = some (.string (⟨#[]⟩ : ByteArray)) := (blk_cell BK102.out 3).trans rfl; have hfz8_0 := blk_frozen BK102.out 0; have hfz8_1 := blk_frozen BK102.out 1; have hfz8_2 := blk_frozen BK102.out 2; have hfz8_3 := blk_frozen BK102.out 3)); go_upto_region 6 with (first | ((with_reducible refine gate_dst (N := 4) rfl ?_); refine box_event ?hg (N := 4) ?hd (cs := #[.string (⟨#[]⟩ : ByteArray), .int .i64 0, .int .i64 0, .string (⟨#[]⟩ : ByteArray)]) (t := 98) ?hr ?_; (case hd => rfl); (case hg => rfl); (case hr => first | (go_simp; done) | (go_simp; rfl)); intro gb102 hg w7 hbox hb; have n0_ := zm (below_step (zq0) hb); have n1_ := zm (hbox); have n2_ := zm ((by rw [hg]; exact (below_size (zq0)) : w.heap.size ≤ gb102)); have n3_ := zm ((by rw [hg]; exact (below_size (zq0)) : w.heap.size ≤ gb102)); clear HB; revert n0_ n1_ n2_ n3_; intro HB BK102 GW102 GE102; clear hb hbox hg; have hcz8_0 : w7.cell? ⟨gb102, 0, none⟩ = some (.string (⟨#[]⟩ : ByteArray)) := (blk_cell BK102.out 0).trans rfl; have hcz8_1 : w7.cell? ⟨gb102, 1, none⟩ = some (.int .i64 0) := (blk_cell BK102.out 1).trans rfl; have hcz8_2 : w7.cell? ⟨gb102, 2, none⟩ = some (.int .i64 0) := (blk_cell BK102.out 2).trans rfl; have hcz8_3 : w7.cell? ⟨gb102, 3, none⟩ = some (.string (⟨#[]⟩ : ByteArray)) := (blk_cell BK102.out 3).trans rfl; have hfz8_0 := blk_frozen BK102.out 0; have hfz8_1 := blk_frozen BK102.out 1; have hfz8_2 := blk_frozen BK102.out 2; have hfz8_3 := blk_frozen BK102.out 3)))); (try simp only [Act.put, List.setIfInBounds_toArray, List.set_cons_zero, List.set_cons_succ]); (go_cut [15] (fun v15 wc => ∃ (kq : Nat) (x15_5 : Bool), v15 = .bool x15_5 ∧ Aside0 (elem_CheckProps.j1 kq l0 x10_1 l0 (l0.length : Int) x10_1 x15_5 ((rd_T98 l0 x10_1).f0) ((rd_T98 l0 x10_1).f1.f0) ((rd_T98 l0 x10_1).f1.f1) ((rd_T98 l0 x10_1).f1.f2) = some r) ∧ Aside0 (kq ≤ k1) ∧ Aside0 (wc.heap[gb102]? = some (.cells #[.string ((rd_T98 l0 x10_1).f0), .int .i64 ((rd_T98 l0 x10_1).f1.f0), .int .i64 ((rd_T98 l0 x10_1).f1.f1), .string ((rd_T98 l0 x10_1).f1.f2)] 98 (0, 0))) ∧ Aside0 (Below w.heap.size w wc)))
              case first =>
                have H := HC6.out; clear HC6; replace H := Option.bind_eq_some_iff.mp H; obtain ⟨t103, A90, H⟩ := H; replace H : (if t103 = 0 then ((value_Check.f ((rd_T98 l0 x10_1).f1.f0) ((rd_T98 l0 x10_1).f1.f1) ((rd_T98 l0 x10_1).f1.f2)).bind fun t104 => (elem_CheckProps.j1 k1 l0 x10_1 l0 (l0.length : Int) x10_1 (t104 != 0) ((rd_T98 l0 x10_1).f0) ((rd_T98 l0 x10_1).f1.f0) ((rd_T98 l0 x10_1).f1.f1) ((rd_T98 l0 x10_1).f1.f2))) else (elem_CheckProps.j1 k1 l0 x10_1 l0 (l0.length : Int) x10_1 true ((rd_T98 l0 x10_1).f0) ((rd_T98 l0 x10_1).f1.f0) ((rd_T98 l0 x10_1).f1.f1) ((rd_T98 l0 x10_1).f1.f2))) = some r := H; have A9 := Aside0.mk A90; clear A90; by_cases c10 : t103 = 0
                · rw [if_pos c10] at H; have c10b0 : (t103 == 0) = true := beq_iff_eq.mpr c10; have c10b1 : (t103 != 0) = false := bne_eq_false_iff_eq.mpr c10; clear c10; (first | rw [c10b0] | (simp only [i64_w, i32_w]; rw [c10b0]) | skip); replace H := Option.bind_eq_some_iff.mp H; obtain ⟨t104, A110, H⟩ := H; replace H : (elem_CheckProps.j1 k1 l0 x10_1 l0 (l0.length : Int) x10_1 (t104 != 0) ((rd_T98 l0 x10_1).f0) ((rd_T98 l0 x10_1).f1.f0) ((rd_T98 l0 x10_1).f1.f1) ((rd_T98 l0 x10_1).f1.f2)) = some r := H; have A11 := Aside0.mk A110; clear A110; have H' := Aside0.mk H; clear H; have hcz12_0 : w7.cell? ⟨gb102, 0, none⟩ = some (.string (⟨#[]⟩ : ByteArray)) := (blk_cell BK102.out 0).trans rfl; have hcz12_1 : w7.cell? ⟨gb102, 1, none⟩ = some (.int .i64 0) := (blk_cell BK102.out 1).trans rfl; have hcz12_2 : w7.cell? ⟨gb102, 2, none⟩ = some (.int .i64 0) := (blk_cell BK102.out 2).trans rfl; have hcz12_3 : w7.cell? ⟨gb102, 3, none⟩ = some (.string (⟨#[]⟩ : ByteArray)) := (blk_cell BK102.out 3).trans rfl; have hfz12_0 := blk_frozen BK102.out 0; have hfz12_1 := blk_frozen BK102.out 1; have hfz12_2 := blk_frozen BK102.out 2; have hfz12_3 := blk_frozen BK102.out 3; go_wp2_with (first | (go_at_call 56; (with_reducible refine (name_Check.calls k1 ((rd_T98 l0 x10_1).f0) t103 _ A9.out).mono ?_); rintro e w' ⟨rfl, ⟨nd, rfl⟩⟩; (try first | exact ⟨rfl, _, World.drewN_drewN _ _ _⟩ | exact ⟨rfl, _, Eq.trans (World.drewN_drewN _ _ _) (congrArg (World.drewN _) (Nat.add_assoc _ _ _))⟩)) | (go_at_call 58; (with_reducible refine (value_Check.calls ((rd_T98 l0 x10_1).f1.f0) ((rd_T98 l0 x10_1).f1.f1) ((rd_T98 l0 x10_1).f1.f2) t104 _ A11.out).mono ?_); rintro e w13 ⟨rfl, hb⟩; have n0_ := zm (blk_below (g := gb102) (o := .cells #[.string ((rd_T98 l0 x10_1).f0), .int .i64 ((rd_T98 l0 x10_1).f1.f0), .int .i64 ((rd_T98 l0 x10_1).f1.f1), .string ((rd_T98 l0 x10_1).f1.f2)] 98 (0, 0)) (zq18) hb); have n1_ := zm (below_step (zq52) hb); clear BK102 HB; revert n0_ n1_; intro BK102 HB; (try clear hb); (try clear hb2); (try clear hk); (try clear hi))); (repeat (go_quiet (first | (go_at_call 56; (with_reducible refine (name_Check.calls k1 ((rd_T98 l0 x10_1).f0) t103 _ A9.out).mono ?_); rintro e w' ⟨rfl, ⟨nd, rfl⟩⟩; (try first | exact ⟨rfl, _, World.drewN_drewN _ _ _⟩ | exact ⟨rfl, _, Eq.trans (World.drewN_drewN _ _ _) (congrArg (World.drewN _) (Nat.add_assoc _ _ _))⟩)) | (go_at_call 58; (with_reducible refine (value_Check.calls ((rd_T98 l0 x10_1).f1.f0) ((rd_T98 l0 x10_1).f1.f1) ((rd_T98 l0 x10_1).f1.f2) t104 _ A11.out).mono ?_); rintro e w13 ⟨rfl, hb⟩; have n0_ := zm (blk_below (g := gb102) (o := .cells #[.string ((rd_T98 l0 x10_1).f0), .int .i64 ((rd_T98 l0 x10_1).f1.f0), .int .i64 ((rd_T98 l0 x10_1).f1.f1), .string ((rd_T98 l0 x10_1).f1.f2)] 98 (0, 0)) (zq18) hb); have n1_ := zm (below_step (zq52) hb); clear BK102 HB; revert n0_ n1_; intro BK102 HB; (try clear hb); (try clear hb2); (try clear hk); (try clear hi))); try go_wp2_with (first | (go_at_call 56; (with_reducible refine (name_Check.calls k1 ((rd_T98 l0 x10_1).f0) t103 _ A9.out).mono ?_); rintro e w' ⟨rfl, ⟨nd, rfl⟩⟩; (try first | exact ⟨rfl, _, World.drewN_drewN _ _ _⟩ | exact ⟨rfl, _, Eq.trans (World.drewN_drewN _ _ _) (congrArg (World.drewN _) (Nat.add_assoc _ _ _))⟩)) | (go_at_call 58; (with_reducible refine (value_Check.calls ((rd_T98 l0 x10_1).f1.f0) ((rd_T98 l0 x10_1).f1.f1) ((rd_T98 l0 x10_1).f1.f2) t104 _ A11.out).mono ?_); rintro e w13 ⟨rfl, hb⟩; have n0_ := zm (blk_below (g := gb102) (o := .cells #[.string ((rd_T98 l0 x10_1).f0), .int .i64 ((rd_T98 l0 x10_1).f1.f0), .int .i64 ((rd_T98 l0 x10_1).f1.f1), .string ((rd_T98 l0 x10_1).f1.f2)] 98 (0, 0)) (zq18) hb); have n1_ := zm (below_step (zq52) hb); clear BK102 HB; revert n0_ n1_; intro BK102 HB; (try clear hb); (try clear hb2); (try clear hk); (try clear hi))))); (go_meet)
                  case rel => exact ⟨_, ((t104 != 0)), (zq11), H', ⟨zq121⟩, ⟨zq13⟩, ⟨zq52⟩⟩
                · rw [if_neg c10] at H; have c10b0 : (t103 == 0) = false := beq_eq_false_iff_ne.mpr c10; have c10b1 : (t103 != 0) = true := bne_iff_ne.mpr c10; (first | rw [c10b0] | (simp only [i64_w, i32_w]; rw [c10b0]) | skip); have H' := Aside0.mk H; clear H; have hcz14_0 : w7.cell? ⟨gb102, 0, none⟩ = some (.string (⟨#[]⟩ : ByteArray)) := (blk_cell BK102.out 0).trans rfl; have hcz14_1 : w7.cell? ⟨gb102, 1, none⟩ = some (.int .i64 0) := (blk_cell BK102.out 1).trans rfl; have hcz14_2 : w7.cell? ⟨gb102, 2, none⟩ = some (.int .i64 0) := (blk_cell BK102.out 2).trans rfl; have hcz14_3 : w7.cell? ⟨gb102, 3, none⟩ = some (.string (⟨#[]⟩ : ByteArray)) := (blk_cell BK102.out 3).trans rfl; have hfz14_0 := blk_frozen BK102.out 0; have hfz14_1 := blk_frozen BK102.out 1; have hfz14_2 := blk_frozen BK102.out 2; have hfz14_3 := blk_frozen BK102.out 3; go_wp2_with (first | (go_at_call 56; (with_reducible refine (name_Check.calls k1 ((rd_T98 l0 x10_1).f0) t103 _ A9.out).mono ?_); rintro e w' ⟨rfl, ⟨nd, rfl⟩⟩; (try first | exact ⟨rfl, _, World.drewN_drewN _ _ _⟩ | exact ⟨rfl, _, Eq.trans (World.drewN_drewN _ _ _) (congrArg (World.drewN _) (Nat.add_assoc _ _ _))⟩))); (repeat (go_quiet (first | (go_at_call 56; (with_reducible refine (name_Check.calls k1 ((rd_T98 l0 x10_1).f0) t103 _ A9.out).mono ?_); rintro e w' ⟨rfl, ⟨nd, rfl⟩⟩; (try first | exact ⟨rfl, _, World.drewN_drewN _ _ _⟩ | exact ⟨rfl, _, Eq.trans (World.drewN_drewN _ _ _) (congrArg (World.drewN _) (Nat.add_assoc _ _ _))⟩))); try go_wp2_with (first | (go_at_call 56; (with_reducible refine (name_Check.calls k1 ((rd_T98 l0 x10_1).f0) t103 _ A9.out).mono ?_); rintro e w' ⟨rfl, ⟨nd, rfl⟩⟩; (try first | exact ⟨rfl, _, World.drewN_drewN _ _ _⟩ | exact ⟨rfl, _, Eq.trans (World.drewN_drewN _ _ _) (congrArg (World.drewN _) (Nat.add_assoc _ _ _))⟩))))); (go_meet)
                  case rel => exact ⟨_, (true), (zq11), H', ⟨zq121⟩, ⟨zq18⟩, ⟨zq52⟩⟩
              case rest =>
                clear HC6; (try clear c1); (try clear p1); (try clear q1); (try clear hx1); (try clear c2); (try clear c2b0); (try clear c2b1); (try clear p2); (try clear c3); (try clear c3b0); (try clear c4); (try clear c4b0); (try clear c5); (try clear c5b0); (try clear c10); (try clear c10b0); (try clear c10b1); (try clear p10); (try clear q10); (try clear hx10); (try clear hcz12_0); (try clear hcz12_1); (try clear hcz12_2); (try clear hcz12_3); (try clear hcz14_0); (try clear hcz14_1); (try clear hcz14_2); (try clear hcz14_3); (try clear hcz8_0); (try clear hcz8_1); (try clear hcz8_2); (try clear hcz8_3); (try clear hfz12_0); (try clear hfz12_1); (try clear hfz12_2); (try clear hfz12_3); (try clear hfz14_0); (try clear hfz14_1); (try clear hfz14_2); (try clear hfz14_3); (try clear hfz8_0); (try clear hfz8_1); (try clear hfz8_2); (try clear hfz8_3); (try clear hx101_0); (try clear hx101_1); (try clear hx101_2); (try clear hx101_3); (try clear p101); (try clear p2); (try clear q101); obtain ⟨kq, x15_5, rfl, HA, HJ5, BK102, HB⟩ := hcut
                cases kq with
                | zero => exact absurd HA.out (by simp [elem_CheckProps.j1])
                | succ kj5 =>
                  have H := HA.out; clear HA; simp only [elem_CheckProps.j1] at H; by_cases c15 : x15_5 = true
                  · subst c15; (have H1 : (some 2) = some r := by rw [if_pos rfl] at H; exact H); clear H; have H := H1; clear H1; obtain rfl := Option.some.inj H; (go_wp2); (repeat (go_quiet (fail); try go_wp2)); (go_ret); exact ⟨zq5, zq52⟩
                  · replace c15 := Bool.eq_false_iff.mpr c15; subst c15; (have H1 : (if x10_1 > 0 then (if 0 ≤ (wrap64 (x10_1 - 1)) then (if (wrap64 (x10_1 - 1)) < (l0.length : Int) then (if ((Op.bytesLess (((rd_T98 l0 (wrap64 (x10_1 - 1))).f0).toList) ((rd_T98 l0 x10_1).f0).toList) = true) then (elem_CheckProps.l0 kj5 l0 l0 (l0.length : Int) (wrap64 (x10_1 + 1))) else (some 4)) else (none)) else (none)) else (elem_CheckProps.l0 kj5 l0 l0 (l0.length : Int) (wrap64 (x10_1 + 1)))) = some r := by rw [if_neg (show ¬ (false = true) by decide)] at H; exact H); clear H; have H := H1; clear H1; by_cases c16 : x10_1 > 0
                    · rw [if_pos c16] at H; have c16b0 : decide (0 < x10_1) = true := decide_eq_true c16; clear c16; obtain ⟨ji17, hji17⟩ : ∃ j_ : Int, (wrap64 (x10_1 - 1)) = j_ := ⟨_, rfl⟩; (replace H : (if 0 ≤ (ji17) then (if (ji17) < (l0.length : Int) then (if ((Op.bytesLess (((rd_T98 l0 (ji17)).f0).toList) ((rd_T98 l0 x10_1).f0).toList) = true) then (elem_CheckProps.l0 kj5 l0 l0 (l0.length : Int) (wrap64 (x10_1 + 1))) else (some 4)) else (none)) else (none)) = some r := by first | (rw [hji17] at H; exact H) | (simp only [hji17] at H ⊢; exact H)); have hji17w : (IntKind.i64.wrap (x10_1 - 1)) = ji17 := (i64_w _).trans hji17; by_cases c18 : 0 ≤ (ji17)
                      · rw [if_pos c18] at H; have c18b0 : decide (0 ≤ (ji17)) = true := decide_eq_true c18; clear c18; by_cases c19 : (ji17) < (l0.length : Int)
                        · rw [if_pos c19] at H; have c19b0 : decide ((ji17) < (l0.length : Int)) = true := decide_eq_true c19; clear c19; by_cases c20 : ((Op.bytesLess (((rd_T98 l0 (ji17)).f0).toList) ((rd_T98 l0 x10_1).f0).toList) = true)
                          · rw [if_pos c20] at H; have c20b0 : (Op.bytesLess (((rd_T98 l0 (ji17)).f0).toList) ((rd_T98 l0 x10_1).f0).toList) = true := c20; clear c20; have H' := Aside0.mk H; clear H; have p105 : 0 ≤ ((ji17) : Int) := of_decide_eq_true (zq6); have q105 : (ji17) < (l0.length : Int) := of_decide_eq_true (zq6); obtain ⟨ad105, e105, hx105_0, hx105_1, hx105_2, hx105_3⟩ := at_T98 HR0.out (ji17) p105 q105; obtain rfl : ad101 = ad105 := (by injection e105); replace hx105_0 := (HB.out.cell (World.block_lt_of_cell? w _ hx105_0)).trans hx105_0; replace hx105_1 := (HB.out.cell (World.block_lt_of_cell? w _ hx105_1)).trans hx105_1; replace hx105_2 := (HB.out.cell (World.block_lt_of_cell? w _ hx105_2)).trans hx105_2; replace hx105_3 := (HB.out.cell (World.block_lt_of_cell? w _ hx105_3)).trans hx105_3; replace p105 := eq_true p105; replace q105 := eq_true q105; have hcz21_0 : wc.cell? ⟨gb102, 0, none⟩ = some (.string ((rd_T98 l0 x10_1).f0)) := (blk_cell BK102.out 0).trans rfl; have hcz21_1 : wc.cell? ⟨gb102, 1, none⟩ = some (.int .i64 ((rd_T98 l0 x10_1).f1.f0)) := (blk_cell BK102.out 1).trans rfl; have hcz21_2 : wc.cell? ⟨gb102, 2, none⟩ = some (.int .i64 ((rd_T98 l0 x10_1).f1.f1)) := (blk_cell BK102.out 2).trans rfl; have hcz21_3 : wc.cell? ⟨gb102, 3, none⟩ = some (.string ((rd_T98 l0 x10_1).f1.f2)) := (blk_cell BK102.out 3).trans rfl; have hfz21_0 := blk_frozen BK102.out 0; have hfz21_1 := blk_frozen BK102.out 1; have hfz21_2 := blk_frozen BK102.out 2; have hfz21_3 := blk_frozen BK102.out 3; (go_wp2); (repeat (go_quiet (fail); try go_wp2)); (go_roundg kj5)
                            case measure => have := HK1.out; have := HJ5.out; omega
                            case rel => exact ⟨(wrap64 (x10_1 + 1)), (zq11), H', ⟨by have := HK1.out; have := HJ5.out; omega⟩, ⟨zq52⟩⟩
                          · rw [if_neg c20] at H; (have c20b0 : (Op.bytesLess (((rd_T98 l0 (ji17)).f0).toList) ((rd_T98 l0 x10_1).f0).toList) = false := by simpa using c20); clear c20; obtain rfl := Option.some.inj H; have p105 : 0 ≤ ((ji17) : Int) := of_decide_eq_true (zq6); have q105 : (ji17) < (l0.length : Int) := of_decide_eq_true (zq6); obtain ⟨ad105, e105, hx105_0, hx105_1, hx105_2, hx105_3⟩ := at_T98 HR0.out (ji17) p105 q105; obtain rfl : ad101 = ad105 := (by injection e105); replace hx105_0 := (HB.out.cell (World.block_lt_of_cell? w _ hx105_0)).trans hx105_0; replace hx105_1 := (HB.out.cell (World.block_lt_of_cell? w _ hx105_1)).trans hx105_1; replace hx105_2 := (HB.out.cell (World.block_lt_of_cell? w _ hx105_2)).trans hx105_2; replace hx105_3 := (HB.out.cell (World.block_lt_of_cell? w _ hx105_3)).trans hx105_3; replace p105 := eq_true p105; replace q105 := eq_true q105; have hcz22_0 : wc.cell? ⟨gb102, 0, none⟩ = some (.string ((rd_T98 l0 x10_1).f0)) := (blk_cell BK102.out 0).trans rfl; have hcz22_1 : wc.cell? ⟨gb102, 1, none⟩ = some (.int .i64 ((rd_T98 l0 x10_1).f1.f0)) := (blk_cell BK102.out 1).trans rfl; have hcz22_2 : wc.cell? ⟨gb102, 2, none⟩ = some (.int .i64 ((rd_T98 l0 x10_1).f1.f1)) := (blk_cell BK102.out 2).trans rfl; have hcz22_3 : wc.cell? ⟨gb102, 3, none⟩ = some (.string ((rd_T98 l0 x10_1).f1.f2)) := (blk_cell BK102.out 3).trans rfl; have hfz22_0 := blk_frozen BK102.out 0; have hfz22_1 := blk_frozen BK102.out 1; have hfz22_2 := blk_frozen BK102.out 2; have hfz22_3 := blk_frozen BK102.out 3; (go_wp2); (repeat (go_quiet (fail); try go_wp2)); (go_ret); exact ⟨by first | rfl | (simp [errW_none, errW_some] <;> rfl) | (simp only [← hji17]; first | rfl | (simp [errW_none, errW_some] <;> rfl)) | (simp [*, errW_none, errW_some] <;> rfl), zq52⟩
                        · rw [if_neg c19] at H; exact absurd H (by simp)
                      · rw [if_neg c18] at H; exact absurd H (by simp)
                    · rw [if_neg c16] at H; have c16b0 : decide (0 < x10_1) = false := decide_eq_false c16; clear c16; have H' := Aside0.mk H; clear H; (go_wp2); (repeat (go_quiet (fail); try go_wp2)); (go_roundg kj5)
                      case measure => have := HK1.out; have := HJ5.out; omega
                      case rel => exact ⟨(wrap64 (x10_1 + 1)), (zq11), H', ⟨by have := HK1.out; have := HJ5.out; omega⟩, ⟨zq52⟩⟩
            · rw [if_neg c5] at H; exact absurd H (by simp)
          · rw [if_neg c4] at H; exact absurd H (by simp)
        · rw [if_neg c3] at H; have c3b0 : decide (x10_1 < (l0.length : Int)) = false := decide_eq_false c3; clear c3; obtain rfl := Option.some.inj H; (go_wp2); (repeat (go_quiet (fail); try go_wp2)); (go_ret); exact ⟨zq5, zq0⟩

end Go.Proofs.Ytmnadajjgnniaaa.MA
end
section
namespace Go.Proofs.Ytmnadajjgnniaaa.MA
open Go.RowKit Go.Proofs.YtmnadajjgnniaaaW.PrintWords Go.Proofs.YtmnadajjgnniaaaW.PrintLast Go.Proofs.YtmnadajjgnniaaaW.PrintMore
attribute [local go_sem] max2_int min2_int max_two min_two max_three min_three max_four min_four

def name_Row.l0 : Nat → List ByteArray → List ByteArray → Int → Int → Option (Int)
  | 0, _, _, _, _ => none
  | k + 1, x0, x6, x7, x8 => if x8 < x7 then (if 0 ≤ x8 then (if x8 < (x6.length : Int) then ((name_Check.f k (rdOf ByteArray.empty x6 x8)).bind fun t102 => (if t102 = 0 then (if x8 > 0 then (if 0 ≤ (wrap64 (x8 - 1)) then (if (wrap64 (x8 - 1)) < (x0.length : Int) then (if ((Op.bytesLess ((rdOf ByteArray.empty x0 (wrap64 (x8 - 1))).toList) ((rdOf ByteArray.empty x6 x8).toList)) = true) then (name_Row.l0 k x0 x6 x7 (wrap64 (x8 + 1))) else (some 4)) else (none)) else (none)) else (name_Row.l0 k x0 x6 x7 (wrap64 (x8 + 1)))) else (some t102))) else (none)) else (none)) else (some 0)
def name_Row.f (k : Nat) (l0 : List ByteArray) : Option (Int) := name_Row.l0 k l0 l0 (l0.length : Int) 0
theorem name_Row.mono_l : ∀ k, (∀ y0 y1 y2 y3, LeO (name_Row.l0 k y0 y1 y2 y3) (name_Row.l0 (k + 1) y0 y1 y2 y3))
  | 0 => fun _ _ _ _ r h => by simp [name_Row.l0] at h
  | k + 1 => by
    have ih0 := name_Row.mono_l k
    · intro y0 y1 y2 y3; unfold name_Row.l0
      repeat' first
      | (with_reducible exact ih0 _ _ _ _)
      | (with_reducible exact name_Check.mono _ _)
      | (with_reducible exact LeO.refl _)
      | (with_reducible exact LeO.none _)
      | (with_reducible refine LeO.ite ?_ ?_)
      | (with_reducible refine LeO.bind ?_ (fun _ => ?_))
      | exact ih0 _ _ _ _
      | exact name_Check.mono _ _
      | exact LeO.none _
      | refine LeO.ite ?_ ?_
      | refine LeO.bind ?_ (fun _ => ?_)
theorem name_Row.mono : ∀ a0 k, LeO (name_Row.f k a0) (name_Row.f (k + 1) a0) := by
  intro a0 k; have ih0 := name_Row.mono_l k; unfold name_Row.f
  repeat' first
      | (with_reducible exact ih0 _ _ _ _)
      | (with_reducible exact name_Check.mono _ _)
      | (with_reducible exact LeO.refl _)
      | (with_reducible exact LeO.none _)
      | (with_reducible refine LeO.ite ?_ ?_)
      | (with_reducible refine LeO.bind ?_ (fun _ => ?_))
      | exact ih0 _ _ _ _
      | exact name_Check.mono _ _
      | exact LeO.none _
      | refine LeO.ite ?_ ?_
      | refine LeO.bind ?_ (fun _ => ?_)
set_option maxHeartbeats 8000000 in
set_option maxRecDepth 100000 in
theorem name_Row.calls (k : Nat) (A0 : Option Addr) (c0 : Nat) (l0 : List ByteArray) (r : Int) (w : World) (hr0 : Kd.C Kd.string w A0 l0.length l0) (hc0 : l0.length ≤ c0) (h : name_Row.f k l0 = some r) :
    Calls Try.prog 85 #[.slice A0 l0.length c0] w fun e w' => e = .returned (.int .i64 r) ∧ Drawn0 w w' := by
  have HR0 := Aside0.mk hr0; have HC0 := Aside0.mk hc0; clear hr0 hc0; have H : (name_Row.l0 k l0 l0 (l0.length : Int) 0) = some r := h; clear h; have H' := Aside0.mk H; clear H; go_enter Try.func85, Try.ntmps85; (go_wp2); (go_loopg [8] k (fun kq v8 w' => ∃ (x8_1 : Int), v8 = .int .i64 x8_1 ∧ Aside0 (name_Row.l0 kq l0 l0 (l0.length : Int) x8_1 = some r) ∧ Aside0 (kq ≤ k) ∧ Drawn0 w w'))
  case atStart => exact ⟨(0), (zq11), H', ⟨Nat.le_refl _⟩, zq16⟩
  case round =>
    clear H'; obtain ⟨x8_1, rfl, HA, HK1, ⟨m1, rfl⟩⟩ := hrel
    cases gk with
    | zero => exact absurd HA.out (by simp [name_Row.l0])
    | succ k1 =>
      have H := HA.out; clear HA; simp only [name_Row.l0] at H; by_cases c2 : x8_1 < (l0.length : Int)
      · rw [if_pos c2] at H; have c2b0 : decide (x8_1 < (l0.length : Int)) = true := decide_eq_true c2; clear c2; by_cases c3 : 0 ≤ x8_1
        · rw [if_pos c3] at H; have c3b0 : decide (0 ≤ x8_1) = true := decide_eq_true c3; clear c3; by_cases c4 : x8_1 < (l0.length : Int)
          · rw [if_pos c4] at H; have c4b0 : decide (x8_1 < (l0.length : Int)) = true := decide_eq_true c4; clear c4; replace H := Option.bind_eq_some_iff.mp H; obtain ⟨t102, A50, H⟩ := H; replace H : (if t102 = 0 then (if x8_1 > 0 then (if 0 ≤ (wrap64 (x8_1 - 1)) then (if (wrap64 (x8_1 - 1)) < (l0.length : Int) then (if ((Op.bytesLess ((rdOf ByteArray.empty l0 (wrap64 (x8_1 - 1))).toList) ((rdOf ByteArray.empty l0 x8_1).toList)) = true) then (name_Row.l0 k1 l0 l0 (l0.length : Int) (wrap64 (x8_1 + 1))) else (some 4)) else (none)) else (none)) else (name_Row.l0 k1 l0 l0 (l0.length : Int) (wrap64 (x8_1 + 1)))) else (some t102)) = some r := H; have A5 := Aside0.mk A50; clear A50; by_cases c6 : t102 = 0
            · rw [if_pos c6] at H; have c6b0 : (t102 == 0) = true := beq_iff_eq.mpr c6; have c6b1 : (t102 != 0) = false := bne_eq_false_iff_eq.mpr c6; clear c6; by_cases c7 : x8_1 > 0
              · rw [if_pos c7] at H; have c7b0 : decide (0 < x8_1) = true := decide_eq_true c7; clear c7; obtain ⟨ji8, hji8⟩ : ∃ j_ : Int, (wrap64 (x8_1 - 1)) = j_ := ⟨_, rfl⟩; (replace H : (if 0 ≤ (ji8) then (if (ji8) < (l0.length : Int) then (if ((Op.bytesLess ((rdOf ByteArray.empty l0 (ji8)).toList) ((rdOf ByteArray.empty l0 x8_1).toList)) = true) then (name_Row.l0 k1 l0 l0 (l0.length : Int) (wrap64 (x8_1 + 1))) else (some 4)) else (none)) else (none)) = some r := by first | (rw [hji8] at H; exact H) | (simp only [hji8] at H ⊢; exact H)); (try rw [hji8] at A5); have hji8w : (IntKind.i64.wrap (x8_1 - 1)) = ji8 := (i64_w _).trans hji8; by_cases c9 : 0 ≤ (ji8)
                · rw [if_pos c9] at H; have c9b0 : decide (0 ≤ (ji8)) = true := decide_eq_true c9; clear c9; by_cases c10 : (ji8) < (l0.length : Int)
                  · rw [if_pos c10] at H; have c10b0 : decide ((ji8) < (l0.length : Int)) = true := decide_eq_true c10; clear c10; by_cases c11 : ((Op.bytesLess ((rdOf ByteArray.empty l0 (ji8)).toList) ((rdOf ByteArray.empty l0 x8_1).toList)) = true)
                    · rw [if_pos c11] at H; have c11b0 : (Op.bytesLess ((rdOf ByteArray.empty l0 (ji8)).toList) ((rdOf ByteArray.empty l0 x8_1).toList)) = true := c11; clear c11; have H' := Aside0.mk H; clear H; have p101 : 0 ≤ (x8_1 : Int) := of_decide_eq_true (zq6); have q101 : x8_1 < (l0.length : Int) := of_decide_eq_true (zq6); obtain ⟨ad101, e101, hx101_0⟩ := Kd.at_string HR0.out x8_1 p101 q101; cases e101; replace p101 := eq_true p101; replace q101 := eq_true q101; go_wp2_with (first | ((with_reducible refine gate_callee (f := 56) rfl ?_); refine goesL_ (some 14) rfl rfl Try.func56 (by kernel_rfl) rfl #[.string (rdOf ByteArray.empty l0 x8_1)] rfl (zq2) ?_; (with_reducible refine (name_Check.calls k1 (rdOf ByteArray.empty l0 x8_1) t102 _ A5.out).mono ?_); rintro e w' ⟨rfl, ⟨nd, rfl⟩⟩; refine ⟨_, rfl, ?_⟩; have p103 : 0 ≤ ((ji8) : Int) := of_decide_eq_true (zq6); have q103 : (ji8) < (l0.length : Int) := of_decide_eq_true (zq6); obtain ⟨ad103, e103, hx103_0⟩ := Kd.at_string HR0.out (ji8) p103 q103; obtain rfl : ad101 = ad103 := (by injection e103); replace p103 := eq_true p103; replace q103 := eq_true q103)); (go_roundg k1)
                      case measure => have := HK1.out; omega
                      case rel => exact ⟨(wrap64 (x8_1 + 1)), (zq11), H', ⟨by have := HK1.out; omega⟩, zq16⟩
                    · rw [if_neg c11] at H; (have c11b0 : (Op.bytesLess ((rdOf ByteArray.empty l0 (ji8)).toList) ((rdOf ByteArray.empty l0 x8_1).toList)) = false := by simpa using c11); clear c11; obtain rfl := Option.some.inj H; have p101 : 0 ≤ (x8_1 : Int) := of_decide_eq_true (zq6); have q101 : x8_1 < (l0.length : Int) := of_decide_eq_true (zq6); obtain ⟨ad101, e101, hx101_0⟩ := Kd.at_string HR0.out x8_1 p101 q101; cases e101; replace p101 := eq_true p101; replace q101 := eq_true q101; go_wp2_with (first | ((with_reducible refine gate_callee (f := 56) rfl ?_); refine goesL_ (some 14) rfl rfl Try.func56 (by kernel_rfl) rfl #[.string (rdOf ByteArray.empty l0 x8_1)] rfl (zq2) ?_; (with_reducible refine (name_Check.calls k1 (rdOf ByteArray.empty l0 x8_1) t102 _ A5.out).mono ?_); rintro e w' ⟨rfl, ⟨nd, rfl⟩⟩; refine ⟨_, rfl, ?_⟩; have p103 : 0 ≤ ((ji8) : Int) := of_decide_eq_true (zq6); have q103 : (ji8) < (l0.length : Int) := of_decide_eq_true (zq6); obtain ⟨ad103, e103, hx103_0⟩ := Kd.at_string HR0.out (ji8) p103 q103; obtain rfl : ad101 = ad103 := (by injection e103); replace p103 := eq_true p103; replace q103 := eq_true q103)); (go_ret); exact ⟨by first | rfl | (simp; done) | (simp only [← hji8] <;> (first | rfl | simp)) | (simp [*]; done), zq16⟩
                  · rw [if_neg c10] at H; exact absurd H (by simp)
                · rw [if_neg c9] at H; exact absurd H (by simp)
              · rw [if_neg c7] at H; have c7b0 : decide (0 < x8_1) = false := decide_eq_false c7; clear c7; have H' := Aside0.mk H; clear H; have p101 : 0 ≤ (x8_1 : Int) := of_decide_eq_true (zq6); have q101 : x8_1 < (l0.length : Int) := of_decide_eq_true (zq6); obtain ⟨ad101, e101, hx101_0⟩ := Kd.at_string HR0.out x8_1 p101 q101; cases e101; replace p101 := eq_true p101; replace q101 := eq_true q101; go_wp2_with (first | ((with_reducible refine gate_callee (f := 56) rfl ?_); refine goesL_ (some 14) rfl rfl Try.func56 (by kernel_rfl) rfl #[.string (rdOf ByteArray.empty l0 x8_1)] rfl (zq2) ?_; (with_reducible refine (name_Check.calls k1 (rdOf ByteArray.empty l0 x8_1) t102 _ A5.out).mono ?_); rintro e w' ⟨rfl, ⟨nd, rfl⟩⟩; refine ⟨_, rfl, ?_⟩)); (go_roundg k1)
                case measure => have := HK1.out; omega
                case rel => exact ⟨(wrap64 (x8_1 + 1)), (zq11), H', ⟨by have := HK1.out; omega⟩, zq16⟩
            · rw [if_neg c6] at H; have c6b0 : (t102 == 0) = false := beq_eq_false_iff_ne.mpr c6; have c6b1 : (t102 != 0) = true := bne_iff_ne.mpr c6; obtain rfl := Option.some.inj H; have p101 : 0 ≤ (x8_1 : Int) := of_decide_eq_true (zq6); have q101 : x8_1 < (l0.length : Int) := of_decide_eq_true (zq6); obtain ⟨ad101, e101, hx101_0⟩ := Kd.at_string HR0.out x8_1 p101 q101; cases e101; replace p101 := eq_true p101; replace q101 := eq_true q101; go_wp2_with (first | ((with_reducible refine gate_callee (f := 56) rfl ?_); refine goesL_ (some 14) rfl rfl Try.func56 (by kernel_rfl) rfl #[.string (rdOf ByteArray.empty l0 x8_1)] rfl (zq2) ?_; (with_reducible refine (name_Check.calls k1 (rdOf ByteArray.empty l0 x8_1) t102 _ A5.out).mono ?_); rintro e w' ⟨rfl, ⟨nd, rfl⟩⟩; refine ⟨_, rfl, ?_⟩)); (go_ret); exact ⟨zq11, zq16⟩
          · rw [if_neg c4] at H; exact absurd H (by simp)
        · rw [if_neg c3] at H; exact absurd H (by simp)
      · rw [if_neg c2] at H; have c2b0 : decide (x8_1 < (l0.length : Int)) = false := decide_eq_false c2; clear c2; obtain rfl := Option.some.inj H; (go_wp2); (go_ret); exact ⟨zq11, zq16⟩

end Go.Proofs.Ytmnadajjgnniaaa.MA
end
section
namespace Go.Proofs.Ytmnadajjgnniaaa.MA
open Go.RowKit Go.Proofs.YtmnadajjgnniaaaW.PrintWords Go.Proofs.YtmnadajjgnniaaaW.PrintLast Go.Proofs.YtmnadajjgnniaaaW.PrintMore
attribute [local go_sem] max2_int min2_int max_two min_two max_three min_three max_four min_four

def elem_rest.f (k : Nat) (l0 : List ByteArray) (l1 : List (S98)) : Option (Int) := if (l0.length : Int) > 8 then (some 5) else ((name_Row.f k l0).bind fun t101 => (if t101 = 0 then ((elem_CheckProps.f k l1).bind fun t102 => (some t102)) else (some t101)))
theorem elem_rest.mono : ∀ a0 a1 k, LeO (elem_rest.f k a0 a1) (elem_rest.f (k + 1) a0 a1) := by
  intro a0 a1 k; unfold elem_rest.f
  repeat' first
      | (with_reducible exact elem_CheckProps.mono _ _)
      | (with_reducible exact name_Row.mono _ _)
      | (with_reducible exact LeO.refl _)
      | (with_reducible exact LeO.none _)
      | (with_reducible refine LeO.ite ?_ ?_)
      | (with_reducible refine LeO.bind ?_ (fun _ => ?_))
      | exact elem_CheckProps.mono _ _
      | exact name_Row.mono _ _
      | exact LeO.none _
      | refine LeO.ite ?_ ?_
      | refine LeO.bind ?_ (fun _ => ?_)
set_option maxHeartbeats 8000000 in
set_option maxRecDepth 100000 in
theorem elem_rest.calls (k : Nat) (A0 : Option Addr) (c0 : Nat) (l0 : List ByteArray) (A1 : Option Addr) (c1 : Nat) (l1 : List (S98)) (r : Int) (w : World) (hr0 : Kd.C Kd.string w A0 l0.length l0) (hc0 : l0.length ≤ c0) (hr1 : Kd.C k98 w A1 l1.length l1) (hc1 : l1.length ≤ c1) (h : elem_rest.f k l0 l1 = some r) :
    Calls Try.prog 57 #[.slice A0 l0.length c0, .slice A1 l1.length c1] w fun e w' => e = .returned (.int .i64 r) ∧ Below w.heap.size w w' := by
  have HR0 := Aside0.mk hr0; have HC0 := Aside0.mk hc0; clear hr0 hc0; have HR1 := Aside0.mk hr1; have HC1 := Aside0.mk hc1; clear hr1 hc1; have HB := zm (Below.refl w.heap.size w); have H : (if (l0.length : Int) > 8 then (some 5) else ((name_Row.f k l0).bind fun t101 => (if t101 = 0 then ((elem_CheckProps.f k l1).bind fun t102 => (some t102)) else (some t101)))) = some r := h; clear h; by_cases c3 : (l0.length : Int) > 8
  · rw [if_pos c3] at H; have c3b0 : decide (8 < (l0.length : Int)) = true := decide_eq_true c3; have c3b1 : decide (8 < l0.length) = true := decide_eq_true (by omega); clear c3; obtain rfl := Option.some.inj H; go_enter Try.func57, Try.ntmps57; (go_wp2); (go_ret); exact ⟨zq5, zq0⟩
  · rw [if_neg c3] at H; have c3b0 : decide (8 < (l0.length : Int)) = false := decide_eq_false c3; have c3b1 : decide (8 < l0.length) = false := decide_eq_false (by omega); clear c3; replace H := Option.bind_eq_some_iff.mp H; obtain ⟨t101, A40, H⟩ := H; replace H : (if t101 = 0 then ((elem_CheckProps.f k l1).bind fun t102 => (some t102)) else (some t101)) = some r := H; have A4 := Aside0.mk A40; clear A40; by_cases c5 : t101 = 0
    · rw [if_pos c5] at H; have c5b0 : (t101 == 0) = true := beq_iff_eq.mpr c5; have c5b1 : (t101 != 0) = false := bne_eq_false_iff_eq.mpr c5; clear c5; replace H := Option.bind_eq_some_iff.mp H; obtain ⟨t102, A60, H⟩ := H; replace H : (some t102) = some r := H; have A6 := Aside0.mk A60; clear A60; obtain rfl := Option.some.inj H; go_enter Try.func57, Try.ntmps57; go_wp2_with (first | ((with_reducible refine gate_callee (f := 85) rfl ?_); refine goesL_ (some 10) rfl rfl Try.func85 (by kernel_rfl) rfl #[.slice A0 l0.length c0] rfl (zq2) ?_; (with_reducible refine (name_Row.calls k _ _ l0 t101 _ ?side1 ?side2 A4.out).mono ?_); (case side1 => repeat (first | exact HR0.out | (with_reducible refine Kd.C_alloc ?_ _) | (with_reducible refine Kd.C_drewN ?_ _) | (with_reducible refine Kd.C_drew ?_))); (case side2 => exact HC0.out); rintro e w' ⟨rfl, ⟨nd, rfl⟩⟩; refine ⟨_, rfl, ?_⟩) | ((with_reducible refine gate_callee (f := 16) rfl ?_); refine goesL_ (some 15) rfl rfl Try.func16 (by kernel_rfl) rfl #[.slice A1 l1.length c1] rfl (zq2) ?_; (with_reducible refine (elem_CheckProps.calls k _ _ l1 t102 _ ?side1 ?side2 A6.out).mono ?_); (case side1 => repeat (first | exact HR1.out | (with_reducible refine Kd.C_alloc ?_ _) | (with_reducible refine Kd.C_drewN ?_ _) | (with_reducible refine Kd.C_drew ?_))); (case side2 => exact HC1.out); rintro e w7 ⟨rfl, hb⟩; refine ⟨_, rfl, ?_⟩; have n0_ := zm (below_step (zq0) hb); clear HB; revert n0_; intro HB; (try clear hb); (try clear hb2); (try clear hk); (try clear hi))); (go_ret); exact ⟨zq5, zq0⟩
    · rw [if_neg c5] at H; have c5b0 : (t101 == 0) = false := beq_eq_false_iff_ne.mpr c5; have c5b1 : (t101 != 0) = true := bne_iff_ne.mpr c5; obtain rfl := Option.some.inj H; go_enter Try.func57, Try.ntmps57; go_wp2_with (first | ((with_reducible refine gate_callee (f := 85) rfl ?_); refine goesL_ (some 10) rfl rfl Try.func85 (by kernel_rfl) rfl #[.slice A0 l0.length c0] rfl (zq2) ?_; (with_reducible refine (name_Row.calls k _ _ l0 t101 _ ?side1 ?side2 A4.out).mono ?_); (case side1 => repeat (first | exact HR0.out | (with_reducible refine Kd.C_alloc ?_ _) | (with_reducible refine Kd.C_drewN ?_ _) | (with_reducible refine Kd.C_drew ?_))); (case side2 => exact HC0.out); rintro e w' ⟨rfl, ⟨nd, rfl⟩⟩; refine ⟨_, rfl, ?_⟩)); (go_ret); exact ⟨zq5, zq0⟩

end Go.Proofs.Ytmnadajjgnniaaa.MA
end
section
namespace Go.Proofs.Ytmnadajjgnniaaa.MA
open Go.RowKit Go.Proofs.YtmnadajjgnniaaaW.PrintWords Go.Proofs.YtmnadajjgnniaaaW.PrintLast Go.Proofs.YtmnadajjgnniaaaW.PrintMore
attribute [local go_sem] max2_int min2_int max_two min_two max_three min_three max_four min_four

def elem_CheckNode.f (k : Nat) (a0_0 : ByteArray) (l0_1 : List ByteArray) (l0_2 : List (S98)) : Option (Int) := (name_Check.f k a0_0).bind fun t102 => (if t102 = 0 then ((elem_rest.f k l0_1 l0_2).bind fun t103 => (some t103)) else (some t102))
theorem elem_CheckNode.mono : ∀ a0 a1 a2 k, LeO (elem_CheckNode.f k a0 a1 a2) (elem_CheckNode.f (k + 1) a0 a1 a2) := by
  intro a0 a1 a2 k; unfold elem_CheckNode.f
  repeat' first
      | (with_reducible exact elem_rest.mono _ _ _)
      | (with_reducible exact name_Check.mono _ _)
      | (with_reducible exact LeO.refl _)
      | (with_reducible exact LeO.none _)
      | (with_reducible refine LeO.ite ?_ ?_)
      | (with_reducible refine LeO.bind ?_ (fun _ => ?_))
      | exact elem_rest.mono _ _ _
      | exact name_Check.mono _ _
      | exact LeO.none _
      | refine LeO.ite ?_ ?_
      | refine LeO.bind ?_ (fun _ => ?_)
set_option maxHeartbeats 8000000 in
set_option maxRecDepth 100000 in
theorem elem_CheckNode.calls (k : Nat) (a0_0 : ByteArray) (A0_1 : Option Addr) (c0_1 : Nat) (l0_1 : List ByteArray) (A0_2 : Option Addr) (c0_2 : Nat) (l0_2 : List (S98)) (r : Int) (w : World) (hr0_1 : Kd.C Kd.string w A0_1 l0_1.length l0_1) (hc0_1 : l0_1.length ≤ c0_1) (hr0_2 : Kd.C k98 w A0_2 l0_2.length l0_2) (hc0_2 : l0_2.length ≤ c0_2) (h : elem_CheckNode.f k a0_0 l0_1 l0_2 = some r) :
    Calls Try.prog 15 #[.agg #[.string a0_0, .slice A0_1 l0_1.length c0_1, .slice A0_2 l0_2.length c0_2]] w fun e w' => e = .returned (.int .i64 r) ∧ Below w.heap.size w w' := by
  have hu25 := Try.underlying25; have HR0_1 := Aside0.mk hr0_1; have HC0_1 := Aside0.mk hc0_1; clear hr0_1 hc0_1; have HR0_2 := Aside0.mk hr0_2; have HC0_2 := Aside0.mk hc0_2; clear hr0_2 hc0_2; have HB := zm (Below.refl w.heap.size w); have H : ((name_Check.f k a0_0).bind fun t102 => (if t102 = 0 then ((elem_rest.f k l0_1 l0_2).bind fun t103 => (some t103)) else (some t102))) = some r := h; clear h; replace H := Option.bind_eq_some_iff.mp H; obtain ⟨t102, A20, H⟩ := H; replace H : (if t102 = 0 then ((elem_rest.f k l0_1 l0_2).bind fun t103 => (some t103)) else (some t102)) = some r := H; have A2 := Aside0.mk A20; clear A20; by_cases c3 : t102 = 0
  · rw [if_pos c3] at H; have c3b0 : (t102 == 0) = true := beq_iff_eq.mpr c3; have c3b1 : (t102 != 0) = false := bne_eq_false_iff_eq.mpr c3; clear c3; replace H := Option.bind_eq_some_iff.mp H; obtain ⟨t103, A40, H⟩ := H; replace H : (some t103) = some r := H; have A4 := Aside0.mk A40; clear A40; obtain rfl := Option.some.inj H; go_enter Try.func15, Try.ntmps15; go_wp2_with (first | ((with_reducible refine gate_dst (N := 1) rfl ?_); refine box_event ?hg (N := 1) ?hd (cs := #[.string a0_0, .slice A0_1 l0_1.length c0_1, .slice A0_2 l0_2.length c0_2]) (t := 25) ?hr ?_; (case hd => rfl); (case hg => rfl); (case hr => first | (go_simp; done) | (go_simp; rfl)); intro gb101 hg w5 hbox hb; have n0_ := zm (below_step (zq0) hb); have n1_ := zm (hbox); have n2_ := zm ((by rw [hg]; exact (below_size (zq0)) : w.heap.size ≤ gb101)); have n3_ := zm ((by rw [hg]; exact (below_size (zq0)) : w.heap.size ≤ gb101)); clear HB; revert n0_ n1_ n2_ n3_; intro HB BK101 GW101 GE101; clear hb hbox hg; have hcz6_0 : w5.cell? ⟨gb101, 0, none⟩ = some (.string a0_0) := (blk_cell BK101.out 0).trans rfl; have hcz6_1 : w5.cell? ⟨gb101, 1, none⟩ = some (.slice A0_1 l0_1.length c0_1) := (blk_cell BK101.out 1).trans rfl; have hcz6_2 : w5.cell? ⟨gb101, 2, none⟩ = some (.slice A0_2 l0_2.length c0_2) := (blk_cell BK101.out 2).trans rfl; have hfz6_0 := blk_frozen BK101.out 0; have hfz6_1 := blk_frozen BK101.out 1; have hfz6_2 := blk_frozen BK101.out 2) | ((with_reducible refine gate_callee (f := 56) rfl ?_); refine goesL_ (some 6) rfl rfl Try.func56 (by kernel_rfl) rfl #[.string a0_0] rfl (zq2) ?_; (with_reducible refine (name_Check.calls k a0_0 t102 _ A2.out).mono ?_); rintro e w' ⟨rfl, ⟨nd, rfl⟩⟩; refine ⟨_, rfl, ?_⟩) | ((with_reducible refine gate_callee (f := 57) rfl ?_); refine goesL_ (some 14) rfl rfl Try.func57 (by kernel_rfl) rfl #[.slice A0_1 l0_1.length c0_1, .slice A0_2 l0_2.length c0_2] rfl (zq2) ?_; (with_reducible refine (elem_rest.calls k _ _ l0_1 _ _ l0_2 t103 _ ?side1 ?side2 ?side3 ?side4 A4.out).mono ?_); (case side1 => repeat (first | exact (Kd.C_below HR0_1.out (zq1)) | (with_reducible refine Kd.C_alloc ?_ _) | (with_reducible refine Kd.C_drewN ?_ _) | (with_reducible refine Kd.C_drew ?_))); (case side2 => exact HC0_1.out); (case side3 => repeat (first | exact (Kd.C_below HR0_2.out (zq1)) | (with_reducible refine Kd.C_alloc ?_ _) | (with_reducible refine Kd.C_drewN ?_ _) | (with_reducible refine Kd.C_drew ?_))); (case side4 => exact HC0_2.out); rintro e w7 ⟨rfl, hb⟩; refine ⟨_, rfl, ?_⟩; have n0_ := zm (blk_below (g := gb101) (o := .cells #[.string a0_0, .slice A0_1 l0_1.length c0_1, .slice A0_2 l0_2.length c0_2] 25 (0, 0)) (zq3) hb); have n1_ := zm (below_step (zq1) hb); clear BK101 HB; revert n0_ n1_; intro BK101 HB; (try clear hb); (try clear hb2); (try clear hk); (try clear hi))); (go_ret); exact ⟨zq5, zq1⟩
  · rw [if_neg c3] at H; have c3b0 : (t102 == 0) = false := beq_eq_false_iff_ne.mpr c3; have c3b1 : (t102 != 0) = true := bne_iff_ne.mpr c3; obtain rfl := Option.some.inj H; go_enter Try.func15, Try.ntmps15; go_wp2_with (first | ((with_reducible refine gate_dst (N := 1) rfl ?_); refine box_event ?hg (N := 1) ?hd (cs := #[.string a0_0, .slice A0_1 l0_1.length c0_1, .slice A0_2 l0_2.length c0_2]) (t := 25) ?hr ?_; (case hd => rfl); (case hg => rfl); (case hr => first | (go_simp; done) | (go_simp; rfl)); intro gb101 hg w8 hbox hb; have n0_ := zm (below_step (zq0) hb); have n1_ := zm (hbox); have n2_ := zm ((by rw [hg]; exact (below_size (zq0)) : w.heap.size ≤ gb101)); have n3_ := zm ((by rw [hg]; exact (below_size (zq0)) : w.heap.size ≤ gb101)); clear HB; revert n0_ n1_ n2_ n3_; intro HB BK101 GW101 GE101; clear hb hbox hg; have hcz9_0 : w8.cell? ⟨gb101, 0, none⟩ = some (.string a0_0) := (blk_cell BK101.out 0).trans rfl; have hcz9_1 : w8.cell? ⟨gb101, 1, none⟩ = some (.slice A0_1 l0_1.length c0_1) := (blk_cell BK101.out 1).trans rfl; have hcz9_2 : w8.cell? ⟨gb101, 2, none⟩ = some (.slice A0_2 l0_2.length c0_2) := (blk_cell BK101.out 2).trans rfl; have hfz9_0 := blk_frozen BK101.out 0; have hfz9_1 := blk_frozen BK101.out 1; have hfz9_2 := blk_frozen BK101.out 2) | ((with_reducible refine gate_callee (f := 56) rfl ?_); refine goesL_ (some 6) rfl rfl Try.func56 (by kernel_rfl) rfl #[.string a0_0] rfl (zq2) ?_; (with_reducible refine (name_Check.calls k a0_0 t102 _ A2.out).mono ?_); rintro e w' ⟨rfl, ⟨nd, rfl⟩⟩; refine ⟨_, rfl, ?_⟩)); (go_ret); exact ⟨zq5, zq1⟩

end Go.Proofs.Ytmnadajjgnniaaa.MA
end
section
namespace Go.Proofs.Ytmnadajjgnniaaa.MA
open Go.RowKit Go.Proofs.YtmnadajjgnniaaaW.PrintWords Go.Proofs.YtmnadajjgnniaaaW.PrintLast Go.Proofs.YtmnadajjgnniaaaW.PrintMore
attribute [local go_sem] max2_int min2_int max_two min_two max_three min_three max_four min_four

def vput : Nat → Nat → List Int
  | 0, _ => []
  | f + 1, n => if n < 128 then [(n : Int)] else ((n : Int) % 128 + 128) :: vput f (n / 128)
theorem varint_Put.bits_or_128 (m : Nat) : Go.bits BinOp.or IntKind.u8 ((m : Int) % 256) 128 = (m : Int) % 128 + 128 := by
  (have : ∀ j : Nat, j < 256 → Go.bits BinOp.or IntKind.u8 (j : Int) 128 = ((j % 128 + 128 : Nat) : Int) := by decide +kernel); have h := this (m % 256) (by omega); rw [show ((m : Int) % 256) = ((m % 256 : Nat) : Int) by omega, h]; (omega)
def varint_Put.Rel (w : World) (N : Nat) (v i : Value) (wr : World) : Prop :=
  ∃ (k m : Nat) (pre : List Int) (cs : Array Value), k ≤ 9 ∧ i = .int .i64 k ∧ v = .int .u64 m ∧ pre.length = k ∧ pre ++ vput (10 - k) m = vput 10 N ∧ m < 2 ^ (64 - 7 * k) ∧
    (∀ j, j < k → cs[j]? = some (.int .u8 (pre.getD j 0))) ∧ cs.size = 10 ∧ wr.heap[w.heap.size]? = some (.cells cs 157 (0, 0)) ∧ Below w.heap.size w wr
set_option maxHeartbeats 800000 in
set_option maxRecDepth 100000 in
theorem varint_Put.walk (N : Nat) (h1 : N < 18446744073709551616) (w : World) :
    Calls Try.prog 86 #[.int .u64 N] w fun e w' => e = .returned (.string (strOfNums (vput 10 N))) ∧ Below w.heap.size w w' := by
  go_enter Try.func86, Try.ntmps86; (go_wp2); (go_loopw [0, 4] (fun v i wr => varint_Put.Rel w N v i wr) (fun _ i _ => 10 - (intOf i).toNat))
  case atStart => exact ⟨0, N, [], _, by omega, rfl, rfl, rfl, rfl, by simpa using h1, fun j hj => by omega, rfl, by simpa using heap_alloc_new w _, below_alloc (Below.refl _ _) _⟩
  case round =>
    obtain ⟨k, m, pre, cs, hk, rfl, rfl, hl, hp, hm, hc, hs, hb, hB⟩ := hrel; (have hgk : k < cs.size := by omega); have cell := blk_cell hb k; have frz := blk_frozen hb k; rw [Array.getElem?_eq_getElem hgk] at cell; generalize cs[k] = old at cell; have Hl := Aside0.mk hl; have Hp := Aside0.mk hp; have Hm := Aside0.mk hm; have Hc := Aside0.mk hc; have Hs := Aside0.mk hs; have Hb := Aside0.mk hb; have HB := Aside0.mk hB; have H1 := Aside0.mk h1; clear hl hp hm hc hs hb hB h1 hgk
    have hsl : ∀ W : World, (Instr.sliceAt 157 (.pointer (some ⟨w.heap.size, 0, none⟩)) none (some (.int .i64 ((k : Int) + 1))) none).run Try.prog W = .ok (.slice (some ⟨w.heap.size, 0, none⟩) (k + 1) 10) W := by
      intro W; (have ha : Try.prog.arrayLen 157 = 10 := by kernel_rfl); rw [Go.run_sliceAt_array_h W 157 ⟨w.heap.size, 0, none⟩ (by kernel_rfl) .i64 ((k : Int) + 1) (by omega) (by rw [ha]; omega)]; (have hz : (sizeOf (Try.prog.elem 157)).run Try.prog W = .ok 1 W := by kernel_rfl); rw [hz]; simp only [Result.andThen, slicedAt, ha]; rw [if_neg (by decide)]; (have : ((k : Int) + 1).toNat = k + 1 := by omega); rw [this]; (rfl)
    by_cases hlt : m < 128
    · have hcv : (convert 155 9 (.slice (some ⟨w.heap.size, 0, none⟩) (k + 1) 10)).run Try.prog (wr.setCell ⟨w.heap.size, k, none⟩ (.int .u8 m)) = .ok (.string (strOfNums (pre ++ [(m : Int)]))) (wr.setCell ⟨w.heap.size, k, none⟩ (.int .u8 m)) := by
        refine run_convert_bytes_arg _ 155 5 Try.underlying155 Try.underlying5 w.heap.size 0 (k + 1) 10 (pre ++ [(m : Int)]) (by simp [Hl.out]) (fun i hi => ?_) 9 Try.underlying9; rw [Nat.zero_add]; have h2 := blk_cell (blk_set Hb.out k (.int .u8 m)) i; rw [h2]; by_cases hik : i = k
        · subst hik; have hz := Hs.out; have hz2 := Hl.out; rw [Array.getElem?_setIfInBounds_self_of_lt (by omega)]; simp [List.getD_eq_getElem?_getD, ← hz2]
        · rw [Array.getElem?_setIfInBounds_ne (by omega), Hc.out i (by omega)]; have hz2 := Hl.out; simp [List.getD_eq_getElem?_getD, List.getElem?_append_left (show i < pre.length by omega)]
      (go_wp2); (go_ret); refine ⟨?_, below_set HB.out (Nat.le_refl _)⟩
      have hv : vput (10 - k) m = [(m : Int)] := by
        rw [show 10 - k = (9 - k) + 1 by omega, vput, if_pos hlt]
      have hq := Hp.out; rw [hv] at hq; rw [← hq]; (rfl)
    · have hbit : Go.bits BinOp.or IntKind.u8 ((m : Int) % 256) 128 = (m : Int) % 128 + 128 := by
        have h7 := varint_Put.bits_or_128 m; exact h7
      go_wp2
      have hk8 : k ≤ 8 := by
        by_cases h9 : k = 9
        · have h2 := Hm.out; rw [h9] at h2; (omega)
        · omega
      have hstep : m / 128 < 2 ^ (64 - 7 * (k + 1)) := by
        have h2 := Hm.out
        have h3 : 2 ^ (64 - 7 * k) = 128 * 2 ^ (64 - 7 * (k + 1)) := by
          rw [show 64 - 7 * k = 7 + (64 - 7 * (k + 1)) by omega, Nat.pow_add]
        rw [h3] at h2; exact Nat.div_lt_of_lt_mul h2
      refine ⟨⟨k + 1, m / 128, pre ++ [(m : Int) % 128 + 128], _, by omega, by go_num, by go_num, by simp [Hl.out], ?_, hstep, ?_, ?_, blk_set Hb.out k _, below_set HB.out (Nat.le_refl _)⟩, ?_⟩
      · have hq := Hp.out; rw [show 10 - k = (10 - (k + 1)) + 1 by omega, vput, if_neg hlt] at hq; rw [List.append_assoc]; exact hq
      · intro j hj; have hz := Hs.out; have hz2 := Hl.out; by_cases hjk : j = k
        · subst hjk; rw [Array.getElem?_setIfInBounds_self_of_lt (by omega)]; simp [List.getD_eq_getElem?_getD, ← hz2]
        · rw [Array.getElem?_setIfInBounds_ne (by omega), Hc.out j (by omega)]; simp [List.getD_eq_getElem?_getD, List.getElem?_append_left (show j < pre.length by omega)]
      · rw [Array.size_setIfInBounds]; exact Hs.out
      · simp [intOf]; (omega)
def varint_Put.f (a0 : Int) : Option (ByteArray) := if 0 ≤ a0 ∧ a0 < 18446744073709551616 then some (strOfNums (vput 10 a0.toNat)) else none
theorem varint_Put.calls (a0 : Int) (r : ByteArray) (w : World) (h : varint_Put.f a0 = some r) :
    Calls Try.prog 86 #[.int .u64 a0] w fun e w' => e = .returned (.string r) ∧ Below w.heap.size w w' := by
  unfold varint_Put.f at h; (split at h)
  · rename_i hb; obtain rfl := Option.some.inj h; have := varint_Put.walk a0.toNat (by omega) w; rwa [Int.toNat_of_nonneg hb.1] at this
  · exact absurd h (by simp)

end Go.Proofs.Ytmnadajjgnniaaa.MA
end
section
namespace Go.Proofs.Ytmnadajjgnniaaa.MA
open Go.RowKit Go.Proofs.YtmnadajjgnniaaaW.PrintWords Go.Proofs.YtmnadajjgnniaaaW.PrintLast Go.Proofs.YtmnadajjgnniaaaW.PrintMore
attribute [local go_sem] max2_int min2_int max_two min_two max_three min_three max_four min_four

def scan_PutText.f (a0 : ByteArray) : Option (ByteArray) := if a0.size ≤ 9223372036854775807 then ((varint_Put.f (a0.size : Int)).bind fun t101 => (if t101.size + a0.size ≤ 9223372036854775807 then (some (t101 ++ a0)) else (none))) else (none)
set_option maxHeartbeats 8000000 in
set_option maxRecDepth 100000 in
theorem scan_PutText.calls (a0 : ByteArray) (r : ByteArray) (w : World) (h : scan_PutText.f a0 = some r) :
    Calls Try.prog 60 #[.string a0] w fun e w' => e = .returned (.string r) ∧ Below w.heap.size w w' := by
  have HB := zm (Below.refl w.heap.size w); have H : (if a0.size ≤ 9223372036854775807 then ((varint_Put.f (a0.size : Int)).bind fun t101 => (if t101.size + a0.size ≤ 9223372036854775807 then (some (t101 ++ a0)) else (none))) else (none)) = some r := h; clear h; by_cases c2 : a0.size ≤ 9223372036854775807
  · rw [if_pos c2] at H; have c2b0 := eq_true c2; have c2b1 : decide (a0.size ≤ 9223372036854775807) = true := decide_eq_true c2; (try have c2b2 : (9223372036854775807 < a0.size) = False := eq_false (Nat.not_lt.2 c2)); clear c2; replace H := Option.bind_eq_some_iff.mp H; obtain ⟨t101, A30, H⟩ := H; replace H : (if t101.size + a0.size ≤ 9223372036854775807 then (some (t101 ++ a0)) else (none)) = some r := H; have A3 := Aside0.mk A30; clear A30; by_cases c4 : t101.size + a0.size ≤ 9223372036854775807
    · rw [if_pos c4] at H; have c4b0 := eq_true c4; have c4b1 : decide (t101.size + a0.size ≤ 9223372036854775807) = true := decide_eq_true c4; (try have c4b2 : (9223372036854775807 < t101.size + a0.size) = False := eq_false (Nat.not_lt.2 c4)); obtain rfl := Option.some.inj H; go_enter Try.func60, Try.ntmps60; go_wp2_with (first | ((with_reducible refine gate_callee (f := 86) rfl ?_); refine goesL_ (some 6) rfl rfl Try.func86 (by kernel_rfl) rfl #[.int .u64 (a0.size : Int)] rfl (zq2) ?_; (with_reducible refine (varint_Put.calls (a0.size : Int) t101 _ A3.out).mono ?_); rintro e w5 ⟨rfl, hb⟩; refine ⟨_, rfl, ?_⟩; have n0_ := zm (below_step (zq0) hb); clear HB; revert n0_; intro HB; (try clear hb); (try clear hb2); (try clear hk); (try clear hi))); (go_ret); exact ⟨zq5, zq0⟩
    · rw [if_neg c4] at H; exact absurd H (by simp)
  · rw [if_neg c2] at H; exact absurd H (by simp)

end Go.Proofs.Ytmnadajjgnniaaa.MA
end
section
namespace Go.Proofs.Ytmnadajjgnniaaa.MA
open Go.RowKit Go.Proofs.YtmnadajjgnniaaaW.PrintWords Go.Proofs.YtmnadajjgnniaaaW.PrintLast Go.Proofs.YtmnadajjgnniaaaW.PrintMore
attribute [local go_sem] max2_int min2_int max_two min_two max_three min_three max_four min_four

def scan_PutNum.f (a0 : Int) : Option (ByteArray) := (varint_Put.f (IntKind.u64.wrap (mx a0 0))).bind fun t101 => (some t101)
set_option maxHeartbeats 8000000 in
set_option maxRecDepth 100000 in
theorem scan_PutNum.calls (a0 : Int) (r : ByteArray) (w : World) (h : scan_PutNum.f a0 = some r) :
    Calls Try.prog 79 #[.int .i64 a0] w fun e w' => e = .returned (.string r) ∧ Below w.heap.size w w' := by
  have HB := zm (Below.refl w.heap.size w); have H : ((varint_Put.f (IntKind.u64.wrap (mx a0 0))).bind fun t101 => (some t101)) = some r := h; clear h; obtain ⟨ji2, hji2⟩ : ∃ j_ : Int, (mx a0 0) = j_ := ⟨_, rfl⟩; (replace H : ((varint_Put.f (IntKind.u64.wrap (ji2))).bind fun t101 => (some t101)) = some r := by first | (rw [hji2] at H; exact H) | (simp only [hji2] at H ⊢; exact H)); (try (have hji2l : 0 ≤ ji2 := by (rw [← hji2]; unfold mx; (repeat' split) <;> omega))); (try (have hji2m : 0 ≤ ji2 := by omega)); have hji2_ : (if a0 < 0 then 0 else a0) = ji2 := hji2; replace H := Option.bind_eq_some_iff.mp H; obtain ⟨t101, A30, H⟩ := H; replace H : (some t101) = some r := H; have A3 := Aside0.mk A30; clear A30; obtain rfl := Option.some.inj H; go_enter Try.func79, Try.ntmps79; go_wp2_with (first | ((with_reducible refine gate_callee (f := 86) rfl ?_); refine goesL_ (some 6) rfl rfl Try.func86 (by kernel_rfl) rfl #[.int .u64 (IntKind.u64.wrap (ji2))] rfl (by (try simp only [List.map_toArray, List.map_cons, List.map_nil]); first | done | (simp only [hji2]; rfl) | rfl | (simp only [List.length_drop, List.length_take]; rfl)) ?_; (with_reducible refine (varint_Put.calls (IntKind.u64.wrap (ji2)) t101 _ A3.out).mono ?_); rintro e w4 ⟨rfl, hb⟩; refine ⟨_, rfl, ?_⟩; have n0_ := zm (below_step (zq0) hb); clear HB; revert n0_; intro HB; (try clear hb); (try clear hb2); (try clear hk); (try clear hi))); (go_ret); exact ⟨by first | rfl | (simp [errW_none, errW_some] <;> rfl) | (simp only [← hji2]; first | rfl | (simp [errW_none, errW_some] <;> rfl)) | (simp [*, errW_none, errW_some] <;> rfl), zq0⟩

end Go.Proofs.Ytmnadajjgnniaaa.MA
end
section
namespace Go.Proofs.Ytmnadajjgnniaaa.MA
open Go.RowKit Go.Proofs.YtmnadajjgnniaaaW.PrintWords Go.Proofs.YtmnadajjgnniaaaW.PrintLast Go.Proofs.YtmnadajjgnniaaaW.PrintMore
attribute [local go_sem] max2_int min2_int max_two min_two max_three min_three max_four min_four

def varint_Zig.f (a0 : Int) : Option (Int) := some (Go.bits .xor .u64 (IntKind.u64.wrap ((IntKind.u64.wrap (a0)) * 2)) (IntKind.u64.wrap (a0 / 9223372036854775808)))
set_option maxHeartbeats 8000000 in
set_option maxRecDepth 100000 in
theorem varint_Zig.calls (a0 : Int) (r : Int) (w : World) (h : varint_Zig.f a0 = some r) :
    Calls Try.prog 134 #[.int .i64 a0] w fun e w' => e = .returned (.int .u64 r) ∧ Drawn0 w w' := by
  have H : (some (Go.bits .xor .u64 (IntKind.u64.wrap ((IntKind.u64.wrap (a0)) * 2)) (IntKind.u64.wrap (a0 / 9223372036854775808)))) = some r := h; clear h; obtain rfl := Option.some.inj H; go_enter Try.func134, Try.ntmps134; (go_wp2); (go_ret); exact ⟨zq11, zq16⟩

end Go.Proofs.Ytmnadajjgnniaaa.MA
end
section
namespace Go.Proofs.Ytmnadajjgnniaaa.MA
open Go.RowKit Go.Proofs.YtmnadajjgnniaaaW.PrintWords Go.Proofs.YtmnadajjgnniaaaW.PrintLast Go.Proofs.YtmnadajjgnniaaaW.PrintMore
attribute [local go_sem] max2_int min2_int max_two min_two max_three min_three max_four min_four

def varint_Int.f (a0 : Int) : Option (ByteArray) := (varint_Zig.f a0).bind fun t101 => ((varint_Put.f t101).bind fun t102 => (some t102))
set_option maxHeartbeats 8000000 in
set_option maxRecDepth 100000 in
theorem varint_Int.calls (a0 : Int) (r : ByteArray) (w : World) (h : varint_Int.f a0 = some r) :
    Calls Try.prog 123 #[.int .i64 a0] w fun e w' => e = .returned (.string r) ∧ Below w.heap.size w w' := by
  have HB := zm (Below.refl w.heap.size w); have H : ((varint_Zig.f a0).bind fun t101 => ((varint_Put.f t101).bind fun t102 => (some t102))) = some r := h; clear h; replace H := Option.bind_eq_some_iff.mp H; obtain ⟨t101, A20, H⟩ := H; replace H : ((varint_Put.f t101).bind fun t102 => (some t102)) = some r := H; have A2 := Aside0.mk A20; clear A20; replace H := Option.bind_eq_some_iff.mp H; obtain ⟨t102, A30, H⟩ := H; replace H : (some t102) = some r := H; have A3 := Aside0.mk A30; clear A30; obtain rfl := Option.some.inj H; go_enter Try.func123, Try.ntmps123; go_wp2_with (first | ((with_reducible refine gate_callee (f := 134) rfl ?_); refine goesL_ (some 4) rfl rfl Try.func134 (by kernel_rfl) rfl #[.int .i64 a0] rfl (zq2) ?_; (with_reducible refine (varint_Zig.calls a0 t101 _ A2.out).mono ?_); rintro e w' ⟨rfl, ⟨nd, rfl⟩⟩; refine ⟨_, rfl, ?_⟩) | ((with_reducible refine gate_callee (f := 86) rfl ?_); refine goesL_ (some 5) rfl rfl Try.func86 (by kernel_rfl) rfl #[.int .u64 t101] rfl (zq2) ?_; (with_reducible refine (varint_Put.calls t101 t102 _ A3.out).mono ?_); rintro e w4 ⟨rfl, hb⟩; refine ⟨_, rfl, ?_⟩; have n0_ := zm (below_step (zq0) hb); clear HB; revert n0_; intro HB; (try clear hb); (try clear hb2); (try clear hk); (try clear hi))); (go_ret); exact ⟨zq5, zq0⟩

end Go.Proofs.Ytmnadajjgnniaaa.MA
end
section
namespace Go.Proofs.Ytmnadajjgnniaaa.MA
open Go.RowKit Go.Proofs.YtmnadajjgnniaaaW.PrintWords Go.Proofs.YtmnadajjgnniaaaW.PrintLast Go.Proofs.YtmnadajjgnniaaaW.PrintMore
attribute [local go_sem] max2_int min2_int max_two min_two max_three min_three max_four min_four

def scan_PutInt.f (a0 : Int) : Option (ByteArray) := (varint_Int.f a0).bind fun t101 => (some t101)
set_option maxHeartbeats 8000000 in
set_option maxRecDepth 100000 in
theorem scan_PutInt.calls (a0 : Int) (r : ByteArray) (w : World) (h : scan_PutInt.f a0 = some r) :
    Calls Try.prog 106 #[.int .i64 a0] w fun e w' => e = .returned (.string r) ∧ Below w.heap.size w w' := by
  have HB := zm (Below.refl w.heap.size w); have H : ((varint_Int.f a0).bind fun t101 => (some t101)) = some r := h; clear h; replace H := Option.bind_eq_some_iff.mp H; obtain ⟨t101, A20, H⟩ := H; replace H : (some t101) = some r := H; have A2 := Aside0.mk A20; clear A20; obtain rfl := Option.some.inj H; go_enter Try.func106, Try.ntmps106; go_wp2_with (first | ((with_reducible refine gate_callee (f := 123) rfl ?_); refine goesL_ (some 4) rfl rfl Try.func123 (by kernel_rfl) rfl #[.int .i64 a0] rfl (zq2) ?_; (with_reducible refine (varint_Int.calls a0 t101 _ A2.out).mono ?_); rintro e w3 ⟨rfl, hb⟩; refine ⟨_, rfl, ?_⟩; have n0_ := zm (below_step (zq0) hb); clear HB; revert n0_; intro HB; (try clear hb); (try clear hb2); (try clear hk); (try clear hi))); (go_ret); exact ⟨zq5, zq0⟩

end Go.Proofs.Ytmnadajjgnniaaa.MA
end
section
namespace Go.Proofs.Ytmnadajjgnniaaa.MA
open Go.RowKit Go.Proofs.YtmnadajjgnniaaaW.PrintWords Go.Proofs.YtmnadajjgnniaaaW.PrintLast Go.Proofs.YtmnadajjgnniaaaW.PrintMore
attribute [local go_sem] max2_int min2_int max_two min_two max_three min_three max_four min_four

set_option maxRecDepth 100000 in
theorem zl38x0 {P : Prop} (h : P := by go_enter Try.func80, Try.ntmps80; go_wp2_with (first | ((with_reducible refine gate_dst (N := 1) rfl ?_); refine box_event ?hg (N := 1) ?hd (cs := #[.int .i64 a0_0, .int .i64 a0_1, .string a0_2]) (t := 80) ?hr ?_; (case hd => rfl); (case hg => rfl); (case hr => first | (go_simp; done) | (go_simp; rfl)); intro gb101 hg w3001 hbox hb; have n0_ := zm (below_step (zq0) hb); have n1_ := zm (hbox); have n2_ := zm ((by rw [hg]; exact (below_size (zq0)) : w.heap.size ≤ gb101)); have n3_ := zm ((by rw [hg]; exact (below_size (zq0)) : w.heap.size ≤ gb101)); clear HB; revert n0_ n1_ n2_ n3_; intro HB BK101 GW101 GE101; clear hb hbox hg; have hcz3002_0 : w3001.cell? ⟨gb101, 0, none⟩ = some (.int .i64 a0_0) := (blk_cell BK101.out 0).trans rfl; have hcz3002_1 : w3001.cell? ⟨gb101, 1, none⟩ = some (.int .i64 a0_1) := (blk_cell BK101.out 1).trans rfl; have hcz3002_2 : w3001.cell? ⟨gb101, 2, none⟩ = some (.string a0_2) := (blk_cell BK101.out 2).trans rfl; have hfz3002_0 := blk_frozen BK101.out 0; have hfz3002_1 := blk_frozen BK101.out 1; have hfz3002_2 := blk_frozen BK101.out 2) | ((with_reducible refine gate_callee (f := 58) rfl ?_); refine goesL_ (some 7) rfl rfl Try.func58 (by kernel_rfl) rfl #[.agg #[.int .i64 a0_0, .int .i64 a0_1, .string a0_2]] rfl (zq2) ?_; (with_reducible refine (value_Check.calls a0_0 a0_1 a0_2 t102 _ A2.out).mono ?_); rintro e w3003 ⟨rfl, hb⟩; refine ⟨_, rfl, ?_⟩; have n0_ := zm (blk_below (g := gb101) (o := .cells #[.int .i64 a0_0, .int .i64 a0_1, .string a0_2] 80 (0, 0)) (zq3) hb); have n1_ := zm (below_step (zq1) hb); clear BK101 HB; revert n0_ n1_; intro BK101 HB; (try clear hb); (try clear hb2); (try clear hk); (try clear hi); have hcz3004_0 : w3003.cell? ⟨gb101, 0, none⟩ = some (.int .i64 a0_0) := (blk_cell BK101.out 0).trans rfl; have hcz3004_1 : w3003.cell? ⟨gb101, 1, none⟩ = some (.int .i64 a0_1) := (blk_cell BK101.out 1).trans rfl; have hcz3004_2 : w3003.cell? ⟨gb101, 2, none⟩ = some (.string a0_2) := (blk_cell BK101.out 2).trans rfl; have hfz3004_0 := blk_frozen BK101.out 0; have hfz3004_1 := blk_frozen BK101.out 1; have hfz3004_2 := blk_frozen BK101.out 2) | ((with_reducible refine gate_callee (f := 58) rfl ?_); refine goesL_ (some 7) rfl rfl Try.func58 (by kernel_rfl) rfl #[.agg #[.int .i64 a0_0, .int .i64 a0_1, .string a0_2]] rfl (zq2) ?_; (with_reducible refine (value_Check.calls a0_0 a0_1 a0_2 t102 _ A2.out).mono ?_); rintro e w3003 ⟨rfl, hb⟩; refine ⟨_, rfl, ?_⟩; have n0_ := zm (blk_below (g := gb101) (o := .cells #[.int .i64 a0_0, .int .i64 a0_1, .string a0_2] 80 (0, 0)) (zq3) hb); have n1_ := zm (below_step (zq1) hb); clear BK101 HB; revert n0_ n1_; intro BK101 HB; (try clear hb); (try clear hb2); (try clear hk); (try clear hi)) | ((with_reducible refine gate_dst (N := 14) rfl ?_); refine Kd.R_lit (Kd.int .u8) _ 5 ?hg (N := 14) ?hd (xs := ([(a0_0) % 256] : List Int)) (inner := [.int .u8 ((a0_0) % 256)]) (ok := fun _ => True) (okp := fun _ => True) ?hr ?hp (fun _ hk => hk) trivial (Below.refl _ _) (Nat.le_refl _) (by simp) ?_; (case hd => rfl); (case hg => rfl); (case hr => first | (go_simp; done) | (go_simp; rfl)); (case hp => exact (Reps.one (show Kd.M (Kd.int .u8) _ _ _ ((a0_0) % 256) [.int .u8 ((a0_0) % 256)] from rfl) (Reps.none _ _))); intro v104 w3005 ho11 hb hg_ hnew_; clear hg_ hnew_; (first | rw [← Ny103.out] at ho11 | (simp only [Int.reduceToNat] at ho11; rw [← Ny103.out] at ho11)); have n0_ := zm (Kd.R_lower ho11 (below_size (zq1))); have n1_ := zm (blk_below (g := gb101) (o := .cells #[.int .i64 a0_0, .int .i64 a0_1, .string a0_2] 80 (0, 0)) (zq3) hb); have n2_ := zm (below_step (zq1) hb); clear BK101 HB; revert n0_ n1_ n2_; intro HO105 BK101 HB; clear hb ho11; have hcv3006 := own_string (P := Try.prog) Try.underlying155 Try.underlying5 Try.underlying9 (Kd.own_of_R HO105.out); have hcz3007_0 : w3005.cell? ⟨gb101, 0, none⟩ = some (.int .i64 a0_0) := (blk_cell BK101.out 0).trans rfl; have hcz3007_1 : w3005.cell? ⟨gb101, 1, none⟩ = some (.int .i64 a0_1) := (blk_cell BK101.out 1).trans rfl; have hcz3007_2 : w3005.cell? ⟨gb101, 2, none⟩ = some (.string a0_2) := (blk_cell BK101.out 2).trans rfl; have hfz3007_0 := blk_frozen BK101.out 0; have hfz3007_1 := blk_frozen BK101.out 1; have hfz3007_2 := blk_frozen BK101.out 2) | ((with_reducible refine gate_dst (N := 14) rfl ?_); refine Kd.R_lit (Kd.int .u8) _ 5 ?hg (N := 14) ?hd (xs := ([(a0_0) % 256] : List Int)) (inner := [.int .u8 ((a0_0) % 256)]) (ok := fun _ => True) (okp := fun _ => True) ?hr ?hp (fun _ hk => hk) trivial (Below.refl _ _) (Nat.le_refl _) (by simp) ?_; (case hd => rfl); (case hg => rfl); (case hr => first | (go_simp; done) | (go_simp; rfl)); (case hp => exact (Reps.one (show Kd.M (Kd.int .u8) _ _ _ ((a0_0) % 256) [.int .u8 ((a0_0) % 256)] from rfl) (Reps.none _ _))); intro v104 w3005 ho25 hb hg_ hnew_; clear hg_ hnew_; (first | rw [← Ny103.out] at ho25 | (simp only [Int.reduceToNat] at ho25; rw [← Ny103.out] at ho25)); have n0_ := zm (Kd.R_lower ho25 (below_size (zq1))); have n1_ := zm (blk_below (g := gb101) (o := .cells #[.int .i64 a0_0, .int .i64 a0_1, .string a0_2] 80 (0, 0)) (zq3) hb); have n2_ := zm (below_step (zq1) hb); clear BK101 HB; revert n0_ n1_ n2_; intro HO105 BK101 HB; clear hb ho25; have hcv3006 := own_string (P := Try.prog) Try.underlying155 Try.underlying5 Try.underlying9 (Kd.own_of_R HO105.out); have hcz3007_0 : w3005.cell? ⟨gb101, 0, none⟩ = some (.int .i64 a0_0) := (blk_cell BK101.out 0).trans rfl; have hcz3007_1 : w3005.cell? ⟨gb101, 1, none⟩ = some (.int .i64 a0_1) := (blk_cell BK101.out 1).trans rfl; have hcz3007_2 : w3005.cell? ⟨gb101, 2, none⟩ = some (.string a0_2) := (blk_cell BK101.out 2).trans rfl; have hfz3007_0 := blk_frozen BK101.out 0; have hfz3007_1 := blk_frozen BK101.out 1; have hfz3007_2 := blk_frozen BK101.out 2) | ((with_reducible refine gate_dst (N := 14) rfl ?_); refine Kd.R_lit (Kd.int .u8) _ 5 ?hg (N := 14) ?hd (xs := ([(a0_0) % 256] : List Int)) (inner := [.int .u8 ((a0_0) % 256)]) (ok := fun _ => True) (okp := fun _ => True) ?hr ?hp (fun _ hk => hk) trivial (Below.refl _ _) (Nat.le_refl _) (by simp) ?_; (case hd => rfl); (case hg => rfl); (case hr => first | (go_simp; done) | (go_simp; rfl)); (case hp => exact (Reps.one (show Kd.M (Kd.int .u8) _ _ _ ((a0_0) % 256) [.int .u8 ((a0_0) % 256)] from rfl) (Reps.none _ _))); intro v104 w3005 ho36 hb hg_ hnew_; clear hg_ hnew_; (first | rw [← Ny103.out] at ho36 | (simp only [Int.reduceToNat] at ho36; rw [← Ny103.out] at ho36)); have n0_ := zm (Kd.R_lower ho36 (below_size (zq1))); have n1_ := zm (blk_below (g := gb101) (o := .cells #[.int .i64 a0_0, .int .i64 a0_1, .string a0_2] 80 (0, 0)) (zq3) hb); have n2_ := zm (below_step (zq1) hb); clear BK101 HB; revert n0_ n1_ n2_; intro HO105 BK101 HB; clear hb ho36; have hcv3006 := own_string (P := Try.prog) Try.underlying155 Try.underlying5 Try.underlying9 (Kd.own_of_R HO105.out); have hcz3007_0 : w3005.cell? ⟨gb101, 0, none⟩ = some (.int .i64 a0_0) := (blk_cell BK101.out 0).trans rfl; have hcz3007_1 : w3005.cell? ⟨gb101, 1, none⟩ = some (.int .i64 a0_1) := (blk_cell BK101.out 1).trans rfl; have hcz3007_2 : w3005.cell? ⟨gb101, 2, none⟩ = some (.string a0_2) := (blk_cell BK101.out 2).trans rfl; have hfz3007_0 := blk_frozen BK101.out 0; have hfz3007_1 := blk_frozen BK101.out 1; have hfz3007_2 := blk_frozen BK101.out 2) | ((with_reducible refine gate_dst (N := 24) rfl ?_); refine Kd.R_lit (Kd.int .u8) _ 5 ?hg (N := 24) ?hd (xs := ([(a0_1) % 256] : List Int)) (inner := [.int .u8 ((a0_1) % 256)]) (ok := fun _ => True) (okp := fun _ => True) ?hr ?hp (fun _ hk => hk) trivial (Below.refl _ _) (Nat.le_refl _) (by simp) ?_; (case hd => rfl); (case hg => rfl); (case hr => first | (go_simp; done) | (go_simp; rfl)); (case hp => exact (Reps.one (show Kd.M (Kd.int .u8) _ _ _ ((a0_1) % 256) [.int .u8 ((a0_1) % 256)] from rfl) (Reps.none _ _))); intro v107 w3008 ho15 hb hg_ hnew_; clear hg_ hnew_; (first | rw [← Ny106.out] at ho15 | (simp only [Int.reduceToNat] at ho15; rw [← Ny106.out] at ho15)); have n0_ := zm (Kd.R_elder' (zq49) (Kd.R_base ho15) hb); have n1_ := zm (Kd.R_lower (Kd.R_new' ho15 (Kd.R_lt (zq49))) (below_size (zq1))); have n2_ := zm (blk_below (g := gb101) (o := .cells #[.int .i64 a0_0, .int .i64 a0_1, .string a0_2] 80 (0, 0)) (zq3) hb); have n3_ := zm (below_step (zq1) hb); clear HO105 BK101 HB; revert n0_ n1_ n2_ n3_; intro HO105 HO108 BK101 HB; clear hb ho15; have hcv3009 := own_string (P := Try.prog) Try.underlying155 Try.underlying5 Try.underlying9 (Kd.own_of_R HO108.out)) | ((with_reducible refine gate_callee (f := 106) rfl ?_); refine goesL_ (some 32) rfl rfl Try.func106 (by kernel_rfl) rfl #[.int .i64 a0_1] rfl (zq2) ?_; (with_reducible refine (scan_PutInt.calls a0_1 t109 _ A18.out).mono ?_); rintro e w3008 ⟨rfl, hb⟩; refine ⟨_, rfl, ?_⟩; have n0_ := zm (Kd.R_below (zq49) hb); have n1_ := zm (blk_below (g := gb101) (o := .cells #[.int .i64 a0_0, .int .i64 a0_1, .string a0_2] 80 (0, 0)) (zq3) hb); have n2_ := zm (below_step (zq1) hb); clear HO105 BK101 HB; revert n0_ n1_ n2_; intro HO105 BK101 HB; (try clear hb); (try clear hb2); (try clear hk); (try clear hi)) | ((with_reducible refine gate_callee (f := 60) rfl ?_); refine goesL_ (some 37) rfl rfl Try.func60 (by kernel_rfl) rfl #[.string a0_2] rfl (zq2) ?_; (with_reducible refine (scan_PutText.calls a0_2 t110 _ A29.out).mono ?_); rintro e w3008 ⟨rfl, hb⟩; refine ⟨_, rfl, ?_⟩; have n0_ := zm (Kd.R_below (zq49) hb); have n1_ := zm (blk_below (g := gb101) (o := .cells #[.int .i64 a0_0, .int .i64 a0_1, .string a0_2] 80 (0, 0)) (zq3) hb); have n2_ := zm (below_step (zq1) hb); clear HO105 BK101 HB; revert n0_ n1_ n2_; intro HO105 BK101 HB; (try clear hb); (try clear hb2); (try clear hk); (try clear hi))); (first | (go_ret2; exact ⟨zq5, zq1⟩))) : P := h
def value_Put.f (a0_0 : Int) (a0_1 : Int) (a0_2 : ByteArray) : Option (ByteArray × Int) := (value_Check.f a0_0 a0_1 a0_2).bind fun t102 => (if t102 = 0 then ((some (([(a0_0) % 256] : List Int) : List Int)).bind fun y103 => (if a0_0 = 1 then ((some (([(a0_1) % 256] : List Int) : List Int)).bind fun y106 => (if (strOfNums y103).size + (strOfNums y106).size ≤ 9223372036854775807 then (some ((strOfNums y103) ++ (strOfNums y106), 0)) else (none))) else (if a0_0 = 2 then ((scan_PutInt.f a0_1).bind fun t109 => (if (strOfNums y103).size + t109.size ≤ 9223372036854775807 then (some ((strOfNums y103) ++ t109, 0)) else (none))) else ((scan_PutText.f a0_2).bind fun t110 => (if (strOfNums y103).size + t110.size ≤ 9223372036854775807 then (some ((strOfNums y103) ++ t110, 0)) else (none)))))) else (some ((⟨#[]⟩ : ByteArray), t102)))
set_option maxHeartbeats 8000000 in
set_option maxRecDepth 100000 in
theorem value_Put.calls (a0_0 : Int) (a0_1 : Int) (a0_2 : ByteArray) (r1 : ByteArray) (r2 : Int) (w : World) (h : value_Put.f a0_0 a0_1 a0_2 = some (r1, r2)) :
    Calls Try.prog 80 #[.agg #[.int .i64 a0_0, .int .i64 a0_1, .string a0_2]] w fun e w' => e = .returned (.tuple #[.string r1, .int .i64 r2]) ∧ Below w.heap.size w w' := by
  have hu80 := Try.underlying80; have HB := zm (Below.refl w.heap.size w); have H : ((value_Check.f a0_0 a0_1 a0_2).bind fun t102 => (if t102 = 0 then ((some (([(a0_0) % 256] : List Int) : List Int)).bind fun y103 => (if a0_0 = 1 then ((some (([(a0_1) % 256] : List Int) : List Int)).bind fun y106 => (if (strOfNums y103).size + (strOfNums y106).size ≤ 9223372036854775807 then (some ((strOfNums y103) ++ (strOfNums y106), 0)) else (none))) else (if a0_0 = 2 then ((scan_PutInt.f a0_1).bind fun t109 => (if (strOfNums y103).size + t109.size ≤ 9223372036854775807 then (some ((strOfNums y103) ++ t109, 0)) else (none))) else ((scan_PutText.f a0_2).bind fun t110 => (if (strOfNums y103).size + t110.size ≤ 9223372036854775807 then (some ((strOfNums y103) ++ t110, 0)) else (none)))))) else (some ((⟨#[]⟩ : ByteArray), t102)))) = some (r1, r2) := h; clear h; replace H := Option.bind_eq_some_iff.mp H; obtain ⟨t102, A20, H⟩ := H; replace H : (if t102 = 0 then ((some (([(a0_0) % 256] : List Int) : List Int)).bind fun y103 => (if a0_0 = 1 then ((some (([(a0_1) % 256] : List Int) : List Int)).bind fun y106 => (if (strOfNums y103).size + (strOfNums y106).size ≤ 9223372036854775807 then (some ((strOfNums y103) ++ (strOfNums y106), 0)) else (none))) else (if a0_0 = 2 then ((scan_PutInt.f a0_1).bind fun t109 => (if (strOfNums y103).size + t109.size ≤ 9223372036854775807 then (some ((strOfNums y103) ++ t109, 0)) else (none))) else ((scan_PutText.f a0_2).bind fun t110 => (if (strOfNums y103).size + t110.size ≤ 9223372036854775807 then (some ((strOfNums y103) ++ t110, 0)) else (none)))))) else (some ((⟨#[]⟩ : ByteArray), t102))) = some (r1, r2) := H; have A2 := Aside0.mk A20; clear A20; by_cases c3 : t102 = 0
  · rw [if_pos c3] at H; have c3b0 : (t102 == 0) = true := beq_iff_eq.mpr c3; have c3b1 : (t102 != 0) = false := bne_eq_false_iff_eq.mpr c3; clear c3; obtain ⟨y103, hy103⟩ : ∃ y_ : List Int, y_ = (([(a0_0) % 256] : List Int)) := ⟨_, rfl⟩; (replace H : (if a0_0 = 1 then ((some (([(a0_1) % 256] : List Int) : List Int)).bind fun y106 => (if (strOfNums y103).size + (strOfNums y106).size ≤ 9223372036854775807 then (some ((strOfNums y103) ++ (strOfNums y106), 0)) else (none))) else (if a0_0 = 2 then ((scan_PutInt.f a0_1).bind fun t109 => (if (strOfNums y103).size + t109.size ≤ 9223372036854775807 then (some ((strOfNums y103) ++ t109, 0)) else (none))) else ((scan_PutText.f a0_2).bind fun t110 => (if (strOfNums y103).size + t110.size ≤ 9223372036854775807 then (some ((strOfNums y103) ++ t110, 0)) else (none))))) = some (r1, r2) := by first | (rw [hy103]; with_reducible exact H) | (have H2_ := (Option.bind_some _ _).symm.trans H; rw [hy103]; with_reducible exact H2_) | (have H2_ := (Option.bind_some _ _).symm.trans H; with_reducible exact H2_) | with_reducible exact H | (rw [hy103]; exact H) | exact H); have Ny103 := Aside0.mk hy103; clear hy103; by_cases c4 : a0_0 = 1
    · rw [if_pos c4] at H; have c4b0 : (a0_0 == 1) = true := beq_iff_eq.mpr c4; have c4b1 : (a0_0 != 1) = false := bne_eq_false_iff_eq.mpr c4; clear c4; obtain ⟨y106, hy106⟩ : ∃ y_ : List Int, y_ = (([(a0_1) % 256] : List Int)) := ⟨_, rfl⟩; (replace H : (if (strOfNums y103).size + (strOfNums y106).size ≤ 9223372036854775807 then (some ((strOfNums y103) ++ (strOfNums y106), 0)) else (none)) = some (r1, r2) := by first | (rw [hy106]; with_reducible exact H) | (have H2_ := (Option.bind_some _ _).symm.trans H; rw [hy106]; with_reducible exact H2_) | (have H2_ := (Option.bind_some _ _).symm.trans H; with_reducible exact H2_) | with_reducible exact H | (rw [hy106]; exact H) | exact H); have Ny106 := Aside0.mk hy106; clear hy106; by_cases c5 : (strOfNums y103).size + (strOfNums y106).size ≤ 9223372036854775807
      · rw [if_pos c5] at H; have c5b0 := eq_true c5; have c5b1 : decide ((strOfNums y103).size + (strOfNums y106).size ≤ 9223372036854775807) = true := decide_eq_true c5; (try have c5b2 : (9223372036854775807 < (strOfNums y103).size + (strOfNums y106).size) = False := eq_false (Nat.not_lt.2 c5)); simp only [Option.some.injEq, Prod.mk.injEq] at H; obtain ⟨rfl, rfl⟩ := H; exact zl38x0
      · rw [if_neg c5] at H; exact absurd H (by simp)
    · rw [if_neg c4] at H; have c4b0 : (a0_0 == 1) = false := beq_eq_false_iff_ne.mpr c4; have c4b1 : (a0_0 != 1) = true := bne_iff_ne.mpr c4; by_cases c17 : a0_0 = 2
      · rw [if_pos c17] at H; have c17b0 : (a0_0 == 2) = true := beq_iff_eq.mpr c17; have c17b1 : (a0_0 != 2) = false := bne_eq_false_iff_eq.mpr c17; clear c17; replace H := Option.bind_eq_some_iff.mp H; obtain ⟨t109, A180, H⟩ := H; replace H : (if (strOfNums y103).size + t109.size ≤ 9223372036854775807 then (some ((strOfNums y103) ++ t109, 0)) else (none)) = some (r1, r2) := H; have A18 := Aside0.mk A180; clear A180; by_cases c19 : (strOfNums y103).size + t109.size ≤ 9223372036854775807
        · rw [if_pos c19] at H; have c19b0 := eq_true c19; have c19b1 : decide ((strOfNums y103).size + t109.size ≤ 9223372036854775807) = true := decide_eq_true c19; (try have c19b2 : (9223372036854775807 < (strOfNums y103).size + t109.size) = False := eq_false (Nat.not_lt.2 c19)); simp only [Option.some.injEq, Prod.mk.injEq] at H; obtain ⟨rfl, rfl⟩ := H; exact zl38x0
        · rw [if_neg c19] at H; exact absurd H (by simp)
      · rw [if_neg c17] at H; have c17b0 : (a0_0 == 2) = false := beq_eq_false_iff_ne.mpr c17; have c17b1 : (a0_0 != 2) = true := bne_iff_ne.mpr c17; replace H := Option.bind_eq_some_iff.mp H; obtain ⟨t110, A290, H⟩ := H; replace H : (if (strOfNums y103).size + t110.size ≤ 9223372036854775807 then (some ((strOfNums y103) ++ t110, 0)) else (none)) = some (r1, r2) := H; have A29 := Aside0.mk A290; clear A290; by_cases c30 : (strOfNums y103).size + t110.size ≤ 9223372036854775807
        · rw [if_pos c30] at H; have c30b0 := eq_true c30; have c30b1 : decide ((strOfNums y103).size + t110.size ≤ 9223372036854775807) = true := decide_eq_true c30; (try have c30b2 : (9223372036854775807 < (strOfNums y103).size + t110.size) = False := eq_false (Nat.not_lt.2 c30)); simp only [Option.some.injEq, Prod.mk.injEq] at H; obtain ⟨rfl, rfl⟩ := H; exact zl38x0
        · rw [if_neg c30] at H; exact absurd H (by simp)
  · rw [if_neg c3] at H; have c3b0 : (t102 == 0) = false := beq_eq_false_iff_ne.mpr c3; have c3b1 : (t102 != 0) = true := bne_iff_ne.mpr c3; simp only [Option.some.injEq, Prod.mk.injEq] at H; obtain ⟨rfl, rfl⟩ := H; exact zl38x0

end Go.Proofs.Ytmnadajjgnniaaa.MA
end
section
namespace Go.Proofs.Ytmnadajjgnniaaa.MA
open Go.RowKit Go.Proofs.YtmnadajjgnniaaaW.PrintWords Go.Proofs.YtmnadajjgnniaaaW.PrintLast Go.Proofs.YtmnadajjgnniaaaW.PrintMore
attribute [local go_sem] max2_int min2_int max_two min_two max_three min_three max_four min_four

mutual
def elem_put.l0 : Nat → List (S98) → ByteArray → List ByteArray → Int → Int → Option (ByteArray)
  | 0, _, _, _, _, _ => none
  | k + 1, x1, x5, x15, x16, x17 => if x17 < x16 then (if 0 ≤ x17 then (if x17 < (x15.length : Int) then ((scan_PutText.f (rdOf ByteArray.empty x15 x17)).bind fun t103 => (if x5.size + t103.size ≤ 9223372036854775807 then (elem_put.l0 k x1 (x5 ++ t103) x15 x16 (wrap64 (x17 + 1))) else (none))) else (none)) else (none)) else ((scan_PutNum.f (x1.length : Int)).bind fun t104 => (if x5.size + t104.size ≤ 9223372036854775807 then (elem_put.l1 k (x5 ++ t104) x1 (x1.length : Int) 0) else (none)))
def elem_put.l1 : Nat → ByteArray → List (S98) → Int → Int → Option (ByteArray)
  | 0, _, _, _, _ => none
  | k + 1, x5, x31, x32, x33 => if x33 < x32 then (if 0 ≤ x33 then (if x33 < (x31.length : Int) then ((value_Put.f ((rd_T98 x31 x33).f1.f0) ((rd_T98 x31 x33).f1.f1) ((rd_T98 x31 x33).f1.f2)).bind fun bt107 => ((scan_PutText.f ((rd_T98 x31 x33).f0)).bind fun t109 => (if t109.size + bt107.1.size ≤ 9223372036854775807 then (if x5.size + t109.size + bt107.1.size ≤ 9223372036854775807 then (elem_put.l1 k (x5 ++ (t109 ++ bt107.1)) x31 x32 (wrap64 (x33 + 1))) else (none)) else (none)))) else (none)) else (none)) else (some x5)
end
def elem_put.f (k : Nat) (l0 : List ByteArray) (l1 : List (S98)) : Option (ByteArray) := (scan_PutNum.f (l0.length : Int)).bind fun t101 => (elem_put.l0 k l1 t101 l0 (l0.length : Int) 0)
theorem elem_put.mono_l : ∀ k, (∀ y0 y1 y2 y3 y4, LeO (elem_put.l0 k y0 y1 y2 y3 y4) (elem_put.l0 (k + 1) y0 y1 y2 y3 y4)) ∧ (∀ y0 y1 y2 y3, LeO (elem_put.l1 k y0 y1 y2 y3) (elem_put.l1 (k + 1) y0 y1 y2 y3))
  | 0 => ⟨fun _ _ _ _ _ r h => by simp [elem_put.l0] at h, fun _ _ _ _ r h => by simp [elem_put.l1] at h⟩
  | k + 1 => by
    obtain ⟨ih0, ih1⟩ := elem_put.mono_l k; refine ⟨?_, ?_⟩
    · intro y0 y1 y2 y3 y4; unfold elem_put.l0
      repeat' first
      | (with_reducible exact ih0 _ _ _ _ _)
      | (with_reducible exact ih1 _ _ _ _)
      | (with_reducible exact LeO.refl _)
      | (with_reducible exact LeO.none _)
      | (with_reducible refine LeO.ite ?_ ?_)
      | (with_reducible refine LeO.bind ?_ (fun _ => ?_))
      | exact ih0 _ _ _ _ _
      | exact ih1 _ _ _ _
      | exact LeO.none _
      | refine LeO.ite ?_ ?_
      | refine LeO.bind ?_ (fun _ => ?_)
    · intro y0 y1 y2 y3; unfold elem_put.l1
      repeat' first
      | (with_reducible exact ih0 _ _ _ _ _)
      | (with_reducible exact ih1 _ _ _ _)
      | (with_reducible exact LeO.refl _)
      | (with_reducible exact LeO.none _)
      | (with_reducible refine LeO.ite ?_ ?_)
      | (with_reducible refine LeO.bind ?_ (fun _ => ?_))
      | exact ih0 _ _ _ _ _
      | exact ih1 _ _ _ _
      | exact LeO.none _
      | refine LeO.ite ?_ ?_
      | refine LeO.bind ?_ (fun _ => ?_)
theorem elem_put.mono : ∀ a0 a1 k, LeO (elem_put.f k a0 a1) (elem_put.f (k + 1) a0 a1) := by
  intro a0 a1 k; obtain ⟨ih0, ih1⟩ := elem_put.mono_l k; unfold elem_put.f
  repeat' first
      | (with_reducible exact ih0 _ _ _ _ _)
      | (with_reducible exact ih1 _ _ _ _)
      | (with_reducible exact LeO.refl _)
      | (with_reducible exact LeO.none _)
      | (with_reducible refine LeO.ite ?_ ?_)
      | (with_reducible refine LeO.bind ?_ (fun _ => ?_))
      | exact ih0 _ _ _ _ _
      | exact ih1 _ _ _ _
      | exact LeO.none _
      | refine LeO.ite ?_ ?_
      | refine LeO.bind ?_ (fun _ => ?_)
set_option maxHeartbeats 8000000 in
set_option maxRecDepth 100000 in
theorem elem_put.calls (k : Nat) (A0 : Option Addr) (c0 : Nat) (l0 : List ByteArray) (A1 : Option Addr) (c1 : Nat) (l1 : List (S98)) (r : ByteArray) (w : World) (hr0 : Kd.C Kd.string w A0 l0.length l0) (hc0 : l0.length ≤ c0) (hr1 : Kd.C k98 w A1 l1.length l1) (hc1 : l1.length ≤ c1) (h : elem_put.f k l0 l1 = some r) :
    Calls Try.prog 52 #[.slice A0 l0.length c0, .slice A1 l1.length c1] w fun e w' => e = .returned (.string r) ∧ Below w.heap.size w w' := by
  have hu98 := Try.underlying98; have hu80 := Try.underlying80; have HR0 := Aside0.mk hr0; have HC0 := Aside0.mk hc0; clear hr0 hc0; have HR1 := Aside0.mk hr1; have HC1 := Aside0.mk hc1; clear hr1 hc1; have HB := zm (Below.refl w.heap.size w); have H : ((scan_PutNum.f (l0.length : Int)).bind fun t101 => (elem_put.l0 k l1 t101 l0 (l0.length : Int) 0)) = some r := h; clear h; replace H := Option.bind_eq_some_iff.mp H; obtain ⟨t101, A30, H⟩ := H; replace H : (elem_put.l0 k l1 t101 l0 (l0.length : Int) 0) = some r := H; have A3 := Aside0.mk A30; clear A30; have H' := Aside0.mk H; clear H; go_enter Try.func52, Try.ntmps52; go_wp2_with (first | ((with_reducible refine gate_callee (f := 79) rfl ?_); refine goesL_ (some 14) rfl rfl Try.func79 (by kernel_rfl) rfl #[.int .i64 (l0.length : Int)] rfl (zq2) ?_; (with_reducible refine (scan_PutNum.calls (l0.length : Int) t101 _ A3.out).mono ?_); rintro e w4 ⟨rfl, hb⟩; refine ⟨_, rfl, ?_⟩; have n0_ := zm (below_step (zq0) hb); clear HB; revert n0_; intro HB; (try clear hb); (try clear hb2); (try clear hk); (try clear hi))); (go_loopg [5, 17] k (fun kq v5 v17 w' => ∃ (x5_1 : ByteArray) (x17_1 : Int), v5 = .string x5_1 ∧ v17 = .int .i64 x17_1 ∧ Aside0 (elem_put.l0 kq l1 x5_1 l0 (l0.length : Int) x17_1 = some r) ∧ Aside0 (kq ≤ k) ∧ Aside0 (Below w.heap.size w w')))
  case atStart => exact ⟨(t101), (0), (zq11), (zq11), H', ⟨Nat.le_refl _⟩, ⟨zq0⟩⟩
  case round =>
    clear H'; (try clear c1); (try clear p2); obtain ⟨x5_1, x17_1, rfl, rfl, HA, HK1, HB⟩ := hrel
    cases gk with
    | zero => exact absurd HA.out (by simp [elem_put.l0])
    | succ k1 =>
      have H := HA.out; clear HA; simp only [elem_put.l0] at H; by_cases c5 : x17_1 < (l0.length : Int)
      · rw [if_pos c5] at H; have c5b0 : decide (x17_1 < (l0.length : Int)) = true := decide_eq_true c5; clear c5; by_cases c6 : 0 ≤ x17_1
        · rw [if_pos c6] at H; have c6b0 : decide (0 ≤ x17_1) = true := decide_eq_true c6; clear c6; by_cases c7 : x17_1 < (l0.length : Int)
          · rw [if_pos c7] at H; have c7b0 : decide (x17_1 < (l0.length : Int)) = true := decide_eq_true c7; clear c7; replace H := Option.bind_eq_some_iff.mp H; obtain ⟨t103, A80, H⟩ := H; replace H : (if x5_1.size + t103.size ≤ 9223372036854775807 then (elem_put.l0 k1 l1 (x5_1 ++ t103) l0 (l0.length : Int) (wrap64 (x17_1 + 1))) else (none)) = some r := H; have A8 := Aside0.mk A80; clear A80; by_cases c9 : x5_1.size + t103.size ≤ 9223372036854775807
            · rw [if_pos c9] at H; have c9b0 := eq_true c9; have c9b1 : decide (x5_1.size + t103.size ≤ 9223372036854775807) = true := decide_eq_true c9; (try have c9b2 : (9223372036854775807 < x5_1.size + t103.size) = False := eq_false (Nat.not_lt.2 c9)); have H' := Aside0.mk H; clear H; have p102 : 0 ≤ (x17_1 : Int) := of_decide_eq_true (zq6); have q102 : x17_1 < (l0.length : Int) := of_decide_eq_true (zq6); obtain ⟨ad102, e102, hx102_0⟩ := Kd.at_string HR0.out x17_1 p102 q102; cases e102; replace hx102_0 := (HB.out.cell (World.block_lt_of_cell? w _ hx102_0)).trans hx102_0; replace p102 := eq_true p102; replace q102 := eq_true q102; go_wp2_with (first | ((with_reducible refine gate_callee (f := 60) rfl ?_); refine goesL_ (some 23) rfl rfl Try.func60 (by kernel_rfl) rfl #[.string (rdOf ByteArray.empty l0 x17_1)] rfl (zq2) ?_; (with_reducible refine (scan_PutText.calls (rdOf ByteArray.empty l0 x17_1) t103 _ A8.out).mono ?_); rintro e w10 ⟨rfl, hb⟩; refine ⟨_, rfl, ?_⟩; have n0_ := zm (below_step (zq0) hb); clear HB; revert n0_; intro HB; (try clear hb); (try clear hb2); (try clear hk); (try clear hi))); (go_roundg k1)
              case measure => have := HK1.out; omega
              case rel => exact ⟨(x5_1 ++ t103), (wrap64 (x17_1 + 1)), (zq11), (zq11), H', ⟨by have := HK1.out; omega⟩, ⟨zq0⟩⟩
            · rw [if_neg c9] at H; exact absurd H (by simp)
          · rw [if_neg c7] at H; exact absurd H (by simp)
        · rw [if_neg c6] at H; exact absurd H (by simp)
      · rw [if_neg c5] at H; have c5b0 : decide (x17_1 < (l0.length : Int)) = false := decide_eq_false c5; clear c5; replace H := Option.bind_eq_some_iff.mp H; obtain ⟨t104, A110, H⟩ := H; replace H : (if x5_1.size + t104.size ≤ 9223372036854775807 then (elem_put.l1 k1 (x5_1 ++ t104) l1 (l1.length : Int) 0) else (none)) = some r := H; have A11 := Aside0.mk A110; clear A110; by_cases c12 : x5_1.size + t104.size ≤ 9223372036854775807
        · rw [if_pos c12] at H; have c12b0 := eq_true c12; have c12b1 : decide (x5_1.size + t104.size ≤ 9223372036854775807) = true := decide_eq_true c12; (try have c12b2 : (9223372036854775807 < x5_1.size + t104.size) = False := eq_false (Nat.not_lt.2 c12)); have H' := Aside0.mk H; clear H; go_wp2_with (first | ((with_reducible refine gate_callee (f := 79) rfl ?_); refine goesL_ (some 29) rfl rfl Try.func79 (by kernel_rfl) rfl #[.int .i64 (l1.length : Int)] rfl (zq2) ?_; (with_reducible refine (scan_PutNum.calls (l1.length : Int) t104 _ A11.out).mono ?_); rintro e w13 ⟨rfl, hb⟩; refine ⟨_, rfl, ?_⟩; have n0_ := zm (below_step (zq0) hb); clear HB; revert n0_; intro HB; (try clear hb); (try clear hb2); (try clear hk); (try clear hi))); (go_loopg [5, 33] k1 (fun kq v5 v33 w' => ∃ (x5_2 : ByteArray) (x33_2 : Int), v5 = .string x5_2 ∧ v33 = .int .i64 x33_2 ∧ Aside0 (elem_put.l1 kq x5_2 l1 (l1.length : Int) x33_2 = some r) ∧ Aside0 (kq ≤ k1) ∧ Aside0 (Below w.heap.size w w')))
          case atStart => exact ⟨(x5_1 ++ t104), (0), (zq11), (zq11), H', ⟨Nat.le_refl _⟩, ⟨zq0⟩⟩
          case round =>
            clear H'; (try clear c1); (try clear p1); (try clear q1); (try clear hx1); (try clear p2); (try clear c5); (try clear c5b0); (try clear c6); (try clear c6b0); (try clear p6); (try clear c7); (try clear c7b0); (try clear c9); (try clear c9b0); (try clear c9b1); (try clear c9b2); (try clear p10); (try clear q10); (try clear hx10); (try clear c12); (try clear c12b0); (try clear c12b1); (try clear c12b2); (try clear hx102_0); (try clear p102); (try clear p2); (try clear q102); obtain ⟨x5_2, x33_2, rfl, rfl, HA, HK2, HB⟩ := hrel
            cases gk with
            | zero => exact absurd HA.out (by simp [elem_put.l1])
            | succ k2 =>
              have H := HA.out; clear HA; simp only [elem_put.l1] at H; by_cases c14 : x33_2 < (l1.length : Int)
              · rw [if_pos c14] at H; have c14b0 : decide (x33_2 < (l1.length : Int)) = true := decide_eq_true c14; clear c14; by_cases c15 : 0 ≤ x33_2
                · rw [if_pos c15] at H; have c15b0 : decide (0 ≤ x33_2) = true := decide_eq_true c15; clear c15; by_cases c16 : x33_2 < (l1.length : Int)
                  · rw [if_pos c16] at H; have c16b0 : decide (x33_2 < (l1.length : Int)) = true := decide_eq_true c16; clear c16; replace H := Option.bind_eq_some_iff.mp H; obtain ⟨⟨t107, t108⟩, A170, H⟩ := H; replace H : ((scan_PutText.f ((rd_T98 l1 x33_2).f0)).bind fun t109 => (if t109.size + t107.size ≤ 9223372036854775807 then (if x5_2.size + t109.size + t107.size ≤ 9223372036854775807 then (elem_put.l1 k2 (x5_2 ++ (t109 ++ t107)) l1 (l1.length : Int) (wrap64 (x33_2 + 1))) else (none)) else (none))) = some r := H; have A17 := Aside0.mk A170; clear A170; replace H := Option.bind_eq_some_iff.mp H; obtain ⟨t109, A180, H⟩ := H; replace H : (if t109.size + t107.size ≤ 9223372036854775807 then (if x5_2.size + t109.size + t107.size ≤ 9223372036854775807 then (elem_put.l1 k2 (x5_2 ++ (t109 ++ t107)) l1 (l1.length : Int) (wrap64 (x33_2 + 1))) else (none)) else (none)) = some r := H; have A18 := Aside0.mk A180; clear A180; by_cases c19 : t109.size + t107.size ≤ 9223372036854775807
                    · rw [if_pos c19] at H; have c19b0 := eq_true c19; have c19b1 : decide (t109.size + t107.size ≤ 9223372036854775807) = true := decide_eq_true c19; (try have c19b2 : (9223372036854775807 < t109.size + t107.size) = False := eq_false (Nat.not_lt.2 c19)); by_cases c20 : x5_2.size + t109.size + t107.size ≤ 9223372036854775807
                      · rw [if_pos c20] at H; have c20b0 := eq_true c20; have c20b1 : decide (x5_2.size + t109.size + t107.size ≤ 9223372036854775807) = true := decide_eq_true c20; (try have c20b2 : (9223372036854775807 < x5_2.size + t109.size + t107.size) = False := eq_false (Nat.not_lt.2 c20)); have H' := Aside0.mk H; clear H; have p105 : 0 ≤ (x33_2 : Int) := of_decide_eq_true (zq6); have q105 : x33_2 < (l1.length : Int) := of_decide_eq_true (zq6); obtain ⟨ad105, e105, hx105_0, hx105_1, hx105_2, hx105_3⟩ := at_T98 HR1.out x33_2 p105 q105; cases e105; replace hx105_0 := (HB.out.cell (World.block_lt_of_cell? w _ hx105_0)).trans hx105_0; replace hx105_1 := (HB.out.cell (World.block_lt_of_cell? w _ hx105_1)).trans hx105_1; replace hx105_2 := (HB.out.cell (World.block_lt_of_cell? w _ hx105_2)).trans hx105_2; replace hx105_3 := (HB.out.cell (World.block_lt_of_cell? w _ hx105_3)).trans hx105_3; replace p105 := eq_true p105; replace q105 := eq_true q105; go_wp2_with (first | ((with_reducible refine gate_dst (N := 9) rfl ?_); refine box_event ?hg (N := 9) ?hd (cs := #[.string (⟨#[]⟩ : ByteArray), .int .i64 0, .int .i64 0, .string (⟨#[]⟩ : ByteArray)]) (t := 98) ?hr ?_; (case hd => rfl); (case hg => rfl); (case hr => first | (go_simp; done) | (go_simp; rfl)); intro gb106 hg w21 hbox hb; have n0_ := zm (below_step (zq0) hb); have n1_ := zm (hbox); have n2_ := zm ((by rw [hg]; exact (below_size (zq0)) : w.heap.size ≤ gb106)); have n3_ := zm ((by rw [hg]; exact (below_size (zq0)) : w.heap.size ≤ gb106)); clear HB; revert n0_ n1_ n2_ n3_; intro HB BK106 GW106 GE106; clear hb hbox hg; have hcz22_0 : w21.cell? ⟨gb106, 0, none⟩ = some (.string (⟨#[]⟩ : ByteArray)) := (blk_cell BK106.out 0).trans rfl; have hcz22_1 : w21.cell? ⟨gb106, 1, none⟩ = some (.int .i64 0) := (blk_cell BK106.out 1).trans rfl; have hcz22_2 : w21.cell? ⟨gb106, 2, none⟩ = some (.int .i64 0) := (blk_cell BK106.out 2).trans rfl; have hcz22_3 : w21.cell? ⟨gb106, 3, none⟩ = some (.string (⟨#[]⟩ : ByteArray)) := (blk_cell BK106.out 3).trans rfl; have hfz22_0 := blk_frozen BK106.out 0; have hfz22_1 := blk_frozen BK106.out 1; have hfz22_2 := blk_frozen BK106.out 2; have hfz22_3 := blk_frozen BK106.out 3) | ((with_reducible refine gate_callee (f := 80) rfl ?_); refine goesL_ (some 40) rfl rfl Try.func80 (by kernel_rfl) rfl #[.agg #[.int .i64 ((rd_T98 l1 x33_2).f1.f0), .int .i64 ((rd_T98 l1 x33_2).f1.f1), .string ((rd_T98 l1 x33_2).f1.f2)]] rfl (zq2) ?_; (with_reducible refine (value_Put.calls ((rd_T98 l1 x33_2).f1.f0) ((rd_T98 l1 x33_2).f1.f1) ((rd_T98 l1 x33_2).f1.f2) t107 t108 _ A17.out).mono ?_); rintro e w23 ⟨rfl, hb⟩; refine ⟨_, rfl, ?_⟩; have n0_ := zm (blk_below (g := gb106) (o := .cells #[.string ((rd_T98 l1 x33_2).f0), .int .i64 ((rd_T98 l1 x33_2).f1.f0), .int .i64 ((rd_T98 l1 x33_2).f1.f1), .string ((rd_T98 l1 x33_2).f1.f2)] 98 (0, 0)) (by (with_reducible repeat (first | refine blk_drewN ?_ _ | refine blk_drew ?_ | refine blk_alloc ?_ _)); refine blk_put (cs := #[.string ((rd_T98 l1 x33_2).f0), .int .i64 ((rd_T98 l1 x33_2).f1.f0), .int .i64 ((rd_T98 l1 x33_2).f1.f1), .string (⟨#[]⟩ : ByteArray)]) ?_ 3 _ rfl; (with_reducible repeat (first | refine blk_drewN ?_ _ | refine blk_drew ?_ | refine blk_alloc ?_ _)); refine blk_put (cs := #[.string ((rd_T98 l1 x33_2).f0), .int .i64 ((rd_T98 l1 x33_2).f1.f0), .int .i64 0, .string (⟨#[]⟩ : ByteArray)]) ?_ 2 _ rfl; (with_reducible repeat (first | refine blk_drewN ?_ _ | refine blk_drew ?_ | refine blk_alloc ?_ _)); refine blk_put (cs := #[.string ((rd_T98 l1 x33_2).f0), .int .i64 0, .int .i64 0, .string (⟨#[]⟩ : ByteArray)]) ?_ 1 _ rfl; (with_reducible repeat (first | refine blk_drewN ?_ _ | refine blk_drew ?_ | refine blk_alloc ?_ _)); refine blk_put (cs := #[.string (⟨#[]⟩ : ByteArray), .int .i64 0, .int .i64 0, .string (⟨#[]⟩ : ByteArray)]) ?_ 0 _ rfl; (with_reducible repeat (first | refine blk_drewN ?_ _ | refine blk_drew ?_ | refine blk_alloc ?_ _)); exact BK106.out) hb); have n1_ := zm (below_step (zq126) hb); clear BK106 HB; revert n0_ n1_; intro BK106 HB; (try clear hb); (try clear hb2); (try clear hk); (try clear hi); have hcz24_0 : w23.cell? ⟨gb106, 0, none⟩ = some (.string ((rd_T98 l1 x33_2).f0)) := (blk_cell BK106.out 0).trans rfl; have hcz24_1 : w23.cell? ⟨gb106, 1, none⟩ = some (.int .i64 ((rd_T98 l1 x33_2).f1.f0)) := (blk_cell BK106.out 1).trans rfl; have hcz24_2 : w23.cell? ⟨gb106, 2, none⟩ = some (.int .i64 ((rd_T98 l1 x33_2).f1.f1)) := (blk_cell BK106.out 2).trans rfl; have hcz24_3 : w23.cell? ⟨gb106, 3, none⟩ = some (.string ((rd_T98 l1 x33_2).f1.f2)) := (blk_cell BK106.out 3).trans rfl; have hfz24_0 := blk_frozen BK106.out 0; have hfz24_1 := blk_frozen BK106.out 1; have hfz24_2 := blk_frozen BK106.out 2; have hfz24_3 := blk_frozen BK106.out 3) | ((with_reducible refine gate_callee (f := 60) rfl ?_); refine goesL_ (some 46) rfl rfl Try.func60 (by kernel_rfl) rfl #[.string ((rd_T98 l1 x33_2).f0)] rfl (zq2) ?_; (with_reducible refine (scan_PutText.calls ((rd_T98 l1 x33_2).f0) t109 _ A18.out).mono ?_); rintro e w25 ⟨rfl, hb⟩; refine ⟨_, rfl, ?_⟩; have n0_ := zm (blk_below (g := gb106) (o := .cells #[.string ((rd_T98 l1 x33_2).f0), .int .i64 ((rd_T98 l1 x33_2).f1.f0), .int .i64 ((rd_T98 l1 x33_2).f1.f1), .string ((rd_T98 l1 x33_2).f1.f2)] 98 (0, 0)) (zq134) hb); have n1_ := zm (below_step (zq126) hb); clear BK106 HB; revert n0_ n1_; intro BK106 HB; (try clear hb); (try clear hb2); (try clear hk); (try clear hi))); (go_roundg k2)
                        case measure => have := HK1.out; have := HK2.out; omega
                        case rel => exact ⟨(x5_2 ++ (t109 ++ t107)), (wrap64 (x33_2 + 1)), (zq11), (zq11), H', ⟨by have := HK1.out; have := HK2.out; omega⟩, ⟨zq126⟩⟩
                      · rw [if_neg c20] at H; exact absurd H (by simp)
                    · rw [if_neg c19] at H; exact absurd H (by simp)
                  · rw [if_neg c16] at H; exact absurd H (by simp)
                · rw [if_neg c15] at H; exact absurd H (by simp)
              · rw [if_neg c14] at H; have c14b0 : decide (x33_2 < (l1.length : Int)) = false := decide_eq_false c14; clear c14; obtain rfl := Option.some.inj H; (go_wp2); (go_ret); exact ⟨zq5, zq0⟩
        · rw [if_neg c12] at H; exact absurd H (by simp)

end Go.Proofs.Ytmnadajjgnniaaa.MA
end
section
namespace Go.Proofs.Ytmnadajjgnniaaa.MA
open Go.RowKit Go.Proofs.YtmnadajjgnniaaaW.PrintWords Go.Proofs.YtmnadajjgnniaaaW.PrintLast Go.Proofs.YtmnadajjgnniaaaW.PrintMore
attribute [local go_sem] max2_int min2_int max_two min_two max_three min_three max_four min_four

def elem_PutNode.f (k : Nat) (a0_0 : ByteArray) (l0_1 : List ByteArray) (l0_2 : List (S98)) : Option (ByteArray × Int) := (elem_CheckNode.f k a0_0 l0_1 l0_2).bind fun t102 => (if t102 = 0 then ((elem_put.f k l0_1 l0_2).bind fun t103 => (some (t103, 0))) else (some ((⟨#[]⟩ : ByteArray), t102)))
theorem elem_PutNode.mono : ∀ a0 a1 a2 k, LeO (elem_PutNode.f k a0 a1 a2) (elem_PutNode.f (k + 1) a0 a1 a2) := by
  intro a0 a1 a2 k; unfold elem_PutNode.f
  repeat' first
      | (with_reducible exact elem_CheckNode.mono _ _ _ _)
      | (with_reducible exact elem_put.mono _ _ _)
      | (with_reducible exact LeO.refl _)
      | (with_reducible exact LeO.none _)
      | (with_reducible refine LeO.ite ?_ ?_)
      | (with_reducible refine LeO.bind ?_ (fun _ => ?_))
      | exact elem_CheckNode.mono _ _ _ _
      | exact elem_put.mono _ _ _
      | exact LeO.none _
      | refine LeO.ite ?_ ?_
      | refine LeO.bind ?_ (fun _ => ?_)
set_option maxHeartbeats 8000000 in
set_option maxRecDepth 100000 in
theorem elem_PutNode.calls (k : Nat) (a0_0 : ByteArray) (A0_1 : Option Addr) (c0_1 : Nat) (l0_1 : List ByteArray) (A0_2 : Option Addr) (c0_2 : Nat) (l0_2 : List (S98)) (r1 : ByteArray) (r2 : Int) (w : World) (hr0_1 : Kd.C Kd.string w A0_1 l0_1.length l0_1) (hc0_1 : l0_1.length ≤ c0_1) (hr0_2 : Kd.C k98 w A0_2 l0_2.length l0_2) (hc0_2 : l0_2.length ≤ c0_2) (h : elem_PutNode.f k a0_0 l0_1 l0_2 = some (r1, r2)) :
    Calls Try.prog 12 #[.agg #[.string a0_0, .slice A0_1 l0_1.length c0_1, .slice A0_2 l0_2.length c0_2]] w fun e w' => e = .returned (.tuple #[.string r1, .int .i64 r2]) ∧ Below w.heap.size w w' := by
  have hu25 := Try.underlying25; have HR0_1 := Aside0.mk hr0_1; have HC0_1 := Aside0.mk hc0_1; clear hr0_1 hc0_1; have HR0_2 := Aside0.mk hr0_2; have HC0_2 := Aside0.mk hc0_2; clear hr0_2 hc0_2; have HB := zm (Below.refl w.heap.size w); have H : ((elem_CheckNode.f k a0_0 l0_1 l0_2).bind fun t102 => (if t102 = 0 then ((elem_put.f k l0_1 l0_2).bind fun t103 => (some (t103, 0))) else (some ((⟨#[]⟩ : ByteArray), t102)))) = some (r1, r2) := h; clear h; replace H := Option.bind_eq_some_iff.mp H; obtain ⟨t102, A20, H⟩ := H; replace H : (if t102 = 0 then ((elem_put.f k l0_1 l0_2).bind fun t103 => (some (t103, 0))) else (some ((⟨#[]⟩ : ByteArray), t102))) = some (r1, r2) := H; have A2 := Aside0.mk A20; clear A20; by_cases c3 : t102 = 0
  · rw [if_pos c3] at H; have c3b0 : (t102 == 0) = true := beq_iff_eq.mpr c3; have c3b1 : (t102 != 0) = false := bne_eq_false_iff_eq.mpr c3; clear c3; replace H := Option.bind_eq_some_iff.mp H; obtain ⟨t103, A40, H⟩ := H; replace H : (some (t103, 0)) = some (r1, r2) := H; have A4 := Aside0.mk A40; clear A40; simp only [Option.some.injEq, Prod.mk.injEq] at H; obtain ⟨rfl, rfl⟩ := H; go_enter Try.func12, Try.ntmps12; go_wp2_with (first | ((with_reducible refine gate_dst (N := 1) rfl ?_); refine box_event ?hg (N := 1) ?hd (cs := #[.string a0_0, .slice A0_1 l0_1.length c0_1, .slice A0_2 l0_2.length c0_2]) (t := 25) ?hr ?_; (case hd => rfl); (case hg => rfl); (case hr => first | (go_simp; done) | (go_simp; rfl)); intro gb101 hg w5 hbox hb; have n0_ := zm (below_step (zq0) hb); have n1_ := zm (hbox); have n2_ := zm ((by rw [hg]; exact (below_size (zq0)) : w.heap.size ≤ gb101)); have n3_ := zm ((by rw [hg]; exact (below_size (zq0)) : w.heap.size ≤ gb101)); clear HB; revert n0_ n1_ n2_ n3_; intro HB BK101 GW101 GE101; clear hb hbox hg; have hcz6_0 : w5.cell? ⟨gb101, 0, none⟩ = some (.string a0_0) := (blk_cell BK101.out 0).trans rfl; have hcz6_1 : w5.cell? ⟨gb101, 1, none⟩ = some (.slice A0_1 l0_1.length c0_1) := (blk_cell BK101.out 1).trans rfl; have hcz6_2 : w5.cell? ⟨gb101, 2, none⟩ = some (.slice A0_2 l0_2.length c0_2) := (blk_cell BK101.out 2).trans rfl; have hfz6_0 := blk_frozen BK101.out 0; have hfz6_1 := blk_frozen BK101.out 1; have hfz6_2 := blk_frozen BK101.out 2) | ((with_reducible refine gate_callee (f := 15) rfl ?_); refine goesL_ (some 6) rfl rfl Try.func15 (by kernel_rfl) rfl #[.agg #[.string a0_0, .slice A0_1 l0_1.length c0_1, .slice A0_2 l0_2.length c0_2]] rfl (zq2) ?_; (with_reducible refine (elem_CheckNode.calls k a0_0 _ _ l0_1 _ _ l0_2 t102 _ ?side1 ?side2 ?side3 ?side4 A2.out).mono ?_); (case side1 => repeat (first | exact (Kd.C_below HR0_1.out HB.out) | (with_reducible refine Kd.C_alloc ?_ _) | (with_reducible refine Kd.C_drewN ?_ _) | (with_reducible refine Kd.C_drew ?_))); (case side2 => exact HC0_1.out); (case side3 => repeat (first | exact (Kd.C_below HR0_2.out HB.out) | (with_reducible refine Kd.C_alloc ?_ _) | (with_reducible refine Kd.C_drewN ?_ _) | (with_reducible refine Kd.C_drew ?_))); (case side4 => exact HC0_2.out); rintro e w7 ⟨rfl, hb⟩; refine ⟨_, rfl, ?_⟩; have n0_ := zm (blk_below (g := gb101) (o := .cells #[.string a0_0, .slice A0_1 l0_1.length c0_1, .slice A0_2 l0_2.length c0_2] 25 (0, 0)) (zq3) hb); have n1_ := zm (below_step (zq1) hb); clear BK101 HB; revert n0_ n1_; intro BK101 HB; (try clear hb); (try clear hb2); (try clear hk); (try clear hi); have hcz8_0 : w7.cell? ⟨gb101, 0, none⟩ = some (.string a0_0) := (blk_cell BK101.out 0).trans rfl; have hcz8_1 : w7.cell? ⟨gb101, 1, none⟩ = some (.slice A0_1 l0_1.length c0_1) := (blk_cell BK101.out 1).trans rfl; have hcz8_2 : w7.cell? ⟨gb101, 2, none⟩ = some (.slice A0_2 l0_2.length c0_2) := (blk_cell BK101.out 2).trans rfl; have hfz8_0 := blk_frozen BK101.out 0; have hfz8_1 := blk_frozen BK101.out 1; have hfz8_2 := blk_frozen BK101.out 2) | ((with_reducible refine gate_callee (f := 52) rfl ?_); refine goesL_ (some 14) rfl rfl Try.func52 (by kernel_rfl) rfl #[.slice A0_1 l0_1.length c0_1, .slice A0_2 l0_2.length c0_2] rfl (zq2) ?_; (with_reducible refine (elem_put.calls k _ _ l0_1 _ _ l0_2 t103 _ ?side1 ?side2 ?side3 ?side4 A4.out).mono ?_); (case side1 => repeat (first | exact (Kd.C_below HR0_1.out HB.out) | (with_reducible refine Kd.C_alloc ?_ _) | (with_reducible refine Kd.C_drewN ?_ _) | (with_reducible refine Kd.C_drew ?_))); (case side2 => exact HC0_1.out); (case side3 => repeat (first | exact (Kd.C_below HR0_2.out HB.out) | (with_reducible refine Kd.C_alloc ?_ _) | (with_reducible refine Kd.C_drewN ?_ _) | (with_reducible refine Kd.C_drew ?_))); (case side4 => exact HC0_2.out); rintro e w9 ⟨rfl, hb⟩; refine ⟨_, rfl, ?_⟩; have n0_ := zm (blk_below (g := gb101) (o := .cells #[.string a0_0, .slice A0_1 l0_1.length c0_1, .slice A0_2 l0_2.length c0_2] 25 (0, 0)) (zq3) hb); have n1_ := zm (below_step (zq1) hb); clear BK101 HB; revert n0_ n1_; intro BK101 HB; (try clear hb); (try clear hb2); (try clear hk); (try clear hi))); (go_ret2); exact ⟨zq5, zq1⟩
  · rw [if_neg c3] at H; have c3b0 : (t102 == 0) = false := beq_eq_false_iff_ne.mpr c3; have c3b1 : (t102 != 0) = true := bne_iff_ne.mpr c3; simp only [Option.some.injEq, Prod.mk.injEq] at H; obtain ⟨rfl, rfl⟩ := H; go_enter Try.func12, Try.ntmps12; go_wp2_with (first | ((with_reducible refine gate_dst (N := 1) rfl ?_); refine box_event ?hg (N := 1) ?hd (cs := #[.string a0_0, .slice A0_1 l0_1.length c0_1, .slice A0_2 l0_2.length c0_2]) (t := 25) ?hr ?_; (case hd => rfl); (case hg => rfl); (case hr => first | (go_simp; done) | (go_simp; rfl)); intro gb101 hg w10 hbox hb; have n0_ := zm (below_step (zq0) hb); have n1_ := zm (hbox); have n2_ := zm ((by rw [hg]; exact (below_size (zq0)) : w.heap.size ≤ gb101)); have n3_ := zm ((by rw [hg]; exact (below_size (zq0)) : w.heap.size ≤ gb101)); clear HB; revert n0_ n1_ n2_ n3_; intro HB BK101 GW101 GE101; clear hb hbox hg; have hcz11_0 : w10.cell? ⟨gb101, 0, none⟩ = some (.string a0_0) := (blk_cell BK101.out 0).trans rfl; have hcz11_1 : w10.cell? ⟨gb101, 1, none⟩ = some (.slice A0_1 l0_1.length c0_1) := (blk_cell BK101.out 1).trans rfl; have hcz11_2 : w10.cell? ⟨gb101, 2, none⟩ = some (.slice A0_2 l0_2.length c0_2) := (blk_cell BK101.out 2).trans rfl; have hfz11_0 := blk_frozen BK101.out 0; have hfz11_1 := blk_frozen BK101.out 1; have hfz11_2 := blk_frozen BK101.out 2) | ((with_reducible refine gate_callee (f := 15) rfl ?_); refine goesL_ (some 6) rfl rfl Try.func15 (by kernel_rfl) rfl #[.agg #[.string a0_0, .slice A0_1 l0_1.length c0_1, .slice A0_2 l0_2.length c0_2]] rfl (zq2) ?_; (with_reducible refine (elem_CheckNode.calls k a0_0 _ _ l0_1 _ _ l0_2 t102 _ ?side1 ?side2 ?side3 ?side4 A2.out).mono ?_); (case side1 => repeat (first | exact (Kd.C_below HR0_1.out HB.out) | (with_reducible refine Kd.C_alloc ?_ _) | (with_reducible refine Kd.C_drewN ?_ _) | (with_reducible refine Kd.C_drew ?_))); (case side2 => exact HC0_1.out); (case side3 => repeat (first | exact (Kd.C_below HR0_2.out HB.out) | (with_reducible refine Kd.C_alloc ?_ _) | (with_reducible refine Kd.C_drewN ?_ _) | (with_reducible refine Kd.C_drew ?_))); (case side4 => exact HC0_2.out); rintro e w12 ⟨rfl, hb⟩; refine ⟨_, rfl, ?_⟩; have n0_ := zm (blk_below (g := gb101) (o := .cells #[.string a0_0, .slice A0_1 l0_1.length c0_1, .slice A0_2 l0_2.length c0_2] 25 (0, 0)) (zq3) hb); have n1_ := zm (below_step (zq1) hb); clear BK101 HB; revert n0_ n1_; intro BK101 HB; (try clear hb); (try clear hb2); (try clear hk); (try clear hi))); (go_ret2); exact ⟨zq5, zq1⟩

end Go.Proofs.Ytmnadajjgnniaaa.MA
end
section
namespace Go.Proofs.Ytmnadajjgnniaaa.MA
open Go.RowKit Go.Proofs.YtmnadajjgnniaaaW.PrintWords Go.Proofs.YtmnadajjgnniaaaW.PrintLast Go.Proofs.YtmnadajjgnniaaaW.PrintMore
attribute [local go_sem] max2_int min2_int max_two min_two max_three min_three max_four min_four

def pleachlaw25_awake.f (k : Nat)  : Option (Bool) := (elem_PutNode.f k (⟨#[97]⟩ : ByteArray) ([] : List ByteArray) ([] : List (S98))).bind fun bt101 => (if bt101.1.toList = ([0, 0] : List UInt8) then (some (bt101.2 == 0)) else (some false))
theorem pleachlaw25_awake.mono : ∀ k, LeO (pleachlaw25_awake.f k ) (pleachlaw25_awake.f (k + 1) ) := by
  intro  k; unfold pleachlaw25_awake.f
  repeat' first
      | (with_reducible exact elem_PutNode.mono _ _ _ _)
      | (with_reducible exact LeO.refl _)
      | (with_reducible exact LeO.none _)
      | (with_reducible refine LeO.ite ?_ ?_)
      | (with_reducible refine LeO.bind ?_ (fun _ => ?_))
      | exact elem_PutNode.mono _ _ _ _
      | exact LeO.none _
      | refine LeO.ite ?_ ?_
      | refine LeO.bind ?_ (fun _ => ?_)
set_option maxHeartbeats 8000000 in
set_option maxRecDepth 100000 in
theorem pleachlaw25_awake.calls (k : Nat)  (r : Bool) (w : World) (h : pleachlaw25_awake.f k  = some r) :
    Calls Try.prog 11 #[] w fun e w' => e = .returned (.bool r) ∧ Below w.heap.size w w' := by
  have hu25 := Try.underlying25; have HB := zm (Below.refl w.heap.size w); have H : ((elem_PutNode.f k (⟨#[97]⟩ : ByteArray) ([] : List ByteArray) ([] : List (S98))).bind fun bt101 => (if bt101.1.toList = ([0, 0] : List UInt8) then (some (bt101.2 == 0)) else (some false))) = some r := h; clear h; replace H := Option.bind_eq_some_iff.mp H; obtain ⟨⟨t101, t102⟩, A10, H⟩ := H; replace H : (if t101.toList = ([0, 0] : List UInt8) then (some (t102 == 0)) else (some false)) = some r := H; have A1 := Aside0.mk A10; clear A10; by_cases c2 : t101.toList = ([0, 0] : List UInt8)
  · rw [if_pos c2] at H; have c2b0 : (t101.toList == ([0, 0] : List UInt8)) = true := beq_iff_eq.mpr c2; have c2b1 : (t101.toList != ([0, 0] : List UInt8)) = false := bne_eq_false_iff_eq.mpr c2; clear c2; obtain rfl := Option.some.inj H; go_enter Try.func11, Try.ntmps11; go_wp2_with (first | ((with_reducible refine gate_callee (f := 12) rfl ?_); refine goesL_ (some 5) rfl rfl Try.func12 (by kernel_rfl) rfl #[.agg #[.string (⟨#[97]⟩ : ByteArray), .slice none 0 0, .slice none 0 0]] rfl (zq2) ?_; (refine (elem_PutNode.calls k (⟨#[97]⟩ : ByteArray) _ _ ([] : List ByteArray) _ _ ([] : List (S98)) t101 t102 _ ?side1 ?side2 ?side3 ?side4 A1.out).mono ?_); (case side1 => exact Kd.C_nil _ _); (case side2 => exact Nat.le_refl _); (case side3 => exact Kd.C_nil _ _); (case side4 => exact Nat.le_refl _); rintro e w3 ⟨rfl, hb⟩; refine ⟨_, rfl, ?_⟩; have n0_ := zm (below_step (zq0) hb); clear HB; revert n0_; intro HB; (try clear hb); (try clear hb2); (try clear hk); (try clear hi))); (go_ret); exact ⟨zq5, zq0⟩
  · rw [if_neg c2] at H; have c2b0 : (t101.toList == ([0, 0] : List UInt8)) = false := beq_eq_false_iff_ne.mpr c2; have c2b1 : (t101.toList != ([0, 0] : List UInt8)) = true := bne_iff_ne.mpr c2; obtain rfl := Option.some.inj H; go_enter Try.func11, Try.ntmps11; go_wp2_with (first | ((with_reducible refine gate_callee (f := 12) rfl ?_); refine goesL_ (some 5) rfl rfl Try.func12 (by kernel_rfl) rfl #[.agg #[.string (⟨#[97]⟩ : ByteArray), .slice none 0 0, .slice none 0 0]] rfl (zq2) ?_; (refine (elem_PutNode.calls k (⟨#[97]⟩ : ByteArray) _ _ ([] : List ByteArray) _ _ ([] : List (S98)) t101 t102 _ ?side1 ?side2 ?side3 ?side4 A1.out).mono ?_); (case side1 => exact Kd.C_nil _ _); (case side2 => exact Nat.le_refl _); (case side3 => exact Kd.C_nil _ _); (case side4 => exact Nat.le_refl _); rintro e w4 ⟨rfl, hb⟩; refine ⟨_, rfl, ?_⟩; have n0_ := zm (below_step (zq0) hb); clear HB; revert n0_; intro HB; (try clear hb); (try clear hb2); (try clear hk); (try clear hi))); (go_ret); exact ⟨zq5, zq0⟩

end Go.Proofs.Ytmnadajjgnniaaa.MA
end
section
namespace Go.Proofs.Ytmnadajjgnniaaa.MA
open Go.RowKit Go.Proofs.YtmnadajjgnniaaaW.PrintWords Go.Proofs.YtmnadajjgnniaaaW.PrintLast Go.Proofs.YtmnadajjgnniaaaW.PrintMore
attribute [local go_sem] max2_int min2_int max_two min_two max_three min_three max_four min_four

def pleachref05_Is.l0 : Nat → ByteArray → Int → Option (Bool)
  | 0, _, _ => none
  | k + 1, x0, x3 => if x3 < (x0.size : Int) then (if 0 ≤ x3 then (if (bt x0 x3) ≥ 97 then (if (bt x0 x3) ≥ 48 then (if ((bt x0 x3) ≤ 122) then (pleachref05_Is.l0 k x0 (wrap64 (x3 + 1))) else (if ((bt x0 x3) ≤ 57) then (pleachref05_Is.l0 k x0 (wrap64 (x3 + 1))) else (if (bt x0 x3) = 45 then (pleachref05_Is.l0 k x0 (wrap64 (x3 + 1))) else (some false)))) else (if ((bt x0 x3) ≤ 122) then (pleachref05_Is.l0 k x0 (wrap64 (x3 + 1))) else (if (bt x0 x3) = 45 then (pleachref05_Is.l0 k x0 (wrap64 (x3 + 1))) else (some false)))) else (if (bt x0 x3) ≥ 48 then (if ((bt x0 x3) ≤ 57) then (pleachref05_Is.l0 k x0 (wrap64 (x3 + 1))) else (if (bt x0 x3) = 45 then (pleachref05_Is.l0 k x0 (wrap64 (x3 + 1))) else (some false))) else (if (bt x0 x3) = 45 then (pleachref05_Is.l0 k x0 (wrap64 (x3 + 1))) else (some false)))) else (none)) else (if (x0.size : Int) ≥ 1 then (some (decide ((x0.size : Int) ≤ 12))) else (some false))
def pleachref05_Is.f (k : Nat) (a0 : ByteArray) : Option (Bool) := pleachref05_Is.l0 k a0 0
theorem pleachref05_Is.mono_l : ∀ k, (∀ y0 y1, LeO (pleachref05_Is.l0 k y0 y1) (pleachref05_Is.l0 (k + 1) y0 y1))
  | 0 => fun _ _ r h => by simp [pleachref05_Is.l0] at h
  | k + 1 => by
    have ih0 := pleachref05_Is.mono_l k
    · intro y0 y1; unfold pleachref05_Is.l0
      repeat' first
      | (with_reducible exact ih0 _ _)
      | (with_reducible exact LeO.refl _)
      | (with_reducible exact LeO.none _)
      | (with_reducible refine LeO.ite ?_ ?_)
      | (with_reducible refine LeO.bind ?_ (fun _ => ?_))
      | exact ih0 _ _
      | exact LeO.none _
      | refine LeO.ite ?_ ?_
      | refine LeO.bind ?_ (fun _ => ?_)
theorem pleachref05_Is.mono : ∀ a0 k, LeO (pleachref05_Is.f k a0) (pleachref05_Is.f (k + 1) a0) := by
  intro a0 k; have ih0 := pleachref05_Is.mono_l k; unfold pleachref05_Is.f
  repeat' first
      | (with_reducible exact ih0 _ _)
      | (with_reducible exact LeO.refl _)
      | (with_reducible exact LeO.none _)
      | (with_reducible refine LeO.ite ?_ ?_)
      | (with_reducible refine LeO.bind ?_ (fun _ => ?_))
      | exact ih0 _ _
      | exact LeO.none _
      | refine LeO.ite ?_ ?_
      | refine LeO.bind ?_ (fun _ => ?_)
set_option maxHeartbeats 8000000 in
set_option maxRecDepth 100000 in
theorem pleachref05_Is.calls (k : Nat) (a0 : ByteArray) (r : Bool) (w : World) (h : pleachref05_Is.f k a0 = some r) :
    Calls Try.prog 54 #[.string a0] w fun e w' => e = .returned (.bool r) ∧ Drawn0 w w' := by
  have H : (pleachref05_Is.l0 k a0 0) = some r := h; clear h; have H' := Aside0.mk H; clear H; go_enter Try.func54, Try.ntmps54; (go_wp2); (go_loopg [3] k (fun kq v3 w' => ∃ (x3_1 : Int), v3 = .int .i64 x3_1 ∧ Aside0 (pleachref05_Is.l0 kq a0 x3_1 = some r) ∧ Aside0 (kq ≤ k) ∧ Drawn0 w w'))
  case atStart => exact ⟨(0), (zq11), H', ⟨Nat.le_refl _⟩, zq16⟩
  case round =>
    clear H'; obtain ⟨x3_1, rfl, HA, HK1, ⟨m1, rfl⟩⟩ := hrel
    cases gk with
    | zero => exact absurd HA.out (by simp [pleachref05_Is.l0])
    | succ k1 =>
      have H := HA.out; clear HA; simp only [pleachref05_Is.l0] at H; by_cases c2 : x3_1 < (a0.size : Int)
      · rw [if_pos c2] at H; have c2b0 : decide (x3_1 < (a0.size : Int)) = true := decide_eq_true c2; clear c2; by_cases c3 : 0 ≤ x3_1
        · rw [if_pos c3] at H; have c3b0 : decide (0 ≤ x3_1) = true := decide_eq_true c3; clear c3; by_cases c5 : (bt a0 x3_1) ≥ 97
          · rw [if_pos c5] at H; have c5b0 : decide (97 ≤ (bt a0 x3_1)) = true := decide_eq_true c5; clear c5; by_cases c8 : (bt a0 x3_1) ≥ 48
            · rw [if_pos c8] at H; have c8b0 : decide (48 ≤ (bt a0 x3_1)) = true := decide_eq_true c8; clear c8; by_cases c10 : ((bt a0 x3_1) ≤ 122)
              · rw [if_pos c10] at H; have c10b0 : decide ((bt a0 x3_1) ≤ 122) = true := decide_eq_true c10; clear c10; have H' := Aside0.mk H; clear H; have p4 : 0 ≤ (x3_1 : Int) := of_decide_eq_true (zq6); have q4 : x3_1 < (a0.size : Int) := of_decide_eq_true (zq6); have hx4 := bt_at a0 x3_1; replace p4 := eq_true p4; replace q4 := eq_true q4; have p6 : 0 ≤ (x3_1 : Int) := of_decide_eq_true (zq6); have q6 : x3_1 < (a0.size : Int) := of_decide_eq_true (zq6); have hx6 := bt_at a0 x3_1; replace p6 := eq_true p6; replace q6 := eq_true q6; have p7 : 0 ≤ (x3_1 : Int) := of_decide_eq_true (zq6); have q7 : x3_1 < (a0.size : Int) := of_decide_eq_true (zq6); have hx7 := bt_at a0 x3_1; replace p7 := eq_true p7; replace q7 := eq_true q7; have p9 : 0 ≤ (x3_1 : Int) := of_decide_eq_true (zq6); have q9 : x3_1 < (a0.size : Int) := of_decide_eq_true (zq6); have hx9 := bt_at a0 x3_1; replace p9 := eq_true p9; replace q9 := eq_true q9; (go_wp2); (go_roundg k1)
                case measure => have := HK1.out; omega
                case rel => exact ⟨(wrap64 (x3_1 + 1)), (zq11), H', ⟨by have := HK1.out; omega⟩, zq16⟩
              · rw [if_neg c10] at H; have c10b0 : decide ((bt a0 x3_1) ≤ 122) = false := decide_eq_false c10; clear c10; by_cases c11 : ((bt a0 x3_1) ≤ 57)
                · rw [if_pos c11] at H; have c11b0 : decide ((bt a0 x3_1) ≤ 57) = true := decide_eq_true c11; clear c11; have H' := Aside0.mk H; clear H; have p4 : 0 ≤ (x3_1 : Int) := of_decide_eq_true (zq6); have q4 : x3_1 < (a0.size : Int) := of_decide_eq_true (zq6); have hx4 := bt_at a0 x3_1; replace p4 := eq_true p4; replace q4 := eq_true q4; have p6 : 0 ≤ (x3_1 : Int) := of_decide_eq_true (zq6); have q6 : x3_1 < (a0.size : Int) := of_decide_eq_true (zq6); have hx6 := bt_at a0 x3_1; replace p6 := eq_true p6; replace q6 := eq_true q6; have p7 : 0 ≤ (x3_1 : Int) := of_decide_eq_true (zq6); have q7 : x3_1 < (a0.size : Int) := of_decide_eq_true (zq6); have hx7 := bt_at a0 x3_1; replace p7 := eq_true p7; replace q7 := eq_true q7; have p9 : 0 ≤ (x3_1 : Int) := of_decide_eq_true (zq6); have q9 : x3_1 < (a0.size : Int) := of_decide_eq_true (zq6); have hx9 := bt_at a0 x3_1; replace p9 := eq_true p9; replace q9 := eq_true q9; (go_wp2); (go_roundg k1)
                  case measure => have := HK1.out; omega
                  case rel => exact ⟨(wrap64 (x3_1 + 1)), (zq11), H', ⟨by have := HK1.out; omega⟩, zq16⟩
                · rw [if_neg c11] at H; have c11b0 : decide ((bt a0 x3_1) ≤ 57) = false := decide_eq_false c11; clear c11; by_cases c13 : (bt a0 x3_1) = 45
                  · rw [if_pos c13] at H; have c13b0 : ((bt a0 x3_1) == 45) = true := beq_iff_eq.mpr c13; have c13b1 : ((bt a0 x3_1) != 45) = false := bne_eq_false_iff_eq.mpr c13; clear c13; have H' := Aside0.mk H; clear H; have p4 : 0 ≤ (x3_1 : Int) := of_decide_eq_true (zq6); have q4 : x3_1 < (a0.size : Int) := of_decide_eq_true (zq6); have hx4 := bt_at a0 x3_1; replace p4 := eq_true p4; replace q4 := eq_true q4; have p6 : 0 ≤ (x3_1 : Int) := of_decide_eq_true (zq6); have q6 : x3_1 < (a0.size : Int) := of_decide_eq_true (zq6); have hx6 := bt_at a0 x3_1; replace p6 := eq_true p6; replace q6 := eq_true q6; have p7 : 0 ≤ (x3_1 : Int) := of_decide_eq_true (zq6); have q7 : x3_1 < (a0.size : Int) := of_decide_eq_true (zq6); have hx7 := bt_at a0 x3_1; replace p7 := eq_true p7; replace q7 := eq_true q7; have p9 : 0 ≤ (x3_1 : Int) := of_decide_eq_true (zq6); have q9 : x3_1 < (a0.size : Int) := of_decide_eq_true (zq6); have hx9 := bt_at a0 x3_1; replace p9 := eq_true p9; replace q9 := eq_true q9; have p12 : 0 ≤ (x3_1 : Int) := of_decide_eq_true (zq6); have q12 : x3_1 < (a0.size : Int) := of_decide_eq_true (zq6); have hx12 := bt_at a0 x3_1; replace p12 := eq_true p12; replace q12 := eq_true q12; (go_wp2); (go_roundg k1)
                    case measure => have := HK1.out; omega
                    case rel => exact ⟨(wrap64 (x3_1 + 1)), (zq11), H', ⟨by have := HK1.out; omega⟩, zq16⟩
                  · rw [if_neg c13] at H; have c13b0 : ((bt a0 x3_1) == 45) = false := beq_eq_false_iff_ne.mpr c13; have c13b1 : ((bt a0 x3_1) != 45) = true := bne_iff_ne.mpr c13; obtain rfl := Option.some.inj H; have p4 : 0 ≤ (x3_1 : Int) := of_decide_eq_true (zq6); have q4 : x3_1 < (a0.size : Int) := of_decide_eq_true (zq6); have hx4 := bt_at a0 x3_1; replace p4 := eq_true p4; replace q4 := eq_true q4; have p6 : 0 ≤ (x3_1 : Int) := of_decide_eq_true (zq6); have q6 : x3_1 < (a0.size : Int) := of_decide_eq_true (zq6); have hx6 := bt_at a0 x3_1; replace p6 := eq_true p6; replace q6 := eq_true q6; have p7 : 0 ≤ (x3_1 : Int) := of_decide_eq_true (zq6); have q7 : x3_1 < (a0.size : Int) := of_decide_eq_true (zq6); have hx7 := bt_at a0 x3_1; replace p7 := eq_true p7; replace q7 := eq_true q7; have p9 : 0 ≤ (x3_1 : Int) := of_decide_eq_true (zq6); have q9 : x3_1 < (a0.size : Int) := of_decide_eq_true (zq6); have hx9 := bt_at a0 x3_1; replace p9 := eq_true p9; replace q9 := eq_true q9; have p12 : 0 ≤ (x3_1 : Int) := of_decide_eq_true (zq6); have q12 : x3_1 < (a0.size : Int) := of_decide_eq_true (zq6); have hx12 := bt_at a0 x3_1; replace p12 := eq_true p12; replace q12 := eq_true q12; (go_wp2); (go_ret); exact ⟨zq11, zq16⟩
            · rw [if_neg c8] at H; have c8b0 : decide (48 ≤ (bt a0 x3_1)) = false := decide_eq_false c8; clear c8; by_cases c14 : ((bt a0 x3_1) ≤ 122)
              · rw [if_pos c14] at H; have c14b0 : decide ((bt a0 x3_1) ≤ 122) = true := decide_eq_true c14; clear c14; have H' := Aside0.mk H; clear H; have p4 : 0 ≤ (x3_1 : Int) := of_decide_eq_true (zq6); have q4 : x3_1 < (a0.size : Int) := of_decide_eq_true (zq6); have hx4 := bt_at a0 x3_1; replace p4 := eq_true p4; replace q4 := eq_true q4; have p6 : 0 ≤ (x3_1 : Int) := of_decide_eq_true (zq6); have q6 : x3_1 < (a0.size : Int) := of_decide_eq_true (zq6); have hx6 := bt_at a0 x3_1; replace p6 := eq_true p6; replace q6 := eq_true q6; have p7 : 0 ≤ (x3_1 : Int) := of_decide_eq_true (zq6); have q7 : x3_1 < (a0.size : Int) := of_decide_eq_true (zq6); have hx7 := bt_at a0 x3_1; replace p7 := eq_true p7; replace q7 := eq_true q7; (go_wp2); (go_roundg k1)
                case measure => have := HK1.out; omega
                case rel => exact ⟨(wrap64 (x3_1 + 1)), (zq11), H', ⟨by have := HK1.out; omega⟩, zq16⟩
              · rw [if_neg c14] at H; have c14b0 : decide ((bt a0 x3_1) ≤ 122) = false := decide_eq_false c14; clear c14; by_cases c16 : (bt a0 x3_1) = 45
                · rw [if_pos c16] at H; have c16b0 : ((bt a0 x3_1) == 45) = true := beq_iff_eq.mpr c16; have c16b1 : ((bt a0 x3_1) != 45) = false := bne_eq_false_iff_eq.mpr c16; clear c16; have H' := Aside0.mk H; clear H; have p4 : 0 ≤ (x3_1 : Int) := of_decide_eq_true (zq6); have q4 : x3_1 < (a0.size : Int) := of_decide_eq_true (zq6); have hx4 := bt_at a0 x3_1; replace p4 := eq_true p4; replace q4 := eq_true q4; have p6 : 0 ≤ (x3_1 : Int) := of_decide_eq_true (zq6); have q6 : x3_1 < (a0.size : Int) := of_decide_eq_true (zq6); have hx6 := bt_at a0 x3_1; replace p6 := eq_true p6; replace q6 := eq_true q6; have p7 : 0 ≤ (x3_1 : Int) := of_decide_eq_true (zq6); have q7 : x3_1 < (a0.size : Int) := of_decide_eq_true (zq6); have hx7 := bt_at a0 x3_1; replace p7 := eq_true p7; replace q7 := eq_true q7; have p15 : 0 ≤ (x3_1 : Int) := of_decide_eq_true (zq6); have q15 : x3_1 < (a0.size : Int) := of_decide_eq_true (zq6); have hx15 := bt_at a0 x3_1; replace p15 := eq_true p15; replace q15 := eq_true q15; (go_wp2); (go_roundg k1)
                  case measure => have := HK1.out; omega
                  case rel => exact ⟨(wrap64 (x3_1 + 1)), (zq11), H', ⟨by have := HK1.out; omega⟩, zq16⟩
                · rw [if_neg c16] at H; have c16b0 : ((bt a0 x3_1) == 45) = false := beq_eq_false_iff_ne.mpr c16; have c16b1 : ((bt a0 x3_1) != 45) = true := bne_iff_ne.mpr c16; obtain rfl := Option.some.inj H; have p4 : 0 ≤ (x3_1 : Int) := of_decide_eq_true (zq6); have q4 : x3_1 < (a0.size : Int) := of_decide_eq_true (zq6); have hx4 := bt_at a0 x3_1; replace p4 := eq_true p4; replace q4 := eq_true q4; have p6 : 0 ≤ (x3_1 : Int) := of_decide_eq_true (zq6); have q6 : x3_1 < (a0.size : Int) := of_decide_eq_true (zq6); have hx6 := bt_at a0 x3_1; replace p6 := eq_true p6; replace q6 := eq_true q6; have p7 : 0 ≤ (x3_1 : Int) := of_decide_eq_true (zq6); have q7 : x3_1 < (a0.size : Int) := of_decide_eq_true (zq6); have hx7 := bt_at a0 x3_1; replace p7 := eq_true p7; replace q7 := eq_true q7; have p15 : 0 ≤ (x3_1 : Int) := of_decide_eq_true (zq6); have q15 : x3_1 < (a0.size : Int) := of_decide_eq_true (zq6); have hx15 := bt_at a0 x3_1; replace p15 := eq_true p15; replace q15 := eq_true q15; (go_wp2); (go_ret); exact ⟨zq11, zq16⟩
          · rw [if_neg c5] at H; have c5b0 : decide (97 ≤ (bt a0 x3_1)) = false := decide_eq_false c5; clear c5; by_cases c18 : (bt a0 x3_1) ≥ 48
            · rw [if_pos c18] at H; have c18b0 : decide (48 ≤ (bt a0 x3_1)) = true := decide_eq_true c18; clear c18; by_cases c20 : ((bt a0 x3_1) ≤ 57)
              · rw [if_pos c20] at H; have c20b0 : decide ((bt a0 x3_1) ≤ 57) = true := decide_eq_true c20; clear c20; have H' := Aside0.mk H; clear H; have p4 : 0 ≤ (x3_1 : Int) := of_decide_eq_true (zq6); have q4 : x3_1 < (a0.size : Int) := of_decide_eq_true (zq6); have hx4 := bt_at a0 x3_1; replace p4 := eq_true p4; replace q4 := eq_true q4; have p17 : 0 ≤ (x3_1 : Int) := of_decide_eq_true (zq6); have q17 : x3_1 < (a0.size : Int) := of_decide_eq_true (zq6); have hx17 := bt_at a0 x3_1; replace p17 := eq_true p17; replace q17 := eq_true q17; have p19 : 0 ≤ (x3_1 : Int) := of_decide_eq_true (zq6); have q19 : x3_1 < (a0.size : Int) := of_decide_eq_true (zq6); have hx19 := bt_at a0 x3_1; replace p19 := eq_true p19; replace q19 := eq_true q19; (go_wp2); (go_roundg k1)
                case measure => have := HK1.out; omega
                case rel => exact ⟨(wrap64 (x3_1 + 1)), (zq11), H', ⟨by have := HK1.out; omega⟩, zq16⟩
              · rw [if_neg c20] at H; have c20b0 : decide ((bt a0 x3_1) ≤ 57) = false := decide_eq_false c20; clear c20; by_cases c22 : (bt a0 x3_1) = 45
                · rw [if_pos c22] at H; have c22b0 : ((bt a0 x3_1) == 45) = true := beq_iff_eq.mpr c22; have c22b1 : ((bt a0 x3_1) != 45) = false := bne_eq_false_iff_eq.mpr c22; clear c22; have H' := Aside0.mk H; clear H; have p4 : 0 ≤ (x3_1 : Int) := of_decide_eq_true (zq6); have q4 : x3_1 < (a0.size : Int) := of_decide_eq_true (zq6); have hx4 := bt_at a0 x3_1; replace p4 := eq_true p4; replace q4 := eq_true q4; have p17 : 0 ≤ (x3_1 : Int) := of_decide_eq_true (zq6); have q17 : x3_1 < (a0.size : Int) := of_decide_eq_true (zq6); have hx17 := bt_at a0 x3_1; replace p17 := eq_true p17; replace q17 := eq_true q17; have p19 : 0 ≤ (x3_1 : Int) := of_decide_eq_true (zq6); have q19 : x3_1 < (a0.size : Int) := of_decide_eq_true (zq6); have hx19 := bt_at a0 x3_1; replace p19 := eq_true p19; replace q19 := eq_true q19; have p21 : 0 ≤ (x3_1 : Int) := of_decide_eq_true (zq6); have q21 : x3_1 < (a0.size : Int) := of_decide_eq_true (zq6); have hx21 := bt_at a0 x3_1; replace p21 := eq_true p21; replace q21 := eq_true q21; (go_wp2); (go_roundg k1)
                  case measure => have := HK1.out; omega
                  case rel => exact ⟨(wrap64 (x3_1 + 1)), (zq11), H', ⟨by have := HK1.out; omega⟩, zq16⟩
                · rw [if_neg c22] at H; have c22b0 : ((bt a0 x3_1) == 45) = false := beq_eq_false_iff_ne.mpr c22; have c22b1 : ((bt a0 x3_1) != 45) = true := bne_iff_ne.mpr c22; obtain rfl := Option.some.inj H; have p4 : 0 ≤ (x3_1 : Int) := of_decide_eq_true (zq6); have q4 : x3_1 < (a0.size : Int) := of_decide_eq_true (zq6); have hx4 := bt_at a0 x3_1; replace p4 := eq_true p4; replace q4 := eq_true q4; have p17 : 0 ≤ (x3_1 : Int) := of_decide_eq_true (zq6); have q17 : x3_1 < (a0.size : Int) := of_decide_eq_true (zq6); have hx17 := bt_at a0 x3_1; replace p17 := eq_true p17; replace q17 := eq_true q17; have p19 : 0 ≤ (x3_1 : Int) := of_decide_eq_true (zq6); have q19 : x3_1 < (a0.size : Int) := of_decide_eq_true (zq6); have hx19 := bt_at a0 x3_1; replace p19 := eq_true p19; replace q19 := eq_true q19; have p21 : 0 ≤ (x3_1 : Int) := of_decide_eq_true (zq6); have q21 : x3_1 < (a0.size : Int) := of_decide_eq_true (zq6); have hx21 := bt_at a0 x3_1; replace p21 := eq_true p21; replace q21 := eq_true q21; (go_wp2); (go_ret); exact ⟨zq11, zq16⟩
            · rw [if_neg c18] at H; have c18b0 : decide (48 ≤ (bt a0 x3_1)) = false := decide_eq_false c18; clear c18; by_cases c24 : (bt a0 x3_1) = 45
              · rw [if_pos c24] at H; have c24b0 : ((bt a0 x3_1) == 45) = true := beq_iff_eq.mpr c24; have c24b1 : ((bt a0 x3_1) != 45) = false := bne_eq_false_iff_eq.mpr c24; clear c24; have H' := Aside0.mk H; clear H; have p4 : 0 ≤ (x3_1 : Int) := of_decide_eq_true (zq6); have q4 : x3_1 < (a0.size : Int) := of_decide_eq_true (zq6); have hx4 := bt_at a0 x3_1; replace p4 := eq_true p4; replace q4 := eq_true q4; have p17 : 0 ≤ (x3_1 : Int) := of_decide_eq_true (zq6); have q17 : x3_1 < (a0.size : Int) := of_decide_eq_true (zq6); have hx17 := bt_at a0 x3_1; replace p17 := eq_true p17; replace q17 := eq_true q17; have p23 : 0 ≤ (x3_1 : Int) := of_decide_eq_true (zq6); have q23 : x3_1 < (a0.size : Int) := of_decide_eq_true (zq6); have hx23 := bt_at a0 x3_1; replace p23 := eq_true p23; replace q23 := eq_true q23; (go_wp2); (go_roundg k1)
                case measure => have := HK1.out; omega
                case rel => exact ⟨(wrap64 (x3_1 + 1)), (zq11), H', ⟨by have := HK1.out; omega⟩, zq16⟩
              · rw [if_neg c24] at H; have c24b0 : ((bt a0 x3_1) == 45) = false := beq_eq_false_iff_ne.mpr c24; have c24b1 : ((bt a0 x3_1) != 45) = true := bne_iff_ne.mpr c24; obtain rfl := Option.some.inj H; have p4 : 0 ≤ (x3_1 : Int) := of_decide_eq_true (zq6); have q4 : x3_1 < (a0.size : Int) := of_decide_eq_true (zq6); have hx4 := bt_at a0 x3_1; replace p4 := eq_true p4; replace q4 := eq_true q4; have p17 : 0 ≤ (x3_1 : Int) := of_decide_eq_true (zq6); have q17 : x3_1 < (a0.size : Int) := of_decide_eq_true (zq6); have hx17 := bt_at a0 x3_1; replace p17 := eq_true p17; replace q17 := eq_true q17; have p23 : 0 ≤ (x3_1 : Int) := of_decide_eq_true (zq6); have q23 : x3_1 < (a0.size : Int) := of_decide_eq_true (zq6); have hx23 := bt_at a0 x3_1; replace p23 := eq_true p23; replace q23 := eq_true q23; (go_wp2); (go_ret); exact ⟨zq11, zq16⟩
        · rw [if_neg c3] at H; exact absurd H (by simp)
      · rw [if_neg c2] at H; have c2b0 : decide (x3_1 < (a0.size : Int)) = false := decide_eq_false c2; clear c2; by_cases c25 : (a0.size : Int) ≥ 1
        · rw [if_pos c25] at H; have c25b0 : decide (1 ≤ (a0.size : Int)) = true := decide_eq_true c25; have c25b1 : decide (1 ≤ a0.size) = true := decide_eq_true (by omega); clear c25; obtain rfl := Option.some.inj H; (go_wp2); (go_ret); exact ⟨zq11, zq16⟩
        · rw [if_neg c25] at H; have c25b0 : decide (1 ≤ (a0.size : Int)) = false := decide_eq_false c25; have c25b1 : decide (1 ≤ a0.size) = false := decide_eq_false (by omega); clear c25; obtain rfl := Option.some.inj H; (go_wp2); (go_ret); exact ⟨zq11, zq16⟩

end Go.Proofs.Ytmnadajjgnniaaa.MA
end
section
namespace Go.Proofs.Ytmnadajjgnniaaa.MA
open Go.RowKit Go.Proofs.YtmnadajjgnniaaaW.PrintWords Go.Proofs.YtmnadajjgnniaaaW.PrintLast Go.Proofs.YtmnadajjgnniaaaW.PrintMore
attribute [local go_sem] max2_int min2_int max_two min_two max_three min_three max_four min_four

def pleachref06_Is.f (a0_0 : Int) (a0_1 : Int) (a0_2 : ByteArray) : Option (Bool) := if a0_0 = 1 then (if a0_1 ≥ 0 then (if a0_1 ≤ 1 then (some (a0_2.toList == ([] : List UInt8))) else (some false)) else (some false)) else (if a0_0 = 2 then (some (a0_2.toList == ([] : List UInt8))) else (if a0_0 = 3 then (if a0_1 = 0 then (some (decide ((a0_2.size : Int) ≤ 64))) else (some false)) else (some false)))
set_option maxHeartbeats 8000000 in
set_option maxRecDepth 100000 in
theorem pleachref06_Is.calls (a0_0 : Int) (a0_1 : Int) (a0_2 : ByteArray) (r : Bool) (w : World) (h : pleachref06_Is.f a0_0 a0_1 a0_2 = some r) :
    Calls Try.prog 59 #[.agg #[.int .i64 a0_0, .int .i64 a0_1, .string a0_2]] w fun e w' => e = .returned (.bool r) ∧ Below w.heap.size w w' := by
  have hu80 := Try.underlying80; have HB := zm (Below.refl w.heap.size w); have H : (if a0_0 = 1 then (if a0_1 ≥ 0 then (if a0_1 ≤ 1 then (some (a0_2.toList == ([] : List UInt8))) else (some false)) else (some false)) else (if a0_0 = 2 then (some (a0_2.toList == ([] : List UInt8))) else (if a0_0 = 3 then (if a0_1 = 0 then (some (decide ((a0_2.size : Int) ≤ 64))) else (some false)) else (some false)))) = some r := h; clear h; by_cases c2 : a0_0 = 1
  · rw [if_pos c2] at H; have c2b0 : (a0_0 == 1) = true := beq_iff_eq.mpr c2; have c2b1 : (a0_0 != 1) = false := bne_eq_false_iff_eq.mpr c2; clear c2; by_cases c3 : a0_1 ≥ 0
    · rw [if_pos c3] at H; have c3b0 : decide (0 ≤ a0_1) = true := decide_eq_true c3; clear c3; by_cases c4 : a0_1 ≤ 1
      · rw [if_pos c4] at H; have c4b0 : decide (a0_1 ≤ 1) = true := decide_eq_true c4; clear c4; obtain rfl := Option.some.inj H; go_enter Try.func59, Try.ntmps59; go_wp2_with (first | ((with_reducible refine gate_dst (N := 1) rfl ?_); (try (refine gate_guard (by rfl) ?_; dsimp only)); refine box_event ?hg (N := 1) ?hd (cs := #[.int .i64 a0_0, .int .i64 a0_1, .string a0_2]) (t := 80) ?hr ?_; (case hd => rfl); (case hg => rfl); (case hr => first | (go_simp; done) | (go_simp; rfl)); intro gb101 hg w5 hbox hb; have n0_ := zm (below_step (zq0) hb); have n1_ := zm (hbox); have n2_ := zm ((by rw [hg]; exact (below_size (zq0)) : w.heap.size ≤ gb101)); have n3_ := zm ((by rw [hg]; exact (below_size (zq0)) : w.heap.size ≤ gb101)); clear HB; revert n0_ n1_ n2_ n3_; intro HB BK101 GW101 GE101; clear hb hbox hg; have hcz6_0 : w5.cell? ⟨gb101, 0, none⟩ = some (.int .i64 a0_0) := (blk_cell BK101.out 0).trans rfl; have hcz6_1 : w5.cell? ⟨gb101, 1, none⟩ = some (.int .i64 a0_1) := (blk_cell BK101.out 1).trans rfl; have hcz6_2 : w5.cell? ⟨gb101, 2, none⟩ = some (.string a0_2) := (blk_cell BK101.out 2).trans rfl; have hfz6_0 := blk_frozen BK101.out 0; have hfz6_1 := blk_frozen BK101.out 1; have hfz6_2 := blk_frozen BK101.out 2)); (go_ret); exact ⟨zq5, zq1⟩
      · rw [if_neg c4] at H; have c4b0 : decide (a0_1 ≤ 1) = false := decide_eq_false c4; clear c4; obtain rfl := Option.some.inj H; go_enter Try.func59, Try.ntmps59; go_wp2_with (first | ((with_reducible refine gate_dst (N := 1) rfl ?_); (try (refine gate_guard (by rfl) ?_; dsimp only)); refine box_event ?hg (N := 1) ?hd (cs := #[.int .i64 a0_0, .int .i64 a0_1, .string a0_2]) (t := 80) ?hr ?_; (case hd => rfl); (case hg => rfl); (case hr => first | (go_simp; done) | (go_simp; rfl)); intro gb101 hg w7 hbox hb; have n0_ := zm (below_step (zq0) hb); have n1_ := zm (hbox); have n2_ := zm ((by rw [hg]; exact (below_size (zq0)) : w.heap.size ≤ gb101)); have n3_ := zm ((by rw [hg]; exact (below_size (zq0)) : w.heap.size ≤ gb101)); clear HB; revert n0_ n1_ n2_ n3_; intro HB BK101 GW101 GE101; clear hb hbox hg; have hcz8_0 : w7.cell? ⟨gb101, 0, none⟩ = some (.int .i64 a0_0) := (blk_cell BK101.out 0).trans rfl; have hcz8_1 : w7.cell? ⟨gb101, 1, none⟩ = some (.int .i64 a0_1) := (blk_cell BK101.out 1).trans rfl; have hcz8_2 : w7.cell? ⟨gb101, 2, none⟩ = some (.string a0_2) := (blk_cell BK101.out 2).trans rfl; have hfz8_0 := blk_frozen BK101.out 0; have hfz8_1 := blk_frozen BK101.out 1; have hfz8_2 := blk_frozen BK101.out 2)); (go_ret); exact ⟨zq5, zq1⟩
    · rw [if_neg c3] at H; have c3b0 : decide (0 ≤ a0_1) = false := decide_eq_false c3; clear c3; obtain rfl := Option.some.inj H; go_enter Try.func59, Try.ntmps59; go_wp2_with (first | ((with_reducible refine gate_dst (N := 1) rfl ?_); (try (refine gate_guard (by rfl) ?_; dsimp only)); refine box_event ?hg (N := 1) ?hd (cs := #[.int .i64 a0_0, .int .i64 a0_1, .string a0_2]) (t := 80) ?hr ?_; (case hd => rfl); (case hg => rfl); (case hr => first | (go_simp; done) | (go_simp; rfl)); intro gb101 hg w9 hbox hb; have n0_ := zm (below_step (zq0) hb); have n1_ := zm (hbox); have n2_ := zm ((by rw [hg]; exact (below_size (zq0)) : w.heap.size ≤ gb101)); have n3_ := zm ((by rw [hg]; exact (below_size (zq0)) : w.heap.size ≤ gb101)); clear HB; revert n0_ n1_ n2_ n3_; intro HB BK101 GW101 GE101; clear hb hbox hg; have hcz10_0 : w9.cell? ⟨gb101, 0, none⟩ = some (.int .i64 a0_0) := (blk_cell BK101.out 0).trans rfl; have hcz10_1 : w9.cell? ⟨gb101, 1, none⟩ = some (.int .i64 a0_1) := (blk_cell BK101.out 1).trans rfl; have hcz10_2 : w9.cell? ⟨gb101, 2, none⟩ = some (.string a0_2) := (blk_cell BK101.out 2).trans rfl; have hfz10_0 := blk_frozen BK101.out 0; have hfz10_1 := blk_frozen BK101.out 1; have hfz10_2 := blk_frozen BK101.out 2)); (go_ret); exact ⟨zq5, zq1⟩
  · rw [if_neg c2] at H; have c2b0 : (a0_0 == 1) = false := beq_eq_false_iff_ne.mpr c2; have c2b1 : (a0_0 != 1) = true := bne_iff_ne.mpr c2; by_cases c11 : a0_0 = 2
    · rw [if_pos c11] at H; have c11b0 : (a0_0 == 2) = true := beq_iff_eq.mpr c11; have c11b1 : (a0_0 != 2) = false := bne_eq_false_iff_eq.mpr c11; clear c11; obtain rfl := Option.some.inj H; go_enter Try.func59, Try.ntmps59; go_wp2_with (first | ((with_reducible refine gate_dst (N := 1) rfl ?_); (try (refine gate_guard (by rfl) ?_; dsimp only)); refine box_event ?hg (N := 1) ?hd (cs := #[.int .i64 a0_0, .int .i64 a0_1, .string a0_2]) (t := 80) ?hr ?_; (case hd => rfl); (case hg => rfl); (case hr => first | (go_simp; done) | (go_simp; rfl)); intro gb101 hg w12 hbox hb; have n0_ := zm (below_step (zq0) hb); have n1_ := zm (hbox); have n2_ := zm ((by rw [hg]; exact (below_size (zq0)) : w.heap.size ≤ gb101)); have n3_ := zm ((by rw [hg]; exact (below_size (zq0)) : w.heap.size ≤ gb101)); clear HB; revert n0_ n1_ n2_ n3_; intro HB BK101 GW101 GE101; clear hb hbox hg; have hcz13_0 : w12.cell? ⟨gb101, 0, none⟩ = some (.int .i64 a0_0) := (blk_cell BK101.out 0).trans rfl; have hcz13_1 : w12.cell? ⟨gb101, 1, none⟩ = some (.int .i64 a0_1) := (blk_cell BK101.out 1).trans rfl; have hcz13_2 : w12.cell? ⟨gb101, 2, none⟩ = some (.string a0_2) := (blk_cell BK101.out 2).trans rfl; have hfz13_0 := blk_frozen BK101.out 0; have hfz13_1 := blk_frozen BK101.out 1; have hfz13_2 := blk_frozen BK101.out 2)); (go_ret); exact ⟨zq5, zq1⟩
    · rw [if_neg c11] at H; have c11b0 : (a0_0 == 2) = false := beq_eq_false_iff_ne.mpr c11; have c11b1 : (a0_0 != 2) = true := bne_iff_ne.mpr c11; by_cases c14 : a0_0 = 3
      · rw [if_pos c14] at H; have c14b0 : (a0_0 == 3) = true := beq_iff_eq.mpr c14; have c14b1 : (a0_0 != 3) = false := bne_eq_false_iff_eq.mpr c14; clear c14; by_cases c15 : a0_1 = 0
        · rw [if_pos c15] at H; have c15b0 : (a0_1 == 0) = true := beq_iff_eq.mpr c15; have c15b1 : (a0_1 != 0) = false := bne_eq_false_iff_eq.mpr c15; clear c15; obtain rfl := Option.some.inj H; go_enter Try.func59, Try.ntmps59; go_wp2_with (first | ((with_reducible refine gate_dst (N := 1) rfl ?_); (try (refine gate_guard (by rfl) ?_; dsimp only)); refine box_event ?hg (N := 1) ?hd (cs := #[.int .i64 a0_0, .int .i64 a0_1, .string a0_2]) (t := 80) ?hr ?_; (case hd => rfl); (case hg => rfl); (case hr => first | (go_simp; done) | (go_simp; rfl)); intro gb101 hg w16 hbox hb; have n0_ := zm (below_step (zq0) hb); have n1_ := zm (hbox); have n2_ := zm ((by rw [hg]; exact (below_size (zq0)) : w.heap.size ≤ gb101)); have n3_ := zm ((by rw [hg]; exact (below_size (zq0)) : w.heap.size ≤ gb101)); clear HB; revert n0_ n1_ n2_ n3_; intro HB BK101 GW101 GE101; clear hb hbox hg; have hcz17_0 : w16.cell? ⟨gb101, 0, none⟩ = some (.int .i64 a0_0) := (blk_cell BK101.out 0).trans rfl; have hcz17_1 : w16.cell? ⟨gb101, 1, none⟩ = some (.int .i64 a0_1) := (blk_cell BK101.out 1).trans rfl; have hcz17_2 : w16.cell? ⟨gb101, 2, none⟩ = some (.string a0_2) := (blk_cell BK101.out 2).trans rfl; have hfz17_0 := blk_frozen BK101.out 0; have hfz17_1 := blk_frozen BK101.out 1; have hfz17_2 := blk_frozen BK101.out 2)); (go_ret); exact ⟨zq5, zq1⟩
        · rw [if_neg c15] at H; have c15b0 : (a0_1 == 0) = false := beq_eq_false_iff_ne.mpr c15; have c15b1 : (a0_1 != 0) = true := bne_iff_ne.mpr c15; obtain rfl := Option.some.inj H; go_enter Try.func59, Try.ntmps59; go_wp2_with (first | ((with_reducible refine gate_dst (N := 1) rfl ?_); (try (refine gate_guard (by rfl) ?_; dsimp only)); refine box_event ?hg (N := 1) ?hd (cs := #[.int .i64 a0_0, .int .i64 a0_1, .string a0_2]) (t := 80) ?hr ?_; (case hd => rfl); (case hg => rfl); (case hr => first | (go_simp; done) | (go_simp; rfl)); intro gb101 hg w18 hbox hb; have n0_ := zm (below_step (zq0) hb); have n1_ := zm (hbox); have n2_ := zm ((by rw [hg]; exact (below_size (zq0)) : w.heap.size ≤ gb101)); have n3_ := zm ((by rw [hg]; exact (below_size (zq0)) : w.heap.size ≤ gb101)); clear HB; revert n0_ n1_ n2_ n3_; intro HB BK101 GW101 GE101; clear hb hbox hg; have hcz19_0 : w18.cell? ⟨gb101, 0, none⟩ = some (.int .i64 a0_0) := (blk_cell BK101.out 0).trans rfl; have hcz19_1 : w18.cell? ⟨gb101, 1, none⟩ = some (.int .i64 a0_1) := (blk_cell BK101.out 1).trans rfl; have hcz19_2 : w18.cell? ⟨gb101, 2, none⟩ = some (.string a0_2) := (blk_cell BK101.out 2).trans rfl; have hfz19_0 := blk_frozen BK101.out 0; have hfz19_1 := blk_frozen BK101.out 1; have hfz19_2 := blk_frozen BK101.out 2)); (go_ret); exact ⟨zq5, zq1⟩
      · rw [if_neg c14] at H; have c14b0 : (a0_0 == 3) = false := beq_eq_false_iff_ne.mpr c14; have c14b1 : (a0_0 != 3) = true := bne_iff_ne.mpr c14; obtain rfl := Option.some.inj H; go_enter Try.func59, Try.ntmps59; go_wp2_with (first | ((with_reducible refine gate_dst (N := 1) rfl ?_); (try (refine gate_guard (by rfl) ?_; dsimp only)); refine box_event ?hg (N := 1) ?hd (cs := #[.int .i64 a0_0, .int .i64 a0_1, .string a0_2]) (t := 80) ?hr ?_; (case hd => rfl); (case hg => rfl); (case hr => first | (go_simp; done) | (go_simp; rfl)); intro gb101 hg w20 hbox hb; have n0_ := zm (below_step (zq0) hb); have n1_ := zm (hbox); have n2_ := zm ((by rw [hg]; exact (below_size (zq0)) : w.heap.size ≤ gb101)); have n3_ := zm ((by rw [hg]; exact (below_size (zq0)) : w.heap.size ≤ gb101)); clear HB; revert n0_ n1_ n2_ n3_; intro HB BK101 GW101 GE101; clear hb hbox hg; have hcz21_0 : w20.cell? ⟨gb101, 0, none⟩ = some (.int .i64 a0_0) := (blk_cell BK101.out 0).trans rfl; have hcz21_1 : w20.cell? ⟨gb101, 1, none⟩ = some (.int .i64 a0_1) := (blk_cell BK101.out 1).trans rfl; have hcz21_2 : w20.cell? ⟨gb101, 2, none⟩ = some (.string a0_2) := (blk_cell BK101.out 2).trans rfl; have hfz21_0 := blk_frozen BK101.out 0; have hfz21_1 := blk_frozen BK101.out 1; have hfz21_2 := blk_frozen BK101.out 2)); (go_ret); exact ⟨zq5, zq1⟩

end Go.Proofs.Ytmnadajjgnniaaa.MA
end
