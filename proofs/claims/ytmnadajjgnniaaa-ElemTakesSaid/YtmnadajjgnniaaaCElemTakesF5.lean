/- Walks of the functions of the given program that the law reaches, what they compute, and laws on that. Conditions: as each theorem says. -/
import Derived.Laws.BitsLemmas
import Derived.Test.YtmnadajjgnniaaaCElemTakesF1
import Derived.Test.YtmnadajjgnniaaaCElemTakesF2
import Derived.Test.YtmnadajjgnniaaaCElemTakesF3
import Derived.Test.YtmnadajjgnniaaaCElemTakesF4
import Derived.Test.YtmnadajjgnniaaaCElemTakesW1
set_option linter.unusedVariables false
set_option linter.unusedSimpArgs false
section
namespace Go.Proofs.Ytmnadajjgnniaaa.MA
open Go.RowKit Go.Proofs.YtmnadajjgnniaaaW.PrintWords Go.Proofs.YtmnadajjgnniaaaW.PrintLast Go.Proofs.YtmnadajjgnniaaaW.PrintMore
attribute [local go_sem] max2_int min2_int max_two min_two max_three min_three max_four min_four

set_option maxRecDepth 100000 in
theorem zl92x0 {P : Prop} (h : P := by go_wp2_with (first | ((with_reducible refine gate_callee (f := 34) rfl ?_); refine goesL_ (some 25) rfl rfl Try.func34 (by kernel_rfl) rfl #[.string a0, .string a1] rfl (zq2) ?_; (with_reducible refine (elem_TakeNode.calls kj2 a0 a1 t102 t103 t106 t109 _ A8.out).mono ?_); rintro e w3001 ⟨v104, v107, rfl, ho0, ho1, hb⟩; refine ⟨_, rfl, ?_⟩; have n0_ := zm (Kd.R_lower ho0 (below_size (zq0))); have n1_ := zm (Kd.R_lower ho1 (below_size (zq0))); have n2_ := zm (below_step (zq0) hb); clear HB; revert n0_ n1_ n2_; intro HO105 HO108 HB; (try clear hb); (try clear hb2); (try clear hk); (try clear hi); (try clear ho0); (try clear ho1)) | ((with_reducible refine gate_dst (N := 5) rfl ?_); (try (refine gate_guard (by rfl) ?_; dsimp only)); refine box_event ?hg (N := 5) ?hd (cs := #[.string (⟨#[]⟩ : ByteArray), .slice none 0 0, .slice none 0 0]) (t := 25) ?hr ?_; (case hd => rfl); (case hg => rfl); (case hr => first | (go_simp; done) | (go_simp; rfl)); intro gb110 hg w3002 hbox hb; have n0_ := zm (Kd.R_below (zq49) hb); have n1_ := zm (Kd.R_below (zq71) hb); have n2_ := zm (below_step (zq0) hb); have n3_ := zm (hbox); have n4_ := zm ((by rw [hg]; exact (below_size (zq0)) : w.heap.size ≤ gb110)); have n5_ := zm ((by rw [hg]; exact (below_size (zq0)) : w.heap.size ≤ gb110)); clear HO105 HO108 HB; revert n0_ n1_ n2_ n3_ n4_ n5_; intro HO105 HO108 HB BK110 GW110 GE110; clear hb hbox hg; have hcz3003_0 : w3002.cell? ⟨gb110, 0, none⟩ = some (.string (⟨#[]⟩ : ByteArray)) := (blk_cell BK110.out 0).trans rfl; have hcz3003_1 : w3002.cell? ⟨gb110, 1, none⟩ = some (.slice none 0 0) := (blk_cell BK110.out 1).trans rfl; have hcz3003_2 : w3002.cell? ⟨gb110, 2, none⟩ = some (.slice none 0 0) := (blk_cell BK110.out 2).trans rfl; have hfz3003_0 := blk_frozen BK110.out 0; have hfz3003_1 := blk_frozen BK110.out 1; have hfz3003_2 := blk_frozen BK110.out 2; obtain ⟨Ao3004, co3004, eo3004⟩ := Kd.R_slice HO105.out; subst eo3004; obtain ⟨Ao3005, co3005, eo3005⟩ := Kd.R_slice HO108.out; subst eo3005) | ((with_reducible refine gate_callee (f := 29) rfl ?_); refine goesL_ (some 31) rfl rfl Try.func29 (by kernel_rfl) rfl #[.string a0, .string a1] rfl (zq2) ?_; (with_reducible refine (pleachref25_TakeNode.calls kj2 a0 a1 t111 t112 t115 false _ A9.out).mono ?_); rintro e w3006 ⟨v113, v116, rfl, ho0, ho1, hb⟩; refine ⟨_, rfl, ?_⟩; have n0_ := zm (Kd.R_elder' (zq56) (Kd.R_base ho0) hb); have n1_ := zm (Kd.R_elder' (zq55) (Kd.R_base ho1) hb); have n2_ := zm (Kd.R_lower (Kd.R_new' ho0 (Kd.R_lt (zq56))) (below_size (zq51))); have n3_ := zm (Kd.R_lower (Kd.R_new' ho1 (Kd.R_lt (zq55))) (below_size (zq51))); have n4_ := zm (blk_below (g := gb110) (o := .cells #[.string t102, .slice Ao3004 t103.length co3004, .slice Ao3005 t106.length co3005] 25 (0, 0)) (zq82) hb); have n5_ := zm (below_step (zq51) hb); clear HO105 HO108 BK110 HB; revert n0_ n1_ n2_ n3_ n4_ n5_; intro HO105 HO108 HO114 HO117 BK110 HB; (try clear hb); (try clear hb2); (try clear hk); (try clear hi); (try clear ho0); (try clear ho1)) | ((with_reducible refine gate_callee (f := 29) rfl ?_); refine goesL_ (some 31) rfl rfl Try.func29 (by kernel_rfl) rfl #[.string a0, .string a1] rfl (zq2) ?_; (with_reducible refine (pleachref25_TakeNode.calls kj2 a0 a1 t111 t112 t115 true _ A9.out).mono ?_); rintro e w3006 ⟨v113, v116, rfl, ho0, ho1, hb⟩; refine ⟨_, rfl, ?_⟩; have n0_ := zm (Kd.R_elder' (zq56) (Kd.R_base ho0) hb); have n1_ := zm (Kd.R_elder' (zq55) (Kd.R_base ho1) hb); have n2_ := zm (Kd.R_lower (Kd.R_new' ho0 (Kd.R_lt (zq56))) (below_size (zq51))); have n3_ := zm (Kd.R_lower (Kd.R_new' ho1 (Kd.R_lt (zq55))) (below_size (zq51))); have n4_ := zm (blk_below (g := gb110) (o := .cells #[.string t102, .slice Ao3004 t103.length co3004, .slice Ao3005 t106.length co3005] 25 (0, 0)) (zq82) hb); have n5_ := zm (below_step (zq51) hb); clear HO105 HO108 BK110 HB; revert n0_ n1_ n2_ n3_ n4_ n5_; intro HO105 HO108 HO114 HO117 BK110 HB; (try clear hb); (try clear hb2); (try clear hk); (try clear hi); (try clear ho0); (try clear ho1)) | ((with_reducible refine gate_dst (N := 7) rfl ?_); (try (refine gate_guard (by rfl) ?_; dsimp only)); refine box_event ?hg (N := 7) ?hd (cs := #[.string (⟨#[]⟩ : ByteArray), .slice none 0 0, .slice none 0 0]) (t := 25) ?hr ?_; (case hd => rfl); (case hg => rfl); (case hr => first | (go_simp; done) | (go_simp; rfl)); intro gb119 hg w3007 hbox hb; have n0_ := zm (Kd.R_below (zq49) hb); have n1_ := zm (Kd.R_below (zq71) hb); have n2_ := zm (Kd.R_below (zq70) hb); have n3_ := zm (Kd.R_below (zq72) hb); have n4_ := zm (blk_below (g := gb110) (o := .cells #[.string t102, .slice Ao3004 t103.length co3004, .slice Ao3005 t106.length co3005] 25 (0, 0)) (zq40) hb); have n5_ := zm (below_step (zq51) hb); have n6_ := zm (hbox); have n7_ := zm ((by rw [hg]; exact (below_size (zq51)) : w.heap.size ≤ gb119)); have n8_ := zm ((by rw [hg]; exact (below_size (zq51)) : w.heap.size ≤ gb119)); have n9_ := zm ((by rw [hg]; exact Nat.ne_of_lt (blk_lt (g := gb110) (o := .cells #[.string t102, .slice Ao3004 t103.length co3004, .slice Ao3005 t106.length co3005] 25 (0, 0)) (zq40)) : gb110 ≠ gb119)); have n10_ := zm ((by rw [hg]; exact Nat.ne_of_gt (blk_lt (g := gb110) (o := .cells #[.string t102, .slice Ao3004 t103.length co3004, .slice Ao3005 t106.length co3005] 25 (0, 0)) (zq40)) : gb119 ≠ gb110)); clear HO105 HO108 HO114 HO117 BK110 HB; revert n0_ n1_ n2_ n3_ n4_ n5_ n6_ n7_ n8_ n9_ n10_; intro HO105 HO108 HO114 HO117 BK110 HB BK119 GW119 GE119 NB110_119 NB119_110; clear hb hbox hg; have hnb3008 := NB119_110.out; have hnc3008 := NB110_119.out; have hcz3009_0 : w3007.cell? ⟨gb119, 0, none⟩ = some (.string (⟨#[]⟩ : ByteArray)) := (blk_cell BK119.out 0).trans rfl; have hcz3009_1 : w3007.cell? ⟨gb119, 1, none⟩ = some (.slice none 0 0) := (blk_cell BK119.out 1).trans rfl; have hcz3009_2 : w3007.cell? ⟨gb119, 2, none⟩ = some (.slice none 0 0) := (blk_cell BK119.out 2).trans rfl; have hfz3009_0 := blk_frozen BK119.out 0; have hfz3009_1 := blk_frozen BK119.out 1; have hfz3009_2 := blk_frozen BK119.out 2; obtain ⟨Ao3010, co3010, eo3010⟩ := Kd.R_slice HO114.out; subst eo3010; obtain ⟨Ao3011, co3011, eo3011⟩ := Kd.R_slice HO117.out; subst eo3011) | ((with_reducible refine gate_callee (f := 35) rfl ?_); refine goesL_ (some 37) rfl rfl Try.func35 (by kernel_rfl) rfl #[.string a0, .string a1] rfl (zq2) ?_; (with_reducible refine (elem_TakeEdge.calls kj2 a0 a1 t120 t121 t122 t123 t126 t129 _ A10.out).mono ?_); rintro e w3012 ⟨v124, v127, rfl, ho0, ho1, hb⟩; refine ⟨_, rfl, ?_⟩; have n0_ := zm (Kd.R_elder' (zq109) (Kd.R_base ho0) hb); have n1_ := zm (Kd.R_elder' (zq108) (Kd.R_base ho1) hb); have n2_ := zm (Kd.R_elder' (zq107) (Kd.R_base ho0) hb); have n3_ := zm (Kd.R_elder' (zq106) (Kd.R_base ho1) hb); have n4_ := zm (Kd.R_lower (Kd.R_new' (Kd.R_new' ho0 (Kd.R_lt (zq109))) (Kd.R_lt (zq107))) (below_size (zq68))); have n5_ := zm (Kd.R_lower (Kd.R_new' (Kd.R_new' ho1 (Kd.R_lt (zq108))) (Kd.R_lt (zq106))) (below_size (zq68))); have n6_ := zm (blk_below (g := gb110) (o := .cells #[.string t102, .slice Ao3004 t103.length co3004, .slice Ao3005 t106.length co3005] 25 (0, 0)) (by (with_reducible repeat (first | refine blk_drewN ?_ _ | refine blk_drew ?_ | refine blk_alloc ?_ _)); refine blk_far ?_ NB110_119.out _; (with_reducible repeat (first | refine blk_drewN ?_ _ | refine blk_drew ?_ | refine blk_alloc ?_ _)); refine blk_far ?_ NB110_119.out _; (with_reducible repeat (first | refine blk_drewN ?_ _ | refine blk_drew ?_ | refine blk_alloc ?_ _)); refine blk_far ?_ NB110_119.out _; (with_reducible repeat (first | refine blk_drewN ?_ _ | refine blk_drew ?_ | refine blk_alloc ?_ _)); exact BK110.out) hb); have n7_ := zm (blk_below (g := gb119) (o := .cells #[.string t111, .slice Ao3010 t112.length co3010, .slice Ao3011 t115.length co3011] 25 (0, 0)) (by (with_reducible repeat (first | refine blk_drewN ?_ _ | refine blk_drew ?_ | refine blk_alloc ?_ _)); refine blk_put (cs := #[.string t111, .slice Ao3010 t112.length co3010, .slice none 0 0]) ?_ 2 _ rfl; (with_reducible repeat (first | refine blk_drewN ?_ _ | refine blk_drew ?_ | refine blk_alloc ?_ _)); refine blk_put (cs := #[.string t111, .slice none 0 0, .slice none 0 0]) ?_ 1 _ rfl; (with_reducible repeat (first | refine blk_drewN ?_ _ | refine blk_drew ?_ | refine blk_alloc ?_ _)); refine blk_put (cs := #[.string (⟨#[]⟩ : ByteArray), .slice none 0 0, .slice none 0 0]) ?_ 0 _ rfl; (with_reducible repeat (first | refine blk_drewN ?_ _ | refine blk_drew ?_ | refine blk_alloc ?_ _)); exact BK119.out) hb); have n8_ := zm (below_step (zq68) hb); clear HO105 HO108 HO114 HO117 BK110 BK119 HB; revert n0_ n1_ n2_ n3_ n4_ n5_ n6_ n7_ n8_; intro HO105 HO108 HO114 HO117 HO125 HO128 BK110 BK119 HB; (try clear hb); (try clear hb2); (try clear hk); (try clear hi); (try clear ho0); (try clear ho1)) | ((with_reducible refine gate_dst (N := 9) rfl ?_); (try (refine gate_guard (by rfl) ?_; dsimp only)); refine box_event ?hg (N := 9) ?hd (cs := #[.string (⟨#[]⟩ : ByteArray), .string (⟨#[]⟩ : ByteArray), .string (⟨#[]⟩ : ByteArray), .slice none 0 0, .slice none 0 0]) (t := 38) ?hr ?_; (case hd => rfl); (case hg => rfl); (case hr => first | (go_simp; done) | (go_simp; rfl)); intro gb130 hg w3013 hbox hb; have n0_ := zm (Kd.R_below (zq49) hb); have n1_ := zm (Kd.R_below (zq71) hb); have n2_ := zm (Kd.R_below (zq70) hb); have n3_ := zm (Kd.R_below (zq72) hb); have n4_ := zm (Kd.R_below (zq81) hb); have n5_ := zm (Kd.R_below (zq80) hb); have n6_ := zm (blk_below (g := gb110) (o := .cells #[.string t102, .slice Ao3004 t103.length co3004, .slice Ao3005 t106.length co3005] 25 (0, 0)) (zq40) hb); have n7_ := zm (blk_below (g := gb119) (o := .cells #[.string t111, .slice Ao3010 t112.length co3010, .slice Ao3011 t115.length co3011] 25 (0, 0)) (zq54) hb); have n8_ := zm (below_step (zq68) hb); have n9_ := zm (hbox); have n10_ := zm ((by rw [hg]; exact (below_size (zq68)) : w.heap.size ≤ gb130)); have n11_ := zm ((by rw [hg]; exact (below_size (zq68)) : w.heap.size ≤ gb130)); have n12_ := zm ((by rw [hg]; exact Nat.ne_of_lt (blk_lt (g := gb110) (o := .cells #[.string t102, .slice Ao3004 t103.length co3004, .slice Ao3005 t106.length co3005] 25 (0, 0)) (zq40)) : gb110 ≠ gb130)); have n13_ := zm ((by rw [hg]; exact Nat.ne_of_gt (blk_lt (g := gb110) (o := .cells #[.string t102, .slice Ao3004 t103.length co3004, .slice Ao3005 t106.length co3005] 25 (0, 0)) (zq40)) : gb130 ≠ gb110)); have n14_ := zm ((by rw [hg]; exact Nat.ne_of_lt (blk_lt (g := gb119) (o := .cells #[.string t111, .slice Ao3010 t112.length co3010, .slice Ao3011 t115.length co3011] 25 (0, 0)) (zq54)) : gb119 ≠ gb130)); have n15_ := zm ((by rw [hg]; exact Nat.ne_of_gt (blk_lt (g := gb119) (o := .cells #[.string t111, .slice Ao3010 t112.length co3010, .slice Ao3011 t115.length co3011] 25 (0, 0)) (zq54)) : gb130 ≠ gb119)); clear HO105 HO108 HO114 HO117 HO125 HO128 BK110 BK119 HB; revert n0_ n1_ n2_ n3_ n4_ n5_ n6_ n7_ n8_ n9_ n10_ n11_ n12_ n13_ n14_ n15_; intro HO105 HO108 HO114 HO117 HO125 HO128 BK110 BK119 HB BK130 GW130 GE130 NB110_130 NB130_110 NB119_130 NB130_119; clear hb hbox hg; have hnb3014 := NB130_110.out; have hnc3014 := NB110_130.out; have hnb3015 := NB130_119.out; have hnc3015 := NB119_130.out; have hcz3016_0 : w3013.cell? ⟨gb130, 0, none⟩ = some (.string (⟨#[]⟩ : ByteArray)) := (blk_cell BK130.out 0).trans rfl; have hcz3016_1 : w3013.cell? ⟨gb130, 1, none⟩ = some (.string (⟨#[]⟩ : ByteArray)) := (blk_cell BK130.out 1).trans rfl; have hcz3016_2 : w3013.cell? ⟨gb130, 2, none⟩ = some (.string (⟨#[]⟩ : ByteArray)) := (blk_cell BK130.out 2).trans rfl; have hcz3016_3 : w3013.cell? ⟨gb130, 3, none⟩ = some (.slice none 0 0) := (blk_cell BK130.out 3).trans rfl; have hcz3016_4 : w3013.cell? ⟨gb130, 4, none⟩ = some (.slice none 0 0) := (blk_cell BK130.out 4).trans rfl; have hfz3016_0 := blk_frozen BK130.out 0; have hfz3016_1 := blk_frozen BK130.out 1; have hfz3016_2 := blk_frozen BK130.out 2; have hfz3016_3 := blk_frozen BK130.out 3; have hfz3016_4 := blk_frozen BK130.out 4; obtain ⟨Ao3017, co3017, eo3017⟩ := Kd.R_slice HO125.out; subst eo3017; obtain ⟨Ao3018, co3018, eo3018⟩ := Kd.R_slice HO128.out; subst eo3018) | ((with_reducible refine gate_callee (f := 30) rfl ?_); refine goesL_ (some 43) rfl rfl Try.func30 (by kernel_rfl) rfl #[.string a0, .string a1] rfl (zq2) ?_; (with_reducible refine (pleachref25_TakeEdge.calls kj2 a0 a1 t131 t132 t133 t134 t137 false _ A11.out).mono ?_); rintro e w3019 ⟨v135, v138, rfl, ho0, ho1, hb⟩; refine ⟨_, rfl, ?_⟩; have n0_ := zm (Kd.R_elder' (zq37) (Kd.R_base ho0) hb); have n1_ := zm (Kd.R_elder' (zq36) (Kd.R_base ho1) hb); have n2_ := zm (Kd.R_elder' (zq35) (Kd.R_base ho0) hb); have n3_ := zm (Kd.R_elder' (zq34) (Kd.R_base ho1) hb); have n4_ := zm (Kd.R_elder' (zq33) (Kd.R_base ho0) hb); have n5_ := zm (Kd.R_elder' (zq32) (Kd.R_base ho1) hb); have n6_ := zm (Kd.R_lower (Kd.R_new' (Kd.R_new' (Kd.R_new' ho0 (Kd.R_lt (zq37))) (Kd.R_lt (zq35))) (Kd.R_lt (zq33))) (below_size (zq28))); have n7_ := zm (Kd.R_lower (Kd.R_new' (Kd.R_new' (Kd.R_new' ho1 (Kd.R_lt (zq36))) (Kd.R_lt (zq34))) (Kd.R_lt (zq32))) (below_size (zq28))); have n8_ := zm (blk_below (g := gb110) (o := .cells #[.string t102, .slice Ao3004 t103.length co3004, .slice Ao3005 t106.length co3005] 25 (0, 0)) (zq77) hb); have n9_ := zm (blk_below (g := gb119) (o := .cells #[.string t111, .slice Ao3010 t112.length co3010, .slice Ao3011 t115.length co3011] 25 (0, 0)) (zq76) hb); have n10_ := zm (blk_below (g := gb130) (o := .cells #[.string t120, .string t121, .string t122, .slice Ao3017 t123.length co3017, .slice Ao3018 t126.length co3018] 38 (0, 0)) (zq50) hb); have n11_ := zm (below_step (zq28) hb); clear HO105 HO108 HO114 HO117 HO125 HO128 BK110 BK119 BK130 HB; revert n0_ n1_ n2_ n3_ n4_ n5_ n6_ n7_ n8_ n9_ n10_ n11_; intro HO105 HO108 HO114 HO117 HO125 HO128 HO136 HO139 BK110 BK119 BK130 HB; (try clear hb); (try clear hb2); (try clear hk); (try clear hi); (try clear ho0); (try clear ho1)) | ((with_reducible refine gate_callee (f := 30) rfl ?_); refine goesL_ (some 43) rfl rfl Try.func30 (by kernel_rfl) rfl #[.string a0, .string a1] rfl (zq2) ?_; (with_reducible refine (pleachref25_TakeEdge.calls kj2 a0 a1 t131 t132 t133 t134 t137 true _ A11.out).mono ?_); rintro e w3019 ⟨v135, v138, rfl, ho0, ho1, hb⟩; refine ⟨_, rfl, ?_⟩; have n0_ := zm (Kd.R_elder' (zq37) (Kd.R_base ho0) hb); have n1_ := zm (Kd.R_elder' (zq36) (Kd.R_base ho1) hb); have n2_ := zm (Kd.R_elder' (zq35) (Kd.R_base ho0) hb); have n3_ := zm (Kd.R_elder' (zq34) (Kd.R_base ho1) hb); have n4_ := zm (Kd.R_elder' (zq33) (Kd.R_base ho0) hb); have n5_ := zm (Kd.R_elder' (zq32) (Kd.R_base ho1) hb); have n6_ := zm (Kd.R_lower (Kd.R_new' (Kd.R_new' (Kd.R_new' ho0 (Kd.R_lt (zq37))) (Kd.R_lt (zq35))) (Kd.R_lt (zq33))) (below_size (zq28))); have n7_ := zm (Kd.R_lower (Kd.R_new' (Kd.R_new' (Kd.R_new' ho1 (Kd.R_lt (zq36))) (Kd.R_lt (zq34))) (Kd.R_lt (zq32))) (below_size (zq28))); have n8_ := zm (blk_below (g := gb110) (o := .cells #[.string t102, .slice Ao3004 t103.length co3004, .slice Ao3005 t106.length co3005] 25 (0, 0)) (zq77) hb); have n9_ := zm (blk_below (g := gb119) (o := .cells #[.string t111, .slice Ao3010 t112.length co3010, .slice Ao3011 t115.length co3011] 25 (0, 0)) (zq76) hb); have n10_ := zm (blk_below (g := gb130) (o := .cells #[.string t120, .string t121, .string t122, .slice Ao3017 t123.length co3017, .slice Ao3018 t126.length co3018] 38 (0, 0)) (zq50) hb); have n11_ := zm (below_step (zq28) hb); clear HO105 HO108 HO114 HO117 HO125 HO128 BK110 BK119 BK130 HB; revert n0_ n1_ n2_ n3_ n4_ n5_ n6_ n7_ n8_ n9_ n10_ n11_; intro HO105 HO108 HO114 HO117 HO125 HO128 HO136 HO139 BK110 BK119 BK130 HB; (try clear hb); (try clear hb2); (try clear hk); (try clear hi); (try clear ho0); (try clear ho1)) | ((with_reducible refine gate_dst (N := 11) rfl ?_); (try (refine gate_guard (by rfl) ?_; dsimp only)); refine box_event ?hg (N := 11) ?hd (cs := #[.string (⟨#[]⟩ : ByteArray), .string (⟨#[]⟩ : ByteArray), .string (⟨#[]⟩ : ByteArray), .slice none 0 0, .slice none 0 0]) (t := 38) ?hr ?_; (case hd => rfl); (case hg => rfl); (case hr => first | (go_simp; done) | (go_simp; rfl)); intro gb141 hg w3020 hbox hb; have n0_ := zm (Kd.R_below (zq49) hb); have n1_ := zm (Kd.R_below (zq71) hb); have n2_ := zm (Kd.R_below (zq70) hb); have n3_ := zm (Kd.R_below (zq72) hb); have n4_ := zm (Kd.R_below (zq81) hb); have n5_ := zm (Kd.R_below (zq80) hb); have n6_ := zm (Kd.R_below (zq89) hb); have n7_ := zm (Kd.R_below (zq88) hb); have n8_ := zm (blk_below (g := gb110) (o := .cells #[.string t102, .slice Ao3004 t103.length co3004, .slice Ao3005 t106.length co3005] 25 (0, 0)) (zq40) hb); have n9_ := zm (blk_below (g := gb119) (o := .cells #[.string t111, .slice Ao3010 t112.length co3010, .slice Ao3011 t115.length co3011] 25 (0, 0)) (zq54) hb); have n10_ := zm (blk_below (g := gb130) (o := .cells #[.string t120, .string t121, .string t122, .slice Ao3017 t123.length co3017, .slice Ao3018 t126.length co3018] 38 (0, 0)) (zq69) hb); have n11_ := zm (below_step (zq28) hb); have n12_ := zm (hbox); have n13_ := zm ((by rw [hg]; exact (below_size (zq28)) : w.heap.size ≤ gb141)); have n14_ := zm ((by rw [hg]; exact (below_size (zq28)) : w.heap.size ≤ gb141)); have n15_ := zm ((by rw [hg]; exact Nat.ne_of_lt (blk_lt (g := gb110) (o := .cells #[.string t102, .slice Ao3004 t103.length co3004, .slice Ao3005 t106.length co3005] 25 (0, 0)) (zq40)) : gb110 ≠ gb141)); have n16_ := zm ((by rw [hg]; exact Nat.ne_of_gt (blk_lt (g := gb110) (o := .cells #[.string t102, .slice Ao3004 t103.length co3004, .slice Ao3005 t106.length co3005] 25 (0, 0)) (zq40)) : gb141 ≠ gb110)); have n17_ := zm ((by rw [hg]; exact Nat.ne_of_lt (blk_lt (g := gb119) (o := .cells #[.string t111, .slice Ao3010 t112.length co3010, .slice Ao3011 t115.length co3011] 25 (0, 0)) (zq54)) : gb119 ≠ gb141)); have n18_ := zm ((by rw [hg]; exact Nat.ne_of_gt (blk_lt (g := gb119) (o := .cells #[.string t111, .slice Ao3010 t112.length co3010, .slice Ao3011 t115.length co3011] 25 (0, 0)) (zq54)) : gb141 ≠ gb119)); have n19_ := zm ((by rw [hg]; exact Nat.ne_of_lt (blk_lt (g := gb130) (o := .cells #[.string t120, .string t121, .string t122, .slice Ao3017 t123.length co3017, .slice Ao3018 t126.length co3018] 38 (0, 0)) (zq69)) : gb130 ≠ gb141)); have n20_ := zm ((by rw [hg]; exact Nat.ne_of_gt (blk_lt (g := gb130) (o := .cells #[.string t120, .string t121, .string t122, .slice Ao3017 t123.length co3017, .slice Ao3018 t126.length co3018] 38 (0, 0)) (zq69)) : gb141 ≠ gb130)); clear HO105 HO108 HO114 HO117 HO125 HO128 HO136 HO139 BK110 BK119 BK130 HB; revert n0_ n1_ n2_ n3_ n4_ n5_ n6_ n7_ n8_ n9_ n10_ n11_ n12_ n13_ n14_ n15_ n16_ n17_ n18_ n19_ n20_; intro HO105 HO108 HO114 HO117 HO125 HO128 HO136 HO139 BK110 BK119 BK130 HB BK141 GW141 GE141 NB110_141 NB141_110 NB119_141 NB141_119 NB130_141 NB141_130; clear hb hbox hg; have hnb3021 := NB141_110.out; have hnc3021 := NB110_141.out; have hnb3022 := NB141_119.out; have hnc3022 := NB119_141.out; have hnb3023 := NB141_130.out; have hnc3023 := NB130_141.out; have hcz3024_0 : w3020.cell? ⟨gb141, 0, none⟩ = some (.string (⟨#[]⟩ : ByteArray)) := (blk_cell BK141.out 0).trans rfl; have hcz3024_1 : w3020.cell? ⟨gb141, 1, none⟩ = some (.string (⟨#[]⟩ : ByteArray)) := (blk_cell BK141.out 1).trans rfl; have hcz3024_2 : w3020.cell? ⟨gb141, 2, none⟩ = some (.string (⟨#[]⟩ : ByteArray)) := (blk_cell BK141.out 2).trans rfl; have hcz3024_3 : w3020.cell? ⟨gb141, 3, none⟩ = some (.slice none 0 0) := (blk_cell BK141.out 3).trans rfl; have hcz3024_4 : w3020.cell? ⟨gb141, 4, none⟩ = some (.slice none 0 0) := (blk_cell BK141.out 4).trans rfl; have hfz3024_0 := blk_frozen BK141.out 0; have hfz3024_1 := blk_frozen BK141.out 1; have hfz3024_2 := blk_frozen BK141.out 2; have hfz3024_3 := blk_frozen BK141.out 3; have hfz3024_4 := blk_frozen BK141.out 4; obtain ⟨Ao3025, co3025, eo3025⟩ := Kd.R_slice HO136.out; subst eo3025; obtain ⟨Ao3026, co3026, eo3026⟩ := Kd.R_slice HO139.out; subst eo3026; have hcz3027_0 : w3020.cell? ⟨gb110, 0, none⟩ = some (.string t102) := (blk_cell BK110.out 0).trans rfl; have hcz3027_1 : w3020.cell? ⟨gb110, 1, none⟩ = some (.slice Ao3004 t103.length co3004) := (blk_cell BK110.out 1).trans rfl; have hcz3027_2 : w3020.cell? ⟨gb110, 2, none⟩ = some (.slice Ao3005 t106.length co3005) := (blk_cell BK110.out 2).trans rfl; have hfz3027_0 := blk_frozen BK110.out 0; have hfz3027_1 := blk_frozen BK110.out 1; have hfz3027_2 := blk_frozen BK110.out 2; have hcz3028_0 : w3020.cell? ⟨gb119, 0, none⟩ = some (.string t111) := (blk_cell BK119.out 0).trans rfl; have hcz3028_1 : w3020.cell? ⟨gb119, 1, none⟩ = some (.slice Ao3010 t112.length co3010) := (blk_cell BK119.out 1).trans rfl; have hcz3028_2 : w3020.cell? ⟨gb119, 2, none⟩ = some (.slice Ao3011 t115.length co3011) := (blk_cell BK119.out 2).trans rfl; have hfz3028_0 := blk_frozen BK119.out 0; have hfz3028_1 := blk_frozen BK119.out 1; have hfz3028_2 := blk_frozen BK119.out 2) | ((with_reducible refine gate_callee (f := 36) rfl ?_); refine goesL_ (some 48) rfl rfl Try.func36 (by kernel_rfl) rfl #[.agg #[.string t102, .slice Ao3004 t103.length co3004, .slice Ao3005 t106.length co3005], .agg #[.string t111, .slice Ao3010 t112.length co3010, .slice Ao3011 t115.length co3011]] rfl (zq2) ?_; (with_reducible refine (pleachref25_SameNode.calls kj2 t102 _ _ t103 _ _ t106 t111 _ _ t112 _ _ t115 true _ ?side1 ?side2 ?side3 ?side4 ?side5 ?side6 ?side7 ?side8 A12.out).mono ?_); (case side1 => refine (Kd.R_reads' (e := 9) (base := w.heap.size) (ok := fun k_ => (((True ∧ some k_ ≠ (.slice Ao3010 t112.length co3010 : Value).ownBlock) ∧ some k_ ≠ (.slice Ao3017 t123.length co3017 : Value).ownBlock) ∧ some k_ ≠ (.slice Ao3025 t134.length co3025 : Value).ownBlock)) (n := t103.length) (c := co3004) ?_).2.2; exact (zq97)); (case side2 => exact (Kd.R_reads' HO105.out).2.1); (case side3 => refine (Kd.R_reads' (e := 98) (base := w.heap.size) (ok := fun k_ => (((True ∧ some k_ ≠ (.slice Ao3011 t115.length co3011 : Value).ownBlock) ∧ some k_ ≠ (.slice Ao3018 t126.length co3018 : Value).ownBlock) ∧ some k_ ≠ (.slice Ao3026 t137.length co3026 : Value).ownBlock)) (n := t106.length) (c := co3005) ?_).2.2; exact (zq96)); (case side4 => exact (Kd.R_reads' HO108.out).2.1); (case side5 => refine (Kd.R_reads' (e := 9) (base := w.heap.size) (ok := fun k_ => (((True ∧ some k_ ≠ (.slice Ao3004 t103.length co3004 : Value).ownBlock) ∧ some k_ ≠ (.slice Ao3017 t123.length co3017 : Value).ownBlock) ∧ some k_ ≠ (.slice Ao3025 t134.length co3025 : Value).ownBlock)) (n := t112.length) (c := co3010) ?_).2.2; exact (zq95)); (case side6 => exact (Kd.R_reads' HO114.out).2.1); (case side7 => refine (Kd.R_reads' (e := 98) (base := w.heap.size) (ok := fun k_ => (((True ∧ some k_ ≠ (.slice Ao3005 t106.length co3005 : Value).ownBlock) ∧ some k_ ≠ (.slice Ao3018 t126.length co3018 : Value).ownBlock) ∧ some k_ ≠ (.slice Ao3026 t137.length co3026 : Value).ownBlock)) (n := t115.length) (c := co3011) ?_).2.2; exact (zq94)); (case side8 => exact (Kd.R_reads' HO117.out).2.1); rintro e w3029 ⟨rfl, hb⟩; refine ⟨_, rfl, ?_⟩; have n0_ := zm (Kd.R_below (zq97) hb); have n1_ := zm (Kd.R_below (zq96) hb); have n2_ := zm (Kd.R_below (zq95) hb); have n3_ := zm (Kd.R_below (zq94) hb); have n4_ := zm (Kd.R_below (by (with_reducible repeat (first | apply Kd.R_alloc | apply Kd.R_drewN | apply Kd.R_drew)); exact (Kd.R_mono (Kd.R_far (p := ⟨gb141, 4, none⟩) (Kd.R_far (p := ⟨gb141, 3, none⟩) (Kd.R_far (p := ⟨gb141, 2, none⟩) (Kd.R_far (p := ⟨gb141, 1, none⟩) (Kd.R_far (p := ⟨gb141, 0, none⟩) (Kd.R_types HO125.out BK141.out (by decide)) (fun _ hk => hk.2) (.string t131)) (fun _ hk => hk.2) (.string t132)) (fun _ hk => hk.2) (.string t133)) (fun _ hk => hk.2) (.slice Ao3025 t134.length co3025)) (fun _ hk => hk.2) (.slice Ao3026 t137.length co3026)) (fun _ h_ => h_.1))) hb); have n5_ := zm (Kd.R_below (by (with_reducible repeat (first | apply Kd.R_alloc | apply Kd.R_drewN | apply Kd.R_drew)); exact (Kd.R_mono (Kd.R_far (p := ⟨gb141, 4, none⟩) (Kd.R_far (p := ⟨gb141, 3, none⟩) (Kd.R_far (p := ⟨gb141, 2, none⟩) (Kd.R_far (p := ⟨gb141, 1, none⟩) (Kd.R_far (p := ⟨gb141, 0, none⟩) (Kd.R_types HO128.out BK141.out (by decide)) (fun _ hk => hk.2) (.string t131)) (fun _ hk => hk.2) (.string t132)) (fun _ hk => hk.2) (.string t133)) (fun _ hk => hk.2) (.slice Ao3025 t134.length co3025)) (fun _ hk => hk.2) (.slice Ao3026 t137.length co3026)) (fun _ h_ => h_.1))) hb); have n6_ := zm (Kd.R_below (by (with_reducible repeat (first | apply Kd.R_alloc | apply Kd.R_drewN | apply Kd.R_drew)); exact (Kd.R_mono (Kd.R_far (p := ⟨gb141, 4, none⟩) (Kd.R_far (p := ⟨gb141, 3, none⟩) (Kd.R_far (p := ⟨gb141, 2, none⟩) (Kd.R_far (p := ⟨gb141, 1, none⟩) (Kd.R_far (p := ⟨gb141, 0, none⟩) (Kd.R_types HO136.out BK141.out (by decide)) (fun _ hk => hk.2) (.string t131)) (fun _ hk => hk.2) (.string t132)) (fun _ hk => hk.2) (.string t133)) (fun _ hk => hk.2) (.slice Ao3025 t134.length co3025)) (fun _ hk => hk.2) (.slice Ao3026 t137.length co3026)) (fun _ h_ => h_.1))) hb); have n7_ := zm (Kd.R_below (by (with_reducible repeat (first | apply Kd.R_alloc | apply Kd.R_drewN | apply Kd.R_drew)); exact (Kd.R_mono (Kd.R_far (p := ⟨gb141, 4, none⟩) (Kd.R_far (p := ⟨gb141, 3, none⟩) (Kd.R_far (p := ⟨gb141, 2, none⟩) (Kd.R_far (p := ⟨gb141, 1, none⟩) (Kd.R_far (p := ⟨gb141, 0, none⟩) (Kd.R_types HO139.out BK141.out (by decide)) (fun _ hk => hk.2) (.string t131)) (fun _ hk => hk.2) (.string t132)) (fun _ hk => hk.2) (.string t133)) (fun _ hk => hk.2) (.slice Ao3025 t134.length co3025)) (fun _ hk => hk.2) (.slice Ao3026 t137.length co3026)) (fun _ h_ => h_.1))) hb); have n8_ := zm (blk_below (g := gb110) (o := .cells #[.string t102, .slice Ao3004 t103.length co3004, .slice Ao3005 t106.length co3005] 25 (0, 0)) (by (with_reducible repeat (first | refine blk_drewN ?_ _ | refine blk_drew ?_ | refine blk_alloc ?_ _)); refine blk_far ?_ NB110_141.out _; (with_reducible repeat (first | refine blk_drewN ?_ _ | refine blk_drew ?_ | refine blk_alloc ?_ _)); refine blk_far ?_ NB110_141.out _; (with_reducible repeat (first | refine blk_drewN ?_ _ | refine blk_drew ?_ | refine blk_alloc ?_ _)); refine blk_far ?_ NB110_141.out _; (with_reducible repeat (first | refine blk_drewN ?_ _ | refine blk_drew ?_ | refine blk_alloc ?_ _)); refine blk_far ?_ NB110_141.out _; (with_reducible repeat (first | refine blk_drewN ?_ _ | refine blk_drew ?_ | refine blk_alloc ?_ _)); refine blk_far ?_ NB110_141.out _; (with_reducible repeat (first | refine blk_drewN ?_ _ | refine blk_drew ?_ | refine blk_alloc ?_ _)); exact BK110.out) hb); have n9_ := zm (blk_below (g := gb119) (o := .cells #[.string t111, .slice Ao3010 t112.length co3010, .slice Ao3011 t115.length co3011] 25 (0, 0)) (by (with_reducible repeat (first | refine blk_drewN ?_ _ | refine blk_drew ?_ | refine blk_alloc ?_ _)); refine blk_far ?_ NB119_141.out _; (with_reducible repeat (first | refine blk_drewN ?_ _ | refine blk_drew ?_ | refine blk_alloc ?_ _)); refine blk_far ?_ NB119_141.out _; (with_reducible repeat (first | refine blk_drewN ?_ _ | refine blk_drew ?_ | refine blk_alloc ?_ _)); refine blk_far ?_ NB119_141.out _; (with_reducible repeat (first | refine blk_drewN ?_ _ | refine blk_drew ?_ | refine blk_alloc ?_ _)); refine blk_far ?_ NB119_141.out _; (with_reducible repeat (first | refine blk_drewN ?_ _ | refine blk_drew ?_ | refine blk_alloc ?_ _)); refine blk_far ?_ NB119_141.out _; (with_reducible repeat (first | refine blk_drewN ?_ _ | refine blk_drew ?_ | refine blk_alloc ?_ _)); exact BK119.out) hb); have n10_ := zm (blk_below (g := gb130) (o := .cells #[.string t120, .string t121, .string t122, .slice Ao3017 t123.length co3017, .slice Ao3018 t126.length co3018] 38 (0, 0)) (by (with_reducible repeat (first | refine blk_drewN ?_ _ | refine blk_drew ?_ | refine blk_alloc ?_ _)); refine blk_far ?_ NB130_141.out _; (with_reducible repeat (first | refine blk_drewN ?_ _ | refine blk_drew ?_ | refine blk_alloc ?_ _)); refine blk_far ?_ NB130_141.out _; (with_reducible repeat (first | refine blk_drewN ?_ _ | refine blk_drew ?_ | refine blk_alloc ?_ _)); refine blk_far ?_ NB130_141.out _; (with_reducible repeat (first | refine blk_drewN ?_ _ | refine blk_drew ?_ | refine blk_alloc ?_ _)); refine blk_far ?_ NB130_141.out _; (with_reducible repeat (first | refine blk_drewN ?_ _ | refine blk_drew ?_ | refine blk_alloc ?_ _)); refine blk_far ?_ NB130_141.out _; (with_reducible repeat (first | refine blk_drewN ?_ _ | refine blk_drew ?_ | refine blk_alloc ?_ _)); exact BK130.out) hb); have n11_ := zm (blk_below (g := gb141) (o := .cells #[.string t131, .string t132, .string t133, .slice Ao3025 t134.length co3025, .slice Ao3026 t137.length co3026] 38 (0, 0)) (by (with_reducible repeat (first | refine blk_drewN ?_ _ | refine blk_drew ?_ | refine blk_alloc ?_ _)); refine blk_put (cs := #[.string t131, .string t132, .string t133, .slice Ao3025 t134.length co3025, .slice none 0 0]) ?_ 4 _ rfl; (with_reducible repeat (first | refine blk_drewN ?_ _ | refine blk_drew ?_ | refine blk_alloc ?_ _)); refine blk_put (cs := #[.string t131, .string t132, .string t133, .slice none 0 0, .slice none 0 0]) ?_ 3 _ rfl; (with_reducible repeat (first | refine blk_drewN ?_ _ | refine blk_drew ?_ | refine blk_alloc ?_ _)); refine blk_put (cs := #[.string t131, .string t132, .string (⟨#[]⟩ : ByteArray), .slice none 0 0, .slice none 0 0]) ?_ 2 _ rfl; (with_reducible repeat (first | refine blk_drewN ?_ _ | refine blk_drew ?_ | refine blk_alloc ?_ _)); refine blk_put (cs := #[.string t131, .string (⟨#[]⟩ : ByteArray), .string (⟨#[]⟩ : ByteArray), .slice none 0 0, .slice none 0 0]) ?_ 1 _ rfl; (with_reducible repeat (first | refine blk_drewN ?_ _ | refine blk_drew ?_ | refine blk_alloc ?_ _)); refine blk_put (cs := #[.string (⟨#[]⟩ : ByteArray), .string (⟨#[]⟩ : ByteArray), .string (⟨#[]⟩ : ByteArray), .slice none 0 0, .slice none 0 0]) ?_ 0 _ rfl; (with_reducible repeat (first | refine blk_drewN ?_ _ | refine blk_drew ?_ | refine blk_alloc ?_ _)); exact BK141.out) hb); have n12_ := zm (below_step (zq30) hb); clear HO105 HO108 HO114 HO117 HO125 HO128 HO136 HO139 BK110 BK119 BK130 BK141 HB; revert n0_ n1_ n2_ n3_ n4_ n5_ n6_ n7_ n8_ n9_ n10_ n11_ n12_; intro HO105 HO108 HO114 HO117 HO125 HO128 HO136 HO139 BK110 BK119 BK130 BK141 HB; (try clear hb); (try clear hb2); (try clear hk); (try clear hi); have hcz3030_0 : w3029.cell? ⟨gb130, 0, none⟩ = some (.string t120) := (blk_cell BK130.out 0).trans rfl; have hcz3030_1 : w3029.cell? ⟨gb130, 1, none⟩ = some (.string t121) := (blk_cell BK130.out 1).trans rfl; have hcz3030_2 : w3029.cell? ⟨gb130, 2, none⟩ = some (.string t122) := (blk_cell BK130.out 2).trans rfl; have hcz3030_3 : w3029.cell? ⟨gb130, 3, none⟩ = some (.slice Ao3017 t123.length co3017) := (blk_cell BK130.out 3).trans rfl; have hcz3030_4 : w3029.cell? ⟨gb130, 4, none⟩ = some (.slice Ao3018 t126.length co3018) := (blk_cell BK130.out 4).trans rfl; have hfz3030_0 := blk_frozen BK130.out 0; have hfz3030_1 := blk_frozen BK130.out 1; have hfz3030_2 := blk_frozen BK130.out 2; have hfz3030_3 := blk_frozen BK130.out 3; have hfz3030_4 := blk_frozen BK130.out 4; have hcz3031_0 : w3029.cell? ⟨gb141, 0, none⟩ = some (.string t131) := (blk_cell BK141.out 0).trans rfl; have hcz3031_1 : w3029.cell? ⟨gb141, 1, none⟩ = some (.string t132) := (blk_cell BK141.out 1).trans rfl; have hcz3031_2 : w3029.cell? ⟨gb141, 2, none⟩ = some (.string t133) := (blk_cell BK141.out 2).trans rfl; have hcz3031_3 : w3029.cell? ⟨gb141, 3, none⟩ = some (.slice Ao3025 t134.length co3025) := (blk_cell BK141.out 3).trans rfl; have hcz3031_4 : w3029.cell? ⟨gb141, 4, none⟩ = some (.slice Ao3026 t137.length co3026) := (blk_cell BK141.out 4).trans rfl; have hfz3031_0 := blk_frozen BK141.out 0; have hfz3031_1 := blk_frozen BK141.out 1; have hfz3031_2 := blk_frozen BK141.out 2; have hfz3031_3 := blk_frozen BK141.out 3; have hfz3031_4 := blk_frozen BK141.out 4) | (go_at_call 37; (with_reducible refine (pleachref25_SameEdge.calls kj2 t120 t121 t122 _ _ t123 _ _ t126 t131 t132 t133 _ _ t134 _ _ t137 true _ ?side1 ?side2 ?side3 ?side4 ?side5 ?side6 ?side7 ?side8 A90.out).mono ?_); (case side1 => repeat (first | exact (Kd.R_reads' HO125.out).2.2 | (with_reducible refine Kd.C_alloc ?_ _) | (with_reducible refine Kd.C_drewN ?_ _) | (with_reducible refine Kd.C_drew ?_))); (case side2 => exact (Kd.R_reads' HO125.out).2.1); (case side3 => repeat (first | exact (Kd.R_reads' HO128.out).2.2 | (with_reducible refine Kd.C_alloc ?_ _) | (with_reducible refine Kd.C_drewN ?_ _) | (with_reducible refine Kd.C_drew ?_))); (case side4 => exact (Kd.R_reads' HO128.out).2.1); (case side5 => repeat (first | exact (Kd.R_reads' HO136.out).2.2 | (with_reducible refine Kd.C_alloc ?_ _) | (with_reducible refine Kd.C_drewN ?_ _) | (with_reducible refine Kd.C_drew ?_))); (case side6 => exact (Kd.R_reads' HO136.out).2.1); (case side7 => repeat (first | exact (Kd.R_reads' HO139.out).2.2 | (with_reducible refine Kd.C_alloc ?_ _) | (with_reducible refine Kd.C_drewN ?_ _) | (with_reducible refine Kd.C_drew ?_))); (case side8 => exact (Kd.R_reads' HO139.out).2.1); rintro e w3032 ⟨rfl, hb⟩; have n0_ := zm (Kd.R_below (zq49) hb); have n1_ := zm (Kd.R_below (zq71) hb); have n2_ := zm (Kd.R_below (zq70) hb); have n3_ := zm (Kd.R_below (zq72) hb); have n4_ := zm (Kd.R_below (zq81) hb); have n5_ := zm (Kd.R_below (zq80) hb); have n6_ := zm (Kd.R_below (zq89) hb); have n7_ := zm (Kd.R_below (zq88) hb); have n8_ := zm (blk_below (g := gb110) (o := .cells #[.string t102, .slice Ao3004 t103.length co3004, .slice Ao3005 t106.length co3005] 25 (0, 0)) (zq40) hb); have n9_ := zm (blk_below (g := gb119) (o := .cells #[.string t111, .slice Ao3010 t112.length co3010, .slice Ao3011 t115.length co3011] 25 (0, 0)) (zq54) hb); have n10_ := zm (blk_below (g := gb130) (o := .cells #[.string t120, .string t121, .string t122, .slice Ao3017 t123.length co3017, .slice Ao3018 t126.length co3018] 38 (0, 0)) (zq69) hb); have n11_ := zm (blk_below (g := gb141) (o := .cells #[.string t131, .string t132, .string t133, .slice Ao3025 t134.length co3025, .slice Ao3026 t137.length co3026] 38 (0, 0)) (zq92) hb); have n12_ := zm (below_step (zq30) hb); clear HO105 HO108 HO114 HO117 HO125 HO128 HO136 HO139 BK110 BK119 BK130 BK141 HB; revert n0_ n1_ n2_ n3_ n4_ n5_ n6_ n7_ n8_ n9_ n10_ n11_ n12_; intro HO105 HO108 HO114 HO117 HO125 HO128 HO136 HO139 BK110 BK119 BK130 BK141 HB; (try clear hb); (try clear hb2); (try clear hk); (try clear hi)) | (go_at_call 11; (with_reducible refine (pleachlaw25_awake.calls kj2  t148 _ A129.out).mono ?_); rintro e w3033 ⟨rfl, hb⟩; have n0_ := zm (Kd.R_below (zq49) hb); have n1_ := zm (Kd.R_below (zq71) hb); have n2_ := zm (Kd.R_below (zq70) hb); have n3_ := zm (Kd.R_below (zq72) hb); have n4_ := zm (Kd.R_below (zq81) hb); have n5_ := zm (Kd.R_below (zq80) hb); have n6_ := zm (Kd.R_below (zq89) hb); have n7_ := zm (Kd.R_below (zq88) hb); have n8_ := zm (blk_below (g := gb110) (o := .cells #[.string t102, .slice Ao3004 t103.length co3004, .slice Ao3005 t106.length co3005] 25 (0, 0)) (zq40) hb); have n9_ := zm (blk_below (g := gb119) (o := .cells #[.string t111, .slice Ao3010 t112.length co3010, .slice Ao3011 t115.length co3011] 25 (0, 0)) (zq54) hb); have n10_ := zm (blk_below (g := gb130) (o := .cells #[.string t120, .string t121, .string t122, .slice Ao3017 t123.length co3017, .slice Ao3018 t126.length co3018] 38 (0, 0)) (zq69) hb); have n11_ := zm (blk_below (g := gb141) (o := .cells #[.string t131, .string t132, .string t133, .slice Ao3025 t134.length co3025, .slice Ao3026 t137.length co3026] 38 (0, 0)) (zq92) hb); have n12_ := zm (below_step (zq30) hb); clear HO105 HO108 HO114 HO117 HO125 HO128 HO136 HO139 BK110 BK119 BK130 BK141 HB; revert n0_ n1_ n2_ n3_ n4_ n5_ n6_ n7_ n8_ n9_ n10_ n11_ n12_; intro HO105 HO108 HO114 HO117 HO125 HO128 HO136 HO139 BK110 BK119 BK130 BK141 HB; (try clear hb); (try clear hb2); (try clear hk); (try clear hi)) | (go_at_call 37; (with_reducible refine (pleachref25_SameEdge.calls kj2 t120 t121 t122 _ _ t123 _ _ t126 t131 t132 t133 _ _ t134 _ _ t137 true _ ?side1 ?side2 ?side3 ?side4 ?side5 ?side6 ?side7 ?side8 A16.out).mono ?_); (case side1 => repeat (first | exact (Kd.R_reads' HO125.out).2.2 | (with_reducible refine Kd.C_alloc ?_ _) | (with_reducible refine Kd.C_drewN ?_ _) | (with_reducible refine Kd.C_drew ?_))); (case side2 => exact (Kd.R_reads' HO125.out).2.1); (case side3 => repeat (first | exact (Kd.R_reads' HO128.out).2.2 | (with_reducible refine Kd.C_alloc ?_ _) | (with_reducible refine Kd.C_drewN ?_ _) | (with_reducible refine Kd.C_drew ?_))); (case side4 => exact (Kd.R_reads' HO128.out).2.1); (case side5 => repeat (first | exact (Kd.R_reads' HO136.out).2.2 | (with_reducible refine Kd.C_alloc ?_ _) | (with_reducible refine Kd.C_drewN ?_ _) | (with_reducible refine Kd.C_drew ?_))); (case side6 => exact (Kd.R_reads' HO136.out).2.1); (case side7 => repeat (first | exact (Kd.R_reads' HO139.out).2.2 | (with_reducible refine Kd.C_alloc ?_ _) | (with_reducible refine Kd.C_drewN ?_ _) | (with_reducible refine Kd.C_drew ?_))); (case side8 => exact (Kd.R_reads' HO139.out).2.1); rintro e w3032 ⟨rfl, hb⟩; have n0_ := zm (Kd.R_below (zq49) hb); have n1_ := zm (Kd.R_below (zq71) hb); have n2_ := zm (Kd.R_below (zq70) hb); have n3_ := zm (Kd.R_below (zq72) hb); have n4_ := zm (Kd.R_below (zq81) hb); have n5_ := zm (Kd.R_below (zq80) hb); have n6_ := zm (Kd.R_below (zq89) hb); have n7_ := zm (Kd.R_below (zq88) hb); have n8_ := zm (blk_below (g := gb110) (o := .cells #[.string t102, .slice Ao3004 t103.length co3004, .slice Ao3005 t106.length co3005] 25 (0, 0)) (zq40) hb); have n9_ := zm (blk_below (g := gb119) (o := .cells #[.string t111, .slice Ao3010 t112.length co3010, .slice Ao3011 t115.length co3011] 25 (0, 0)) (zq54) hb); have n10_ := zm (blk_below (g := gb130) (o := .cells #[.string t120, .string t121, .string t122, .slice Ao3017 t123.length co3017, .slice Ao3018 t126.length co3018] 38 (0, 0)) (zq69) hb); have n11_ := zm (blk_below (g := gb141) (o := .cells #[.string t131, .string t132, .string t133, .slice Ao3025 t134.length co3025, .slice Ao3026 t137.length co3026] 38 (0, 0)) (zq92) hb); have n12_ := zm (below_step (zq30) hb); clear HO105 HO108 HO114 HO117 HO125 HO128 HO136 HO139 BK110 BK119 BK130 BK141 HB; revert n0_ n1_ n2_ n3_ n4_ n5_ n6_ n7_ n8_ n9_ n10_ n11_ n12_; intro HO105 HO108 HO114 HO117 HO125 HO128 HO136 HO139 BK110 BK119 BK130 BK141 HB; (try clear hb); (try clear hb2); (try clear hk); (try clear hi)) | (go_at_call 11; (with_reducible refine (pleachlaw25_awake.calls kj2  t145 _ A55.out).mono ?_); rintro e w3033 ⟨rfl, hb⟩; have n0_ := zm (Kd.R_below (zq49) hb); have n1_ := zm (Kd.R_below (zq71) hb); have n2_ := zm (Kd.R_below (zq70) hb); have n3_ := zm (Kd.R_below (zq72) hb); have n4_ := zm (Kd.R_below (zq81) hb); have n5_ := zm (Kd.R_below (zq80) hb); have n6_ := zm (Kd.R_below (zq89) hb); have n7_ := zm (Kd.R_below (zq88) hb); have n8_ := zm (blk_below (g := gb110) (o := .cells #[.string t102, .slice Ao3004 t103.length co3004, .slice Ao3005 t106.length co3005] 25 (0, 0)) (zq40) hb); have n9_ := zm (blk_below (g := gb119) (o := .cells #[.string t111, .slice Ao3010 t112.length co3010, .slice Ao3011 t115.length co3011] 25 (0, 0)) (zq54) hb); have n10_ := zm (blk_below (g := gb130) (o := .cells #[.string t120, .string t121, .string t122, .slice Ao3017 t123.length co3017, .slice Ao3018 t126.length co3018] 38 (0, 0)) (zq69) hb); have n11_ := zm (blk_below (g := gb141) (o := .cells #[.string t131, .string t132, .string t133, .slice Ao3025 t134.length co3025, .slice Ao3026 t137.length co3026] 38 (0, 0)) (zq92) hb); have n12_ := zm (below_step (zq30) hb); clear HO105 HO108 HO114 HO117 HO125 HO128 HO136 HO139 BK110 BK119 BK130 BK141 HB; revert n0_ n1_ n2_ n3_ n4_ n5_ n6_ n7_ n8_ n9_ n10_ n11_ n12_; intro HO105 HO108 HO114 HO117 HO125 HO128 HO136 HO139 BK110 BK119 BK130 BK141 HB; (try clear hb); (try clear hb2); (try clear hk); (try clear hi)) | (go_at_call 11; (with_reducible refine (pleachlaw25_awake.calls kj2  t147 _ A94.out).mono ?_); rintro e w3033 ⟨rfl, hb⟩; have n0_ := zm (Kd.R_below (zq49) hb); have n1_ := zm (Kd.R_below (zq71) hb); have n2_ := zm (Kd.R_below (zq70) hb); have n3_ := zm (Kd.R_below (zq72) hb); have n4_ := zm (Kd.R_below (zq81) hb); have n5_ := zm (Kd.R_below (zq80) hb); have n6_ := zm (Kd.R_below (zq89) hb); have n7_ := zm (Kd.R_below (zq88) hb); have n8_ := zm (blk_below (g := gb110) (o := .cells #[.string t102, .slice Ao3004 t103.length co3004, .slice Ao3005 t106.length co3005] 25 (0, 0)) (zq40) hb); have n9_ := zm (blk_below (g := gb119) (o := .cells #[.string t111, .slice Ao3010 t112.length co3010, .slice Ao3011 t115.length co3011] 25 (0, 0)) (zq54) hb); have n10_ := zm (blk_below (g := gb130) (o := .cells #[.string t120, .string t121, .string t122, .slice Ao3017 t123.length co3017, .slice Ao3018 t126.length co3018] 38 (0, 0)) (zq69) hb); have n11_ := zm (blk_below (g := gb141) (o := .cells #[.string t131, .string t132, .string t133, .slice Ao3025 t134.length co3025, .slice Ao3026 t137.length co3026] 38 (0, 0)) (zq92) hb); have n12_ := zm (below_step (zq30) hb); clear HO105 HO108 HO114 HO117 HO125 HO128 HO136 HO139 BK110 BK119 BK130 BK141 HB; revert n0_ n1_ n2_ n3_ n4_ n5_ n6_ n7_ n8_ n9_ n10_ n11_ n12_; intro HO105 HO108 HO114 HO117 HO125 HO128 HO136 HO139 BK110 BK119 BK130 BK141 HB; (try clear hb); (try clear hb2); (try clear hk); (try clear hi)) | (go_at_call 11; (with_reducible refine (pleachlaw25_awake.calls kj2  t144 _ A20.out).mono ?_); rintro e w3033 ⟨rfl, hb⟩; have n0_ := zm (Kd.R_below (zq49) hb); have n1_ := zm (Kd.R_below (zq71) hb); have n2_ := zm (Kd.R_below (zq70) hb); have n3_ := zm (Kd.R_below (zq72) hb); have n4_ := zm (Kd.R_below (zq81) hb); have n5_ := zm (Kd.R_below (zq80) hb); have n6_ := zm (Kd.R_below (zq89) hb); have n7_ := zm (Kd.R_below (zq88) hb); have n8_ := zm (blk_below (g := gb110) (o := .cells #[.string t102, .slice Ao3004 t103.length co3004, .slice Ao3005 t106.length co3005] 25 (0, 0)) (zq40) hb); have n9_ := zm (blk_below (g := gb119) (o := .cells #[.string t111, .slice Ao3010 t112.length co3010, .slice Ao3011 t115.length co3011] 25 (0, 0)) (zq54) hb); have n10_ := zm (blk_below (g := gb130) (o := .cells #[.string t120, .string t121, .string t122, .slice Ao3017 t123.length co3017, .slice Ao3018 t126.length co3018] 38 (0, 0)) (zq69) hb); have n11_ := zm (blk_below (g := gb141) (o := .cells #[.string t131, .string t132, .string t133, .slice Ao3025 t134.length co3025, .slice Ao3026 t137.length co3026] 38 (0, 0)) (zq92) hb); have n12_ := zm (below_step (zq30) hb); clear HO105 HO108 HO114 HO117 HO125 HO128 HO136 HO139 BK110 BK119 BK130 BK141 HB; revert n0_ n1_ n2_ n3_ n4_ n5_ n6_ n7_ n8_ n9_ n10_ n11_ n12_; intro HO105 HO108 HO114 HO117 HO125 HO128 HO136 HO139 BK110 BK119 BK130 BK141 HB; (try clear hb); (try clear hb2); (try clear hk); (try clear hi)) | ((with_reducible refine gate_callee (f := 11) rfl ?_); refine goesL_ (some 21) rfl rfl Try.func11 (by kernel_rfl) rfl #[] rfl (zq2) ?_; (with_reducible refine (pleachlaw25_awake.calls kj2  t101 _ A6.out).mono ?_); rintro e w3001 ⟨rfl, hb⟩; refine ⟨_, rfl, ?_⟩; have n0_ := zm (below_step (zq0) hb); clear HB; revert n0_; intro HB; (try clear hb); (try clear hb2); (try clear hk); (try clear hi))); (first | (go_ret; exact ⟨zq5, zq30⟩) | (go_ret; exact ⟨zq5, zq0⟩))) : P := h
def pleachlaw25_ElemTakes.j0 : Nat → ByteArray → ByteArray → Bool → Option (Bool)
  | 0, _, _, _ => none
  | k + 1, x0, x1, x20 => if x20 = true then ((pleachlaw25_awake.f k).bind fun t101 => (some t101)) else ((elem_TakeNode.f k x0 x1).bind fun bt102 => ((pleachref25_TakeNode.f k x0 x1).bind fun bt111 => ((elem_TakeEdge.f k x0 x1).bind fun bt120 => ((pleachref25_TakeEdge.f k x0 x1).bind fun bt131 => ((pleachref25_SameNode.f k bt102.1 bt102.2.1 bt102.2.2.1 bt111.1 bt111.2.1 bt111.2.2.1).bind fun t142 => (if t142 = true then (if ((bt102.2.2.2 == 0) == bt111.2.2.2) = true then (if bt111.2.2.2 = true then ((pleachref25_SameEdge.f k bt120.1 bt120.2.1 bt120.2.2.1 bt120.2.2.2.1 bt120.2.2.2.2.1 bt131.1 bt131.2.1 bt131.2.2.1 bt131.2.2.2.1 bt131.2.2.2.2.1).bind fun t143 => (if t143 = true then (if ((bt120.2.2.2.2.2 == 0) == bt131.2.2.2.2.2) = true then (if bt131.2.2.2.2.2 = true then ((pleachlaw25_awake.f k).bind fun t144 => (some t144)) else (if bt120.2.2.2.2.2 = 3 then ((pleachlaw25_awake.f k).bind fun t145 => (some t145)) else (none))) else (none)) else (none))) else (if bt102.2.2.2 = 3 then ((pleachref25_SameEdge.f k bt120.1 bt120.2.1 bt120.2.2.1 bt120.2.2.2.1 bt120.2.2.2.2.1 bt131.1 bt131.2.1 bt131.2.2.1 bt131.2.2.2.1 bt131.2.2.2.2.1).bind fun t146 => (if t146 = true then (if ((bt120.2.2.2.2.2 == 0) == bt131.2.2.2.2.2) = true then (if bt131.2.2.2.2.2 = true then ((pleachlaw25_awake.f k).bind fun t147 => (some t147)) else (if bt120.2.2.2.2.2 = 3 then ((pleachlaw25_awake.f k).bind fun t148 => (some t148)) else (none))) else (none)) else (none))) else (none))) else (none)) else (none)))))))
def pleachlaw25_ElemTakes.f (k : Nat) (a0 : ByteArray) (a1 : ByteArray) : Option (Bool) := if (a0.size : Int) > 100 then (pleachlaw25_ElemTakes.j0 k a0 a1 true) else (pleachlaw25_ElemTakes.j0 k a0 a1 (decide ((a1.size : Int) > 3000)))
theorem pleachlaw25_ElemTakes.mono_l : ∀ k, (∀ y0 y1 y2, LeO (pleachlaw25_ElemTakes.j0 k y0 y1 y2) (pleachlaw25_ElemTakes.j0 (k + 1) y0 y1 y2))
  | 0 => fun _ _ _ r h => by simp [pleachlaw25_ElemTakes.j0] at h
  | k + 1 => by
    have ih0 := pleachlaw25_ElemTakes.mono_l k
    · intro y0 y1 y2; unfold pleachlaw25_ElemTakes.j0
      repeat' first
      | (with_reducible exact ih0 _ _ _)
      | (with_reducible exact elem_TakeEdge.mono _ _ _)
      | (with_reducible exact elem_TakeNode.mono _ _ _)
      | (with_reducible exact pleachlaw25_awake.mono _)
      | (with_reducible exact pleachref25_SameEdge.mono _ _ _ _ _ _ _ _ _ _ _)
      | (with_reducible exact pleachref25_SameNode.mono _ _ _ _ _ _ _)
      | (with_reducible exact pleachref25_TakeEdge.mono _ _ _)
      | (with_reducible exact pleachref25_TakeNode.mono _ _ _)
      | (with_reducible exact LeO.refl _)
      | (with_reducible exact LeO.none _)
      | (with_reducible refine LeO.ite ?_ ?_)
      | (with_reducible refine LeO.bind ?_ (fun _ => ?_))
      | exact ih0 _ _ _
      | exact elem_TakeEdge.mono _ _ _
      | exact elem_TakeNode.mono _ _ _
      | exact pleachlaw25_awake.mono _
      | exact pleachref25_SameEdge.mono _ _ _ _ _ _ _ _ _ _ _
      | exact pleachref25_SameNode.mono _ _ _ _ _ _ _
      | exact pleachref25_TakeEdge.mono _ _ _
      | exact pleachref25_TakeNode.mono _ _ _
      | exact LeO.none _
      | refine LeO.ite ?_ ?_
      | refine LeO.bind ?_ (fun _ => ?_)
theorem pleachlaw25_ElemTakes.mono : ∀ a0 a1 k, LeO (pleachlaw25_ElemTakes.f k a0 a1) (pleachlaw25_ElemTakes.f (k + 1) a0 a1) := by
  intro a0 a1 k; have ih0 := pleachlaw25_ElemTakes.mono_l k; unfold pleachlaw25_ElemTakes.f
  repeat' first
      | (with_reducible exact ih0 _ _ _)
      | (with_reducible exact elem_TakeEdge.mono _ _ _)
      | (with_reducible exact elem_TakeNode.mono _ _ _)
      | (with_reducible exact pleachlaw25_awake.mono _)
      | (with_reducible exact pleachref25_SameEdge.mono _ _ _ _ _ _ _ _ _ _ _)
      | (with_reducible exact pleachref25_SameNode.mono _ _ _ _ _ _ _)
      | (with_reducible exact pleachref25_TakeEdge.mono _ _ _)
      | (with_reducible exact pleachref25_TakeNode.mono _ _ _)
      | (with_reducible exact LeO.refl _)
      | (with_reducible exact LeO.none _)
      | (with_reducible refine LeO.ite ?_ ?_)
      | (with_reducible refine LeO.bind ?_ (fun _ => ?_))
      | exact ih0 _ _ _
      | exact elem_TakeEdge.mono _ _ _
      | exact elem_TakeNode.mono _ _ _
      | exact pleachlaw25_awake.mono _
      | exact pleachref25_SameEdge.mono _ _ _ _ _ _ _ _ _ _ _
      | exact pleachref25_SameNode.mono _ _ _ _ _ _ _
      | exact pleachref25_TakeEdge.mono _ _ _
      | exact pleachref25_TakeNode.mono _ _ _
      | exact LeO.none _
      | refine LeO.ite ?_ ?_
      | refine LeO.bind ?_ (fun _ => ?_)
set_option maxHeartbeats 8000000 in
set_option maxRecDepth 100000 in
theorem pleachlaw25_ElemTakes.calls (k : Nat) (a0 : ByteArray) (a1 : ByteArray) (r : Bool) (w : World) (h : pleachlaw25_ElemTakes.f k a0 a1 = some r) :
    Calls Try.prog 7 #[.string a0, .string a1] w fun e w' => e = .returned (.bool r) ∧ Below w.heap.size w w' := by
  have hu25 := Try.underlying25; have hu38 := Try.underlying38; have HB := zm (Below.refl w.heap.size w); have H : (if (a0.size : Int) > 100 then (pleachlaw25_ElemTakes.j0 k a0 a1 true) else (pleachlaw25_ElemTakes.j0 k a0 a1 (decide ((a1.size : Int) > 3000)))) = some r := h; clear h; have HC3 := Aside0.mk H; clear H; go_enter Try.func7, Try.ntmps7; go_upto_region 1 with (fail); (go_cut [20] (fun v20 wc => ∃ (kq : Nat) (x20_2 : Bool), v20 = .bool x20_2 ∧ Aside0 (pleachlaw25_ElemTakes.j0 kq a0 a1 x20_2 = some r) ∧ Aside0 (kq ≤ k) ∧ Aside0 (Below w.heap.size w wc)))
  case first =>
    have H := HC3.out; clear HC3; by_cases c4 : (a0.size : Int) > 100
    · rw [if_pos c4] at H; have c4b0 : decide (100 < (a0.size : Int)) = true := decide_eq_true c4; have c4b1 : decide (100 < a0.size) = true := decide_eq_true (by omega); clear c4; (first | rw [c4b0] | (simp only [i64_w, i32_w]; rw [c4b0]) | skip); have H' := Aside0.mk H; clear H; (go_wp2); (go_meet)
      case rel => exact ⟨_, (true), (zq11), H', ⟨zq130⟩, ⟨zq0⟩⟩
    · rw [if_neg c4] at H; have c4b0 : decide (100 < (a0.size : Int)) = false := decide_eq_false c4; have c4b1 : decide (100 < a0.size) = false := decide_eq_false (by omega); clear c4; (first | rw [c4b0] | (simp only [i64_w, i32_w]; rw [c4b0]) | skip); have H' := Aside0.mk H; clear H; (go_wp2); (go_meet)
      case rel => exact ⟨_, (decide ((a1.size : Int) > 3000)), (zq11), H', ⟨zq130⟩, ⟨zq0⟩⟩
  case rest =>
    clear HC3; (try clear p2); (try clear c4); (try clear c4b0); (try clear c4b1); obtain ⟨kq, x20_2, rfl, HA, HJ2, HB⟩ := hcut
    cases kq with
    | zero => exact absurd HA.out (by simp [pleachlaw25_ElemTakes.j0])
    | succ kj2 =>
      have H := HA.out; clear HA; simp only [pleachlaw25_ElemTakes.j0] at H; by_cases c5 : x20_2 = true
      · subst c5; (have H1 : ((pleachlaw25_awake.f kj2).bind fun t101 => (some t101)) = some r := by rw [if_pos rfl] at H; exact H); clear H; have H := H1; clear H1; replace H := Option.bind_eq_some_iff.mp H; obtain ⟨t101, A60, H⟩ := H; replace H : (some t101) = some r := H; have A6 := Aside0.mk A60; clear A60; obtain rfl := Option.some.inj H; exact zl92x0
      · replace c5 := Bool.eq_false_iff.mpr c5; subst c5; (have H1 : ((elem_TakeNode.f kj2 a0 a1).bind fun bt102 => ((pleachref25_TakeNode.f kj2 a0 a1).bind fun bt111 => ((elem_TakeEdge.f kj2 a0 a1).bind fun bt120 => ((pleachref25_TakeEdge.f kj2 a0 a1).bind fun bt131 => ((pleachref25_SameNode.f kj2 bt102.1 bt102.2.1 bt102.2.2.1 bt111.1 bt111.2.1 bt111.2.2.1).bind fun t142 => (if t142 = true then (if ((bt102.2.2.2 == 0) == bt111.2.2.2) = true then (if bt111.2.2.2 = true then ((pleachref25_SameEdge.f kj2 bt120.1 bt120.2.1 bt120.2.2.1 bt120.2.2.2.1 bt120.2.2.2.2.1 bt131.1 bt131.2.1 bt131.2.2.1 bt131.2.2.2.1 bt131.2.2.2.2.1).bind fun t143 => (if t143 = true then (if ((bt120.2.2.2.2.2 == 0) == bt131.2.2.2.2.2) = true then (if bt131.2.2.2.2.2 = true then ((pleachlaw25_awake.f kj2).bind fun t144 => (some t144)) else (if bt120.2.2.2.2.2 = 3 then ((pleachlaw25_awake.f kj2).bind fun t145 => (some t145)) else (none))) else (none)) else (none))) else (if bt102.2.2.2 = 3 then ((pleachref25_SameEdge.f kj2 bt120.1 bt120.2.1 bt120.2.2.1 bt120.2.2.2.1 bt120.2.2.2.2.1 bt131.1 bt131.2.1 bt131.2.2.1 bt131.2.2.2.1 bt131.2.2.2.2.1).bind fun t146 => (if t146 = true then (if ((bt120.2.2.2.2.2 == 0) == bt131.2.2.2.2.2) = true then (if bt131.2.2.2.2.2 = true then ((pleachlaw25_awake.f kj2).bind fun t147 => (some t147)) else (if bt120.2.2.2.2.2 = 3 then ((pleachlaw25_awake.f kj2).bind fun t148 => (some t148)) else (none))) else (none)) else (none))) else (none))) else (none)) else (none))))))) = some r := by rw [if_neg (show ¬ (false = true) by decide)] at H; exact H); clear H; have H := H1; clear H1; replace H := Option.bind_eq_some_iff.mp H; obtain ⟨⟨t102, t103, t106, t109⟩, A80, H⟩ := H; replace H : ((pleachref25_TakeNode.f kj2 a0 a1).bind fun bt111 => ((elem_TakeEdge.f kj2 a0 a1).bind fun bt120 => ((pleachref25_TakeEdge.f kj2 a0 a1).bind fun bt131 => ((pleachref25_SameNode.f kj2 t102 t103 t106 bt111.1 bt111.2.1 bt111.2.2.1).bind fun t142 => (if t142 = true then (if ((t109 == 0) == bt111.2.2.2) = true then (if bt111.2.2.2 = true then ((pleachref25_SameEdge.f kj2 bt120.1 bt120.2.1 bt120.2.2.1 bt120.2.2.2.1 bt120.2.2.2.2.1 bt131.1 bt131.2.1 bt131.2.2.1 bt131.2.2.2.1 bt131.2.2.2.2.1).bind fun t143 => (if t143 = true then (if ((bt120.2.2.2.2.2 == 0) == bt131.2.2.2.2.2) = true then (if bt131.2.2.2.2.2 = true then ((pleachlaw25_awake.f kj2).bind fun t144 => (some t144)) else (if bt120.2.2.2.2.2 = 3 then ((pleachlaw25_awake.f kj2).bind fun t145 => (some t145)) else (none))) else (none)) else (none))) else (if t109 = 3 then ((pleachref25_SameEdge.f kj2 bt120.1 bt120.2.1 bt120.2.2.1 bt120.2.2.2.1 bt120.2.2.2.2.1 bt131.1 bt131.2.1 bt131.2.2.1 bt131.2.2.2.1 bt131.2.2.2.2.1).bind fun t146 => (if t146 = true then (if ((bt120.2.2.2.2.2 == 0) == bt131.2.2.2.2.2) = true then (if bt131.2.2.2.2.2 = true then ((pleachlaw25_awake.f kj2).bind fun t147 => (some t147)) else (if bt120.2.2.2.2.2 = 3 then ((pleachlaw25_awake.f kj2).bind fun t148 => (some t148)) else (none))) else (none)) else (none))) else (none))) else (none)) else (none)))))) = some r := H; have A8 := Aside0.mk A80; clear A80; replace H := Option.bind_eq_some_iff.mp H; obtain ⟨⟨t111, t112, t115, t118⟩, A90, H⟩ := H; replace H : ((elem_TakeEdge.f kj2 a0 a1).bind fun bt120 => ((pleachref25_TakeEdge.f kj2 a0 a1).bind fun bt131 => ((pleachref25_SameNode.f kj2 t102 t103 t106 t111 t112 t115).bind fun t142 => (if t142 = true then (if ((t109 == 0) == t118) = true then (if t118 = true then ((pleachref25_SameEdge.f kj2 bt120.1 bt120.2.1 bt120.2.2.1 bt120.2.2.2.1 bt120.2.2.2.2.1 bt131.1 bt131.2.1 bt131.2.2.1 bt131.2.2.2.1 bt131.2.2.2.2.1).bind fun t143 => (if t143 = true then (if ((bt120.2.2.2.2.2 == 0) == bt131.2.2.2.2.2) = true then (if bt131.2.2.2.2.2 = true then ((pleachlaw25_awake.f kj2).bind fun t144 => (some t144)) else (if bt120.2.2.2.2.2 = 3 then ((pleachlaw25_awake.f kj2).bind fun t145 => (some t145)) else (none))) else (none)) else (none))) else (if t109 = 3 then ((pleachref25_SameEdge.f kj2 bt120.1 bt120.2.1 bt120.2.2.1 bt120.2.2.2.1 bt120.2.2.2.2.1 bt131.1 bt131.2.1 bt131.2.2.1 bt131.2.2.2.1 bt131.2.2.2.2.1).bind fun t146 => (if t146 = true then (if ((bt120.2.2.2.2.2 == 0) == bt131.2.2.2.2.2) = true then (if bt131.2.2.2.2.2 = true then ((pleachlaw25_awake.f kj2).bind fun t147 => (some t147)) else (if bt120.2.2.2.2.2 = 3 then ((pleachlaw25_awake.f kj2).bind fun t148 => (some t148)) else (none))) else (none)) else (none))) else (none))) else (none)) else (none))))) = some r := H; have A9 := Aside0.mk A90; clear A90; replace H := Option.bind_eq_some_iff.mp H; obtain ⟨⟨t120, t121, t122, t123, t126, t129⟩, A100, H⟩ := H; replace H : ((pleachref25_TakeEdge.f kj2 a0 a1).bind fun bt131 => ((pleachref25_SameNode.f kj2 t102 t103 t106 t111 t112 t115).bind fun t142 => (if t142 = true then (if ((t109 == 0) == t118) = true then (if t118 = true then ((pleachref25_SameEdge.f kj2 t120 t121 t122 t123 t126 bt131.1 bt131.2.1 bt131.2.2.1 bt131.2.2.2.1 bt131.2.2.2.2.1).bind fun t143 => (if t143 = true then (if ((t129 == 0) == bt131.2.2.2.2.2) = true then (if bt131.2.2.2.2.2 = true then ((pleachlaw25_awake.f kj2).bind fun t144 => (some t144)) else (if t129 = 3 then ((pleachlaw25_awake.f kj2).bind fun t145 => (some t145)) else (none))) else (none)) else (none))) else (if t109 = 3 then ((pleachref25_SameEdge.f kj2 t120 t121 t122 t123 t126 bt131.1 bt131.2.1 bt131.2.2.1 bt131.2.2.2.1 bt131.2.2.2.2.1).bind fun t146 => (if t146 = true then (if ((t129 == 0) == bt131.2.2.2.2.2) = true then (if bt131.2.2.2.2.2 = true then ((pleachlaw25_awake.f kj2).bind fun t147 => (some t147)) else (if t129 = 3 then ((pleachlaw25_awake.f kj2).bind fun t148 => (some t148)) else (none))) else (none)) else (none))) else (none))) else (none)) else (none)))) = some r := H; have A10 := Aside0.mk A100; clear A100; replace H := Option.bind_eq_some_iff.mp H; obtain ⟨⟨t131, t132, t133, t134, t137, t140⟩, A110, H⟩ := H; replace H : ((pleachref25_SameNode.f kj2 t102 t103 t106 t111 t112 t115).bind fun t142 => (if t142 = true then (if ((t109 == 0) == t118) = true then (if t118 = true then ((pleachref25_SameEdge.f kj2 t120 t121 t122 t123 t126 t131 t132 t133 t134 t137).bind fun t143 => (if t143 = true then (if ((t129 == 0) == t140) = true then (if t140 = true then ((pleachlaw25_awake.f kj2).bind fun t144 => (some t144)) else (if t129 = 3 then ((pleachlaw25_awake.f kj2).bind fun t145 => (some t145)) else (none))) else (none)) else (none))) else (if t109 = 3 then ((pleachref25_SameEdge.f kj2 t120 t121 t122 t123 t126 t131 t132 t133 t134 t137).bind fun t146 => (if t146 = true then (if ((t129 == 0) == t140) = true then (if t140 = true then ((pleachlaw25_awake.f kj2).bind fun t147 => (some t147)) else (if t129 = 3 then ((pleachlaw25_awake.f kj2).bind fun t148 => (some t148)) else (none))) else (none)) else (none))) else (none))) else (none)) else (none))) = some r := H; have A11 := Aside0.mk A110; clear A110; replace H := Option.bind_eq_some_iff.mp H; obtain ⟨t142, A120, H⟩ := H; replace H : (if t142 = true then (if ((t109 == 0) == t118) = true then (if t118 = true then ((pleachref25_SameEdge.f kj2 t120 t121 t122 t123 t126 t131 t132 t133 t134 t137).bind fun t143 => (if t143 = true then (if ((t129 == 0) == t140) = true then (if t140 = true then ((pleachlaw25_awake.f kj2).bind fun t144 => (some t144)) else (if t129 = 3 then ((pleachlaw25_awake.f kj2).bind fun t145 => (some t145)) else (none))) else (none)) else (none))) else (if t109 = 3 then ((pleachref25_SameEdge.f kj2 t120 t121 t122 t123 t126 t131 t132 t133 t134 t137).bind fun t146 => (if t146 = true then (if ((t129 == 0) == t140) = true then (if t140 = true then ((pleachlaw25_awake.f kj2).bind fun t147 => (some t147)) else (if t129 = 3 then ((pleachlaw25_awake.f kj2).bind fun t148 => (some t148)) else (none))) else (none)) else (none))) else (none))) else (none)) else (none)) = some r := H; have A12 := Aside0.mk A120; clear A120; by_cases c13 : t142 = true
        · subst c13; (have H1 : (if ((t109 == 0) == t118) = true then (if t118 = true then ((pleachref25_SameEdge.f kj2 t120 t121 t122 t123 t126 t131 t132 t133 t134 t137).bind fun t143 => (if t143 = true then (if ((t129 == 0) == t140) = true then (if t140 = true then ((pleachlaw25_awake.f kj2).bind fun t144 => (some t144)) else (if t129 = 3 then ((pleachlaw25_awake.f kj2).bind fun t145 => (some t145)) else (none))) else (none)) else (none))) else (if t109 = 3 then ((pleachref25_SameEdge.f kj2 t120 t121 t122 t123 t126 t131 t132 t133 t134 t137).bind fun t146 => (if t146 = true then (if ((t129 == 0) == t140) = true then (if t140 = true then ((pleachlaw25_awake.f kj2).bind fun t147 => (some t147)) else (if t129 = 3 then ((pleachlaw25_awake.f kj2).bind fun t148 => (some t148)) else (none))) else (none)) else (none))) else (none))) else (none)) = some r := by rw [if_pos rfl] at H; exact H); clear H; have H := H1; clear H1; by_cases c14 : ((t109 == 0) == t118) = true
          · rw [if_pos c14] at H; have c14b0 : ((t109 == 0) == t118) = true := c14; (try (have c14b1 : decide ((t109 == 0) = t118) = true := by simpa using c14)); (try (have c14b2 : ((t109 == 0) == t118) = true := by simpa using c14)); clear c14; by_cases c15 : t118 = true
            · subst c15; (have H1 : ((pleachref25_SameEdge.f kj2 t120 t121 t122 t123 t126 t131 t132 t133 t134 t137).bind fun t143 => (if t143 = true then (if ((t129 == 0) == t140) = true then (if t140 = true then ((pleachlaw25_awake.f kj2).bind fun t144 => (some t144)) else (if t129 = 3 then ((pleachlaw25_awake.f kj2).bind fun t145 => (some t145)) else (none))) else (none)) else (none))) = some r := by rw [if_pos rfl] at H; exact H); clear H; have H := H1; clear H1; replace H := Option.bind_eq_some_iff.mp H; obtain ⟨t143, A160, H⟩ := H; replace H : (if t143 = true then (if ((t129 == 0) == t140) = true then (if t140 = true then ((pleachlaw25_awake.f kj2).bind fun t144 => (some t144)) else (if t129 = 3 then ((pleachlaw25_awake.f kj2).bind fun t145 => (some t145)) else (none))) else (none)) else (none)) = some r := H; have A16 := Aside0.mk A160; clear A160; by_cases c17 : t143 = true
              · subst c17; (have H1 : (if ((t129 == 0) == t140) = true then (if t140 = true then ((pleachlaw25_awake.f kj2).bind fun t144 => (some t144)) else (if t129 = 3 then ((pleachlaw25_awake.f kj2).bind fun t145 => (some t145)) else (none))) else (none)) = some r := by rw [if_pos rfl] at H; exact H); clear H; have H := H1; clear H1; by_cases c18 : ((t129 == 0) == t140) = true
                · rw [if_pos c18] at H; have c18b0 : ((t129 == 0) == t140) = true := c18; (try (have c18b1 : decide ((t129 == 0) = t140) = true := by simpa using c18)); (try (have c18b2 : ((t129 == 0) == t140) = true := by simpa using c18)); clear c18; by_cases c19 : t140 = true
                  · subst c19; (have H1 : ((pleachlaw25_awake.f kj2).bind fun t144 => (some t144)) = some r := by rw [if_pos rfl] at H; exact H); clear H; have H := H1; clear H1; replace H := Option.bind_eq_some_iff.mp H; obtain ⟨t144, A200, H⟩ := H; replace H : (some t144) = some r := H; have A20 := Aside0.mk A200; clear A200; obtain rfl := Option.some.inj H; exact zl92x0
                  · replace c19 := Bool.eq_false_iff.mpr c19; subst c19; (have H1 : (if t129 = 3 then ((pleachlaw25_awake.f kj2).bind fun t145 => (some t145)) else (none)) = some r := by rw [if_neg (show ¬ (false = true) by decide)] at H; exact H); clear H; have H := H1; clear H1; by_cases c54 : t129 = 3
                    · rw [if_pos c54] at H; have c54b0 : (t129 == 3) = true := beq_iff_eq.mpr c54; have c54b1 : (t129 != 3) = false := bne_eq_false_iff_eq.mpr c54; clear c54; replace H := Option.bind_eq_some_iff.mp H; obtain ⟨t145, A550, H⟩ := H; replace H : (some t145) = some r := H; have A55 := Aside0.mk A550; clear A550; obtain rfl := Option.some.inj H; exact zl92x0
                    · rw [if_neg c54] at H; exact absurd H (by simp)
                · rw [if_neg c18] at H; exact absurd H (by simp)
              · replace c17 := Bool.eq_false_iff.mpr c17; subst c17; (have H1 : (none) = some r := by rw [if_neg (show ¬ (false = true) by decide)] at H; exact H); clear H; have H := H1; clear H1; exact absurd H (by simp)
            · replace c15 := Bool.eq_false_iff.mpr c15; subst c15; (have H1 : (if t109 = 3 then ((pleachref25_SameEdge.f kj2 t120 t121 t122 t123 t126 t131 t132 t133 t134 t137).bind fun t146 => (if t146 = true then (if ((t129 == 0) == t140) = true then (if t140 = true then ((pleachlaw25_awake.f kj2).bind fun t147 => (some t147)) else (if t129 = 3 then ((pleachlaw25_awake.f kj2).bind fun t148 => (some t148)) else (none))) else (none)) else (none))) else (none)) = some r := by rw [if_neg (show ¬ (false = true) by decide)] at H; exact H); clear H; have H := H1; clear H1; by_cases c89 : t109 = 3
              · rw [if_pos c89] at H; have c89b0 : (t109 == 3) = true := beq_iff_eq.mpr c89; have c89b1 : (t109 != 3) = false := bne_eq_false_iff_eq.mpr c89; clear c89; replace H := Option.bind_eq_some_iff.mp H; obtain ⟨t146, A900, H⟩ := H; replace H : (if t146 = true then (if ((t129 == 0) == t140) = true then (if t140 = true then ((pleachlaw25_awake.f kj2).bind fun t147 => (some t147)) else (if t129 = 3 then ((pleachlaw25_awake.f kj2).bind fun t148 => (some t148)) else (none))) else (none)) else (none)) = some r := H; have A90 := Aside0.mk A900; clear A900; by_cases c91 : t146 = true
                · subst c91; (have H1 : (if ((t129 == 0) == t140) = true then (if t140 = true then ((pleachlaw25_awake.f kj2).bind fun t147 => (some t147)) else (if t129 = 3 then ((pleachlaw25_awake.f kj2).bind fun t148 => (some t148)) else (none))) else (none)) = some r := by rw [if_pos rfl] at H; exact H); clear H; have H := H1; clear H1; by_cases c92 : ((t129 == 0) == t140) = true
                  · rw [if_pos c92] at H; have c92b0 : ((t129 == 0) == t140) = true := c92; (try (have c92b1 : decide ((t129 == 0) = t140) = true := by simpa using c92)); (try (have c92b2 : ((t129 == 0) == t140) = true := by simpa using c92)); clear c92; by_cases c93 : t140 = true
                    · subst c93; (have H1 : ((pleachlaw25_awake.f kj2).bind fun t147 => (some t147)) = some r := by rw [if_pos rfl] at H; exact H); clear H; have H := H1; clear H1; replace H := Option.bind_eq_some_iff.mp H; obtain ⟨t147, A940, H⟩ := H; replace H : (some t147) = some r := H; have A94 := Aside0.mk A940; clear A940; obtain rfl := Option.some.inj H; exact zl92x0
                    · replace c93 := Bool.eq_false_iff.mpr c93; subst c93; (have H1 : (if t129 = 3 then ((pleachlaw25_awake.f kj2).bind fun t148 => (some t148)) else (none)) = some r := by rw [if_neg (show ¬ (false = true) by decide)] at H; exact H); clear H; have H := H1; clear H1; by_cases c128 : t129 = 3
                      · rw [if_pos c128] at H; have c128b0 : (t129 == 3) = true := beq_iff_eq.mpr c128; have c128b1 : (t129 != 3) = false := bne_eq_false_iff_eq.mpr c128; clear c128; replace H := Option.bind_eq_some_iff.mp H; obtain ⟨t148, A1290, H⟩ := H; replace H : (some t148) = some r := H; have A129 := Aside0.mk A1290; clear A1290; obtain rfl := Option.some.inj H; exact zl92x0
                      · rw [if_neg c128] at H; exact absurd H (by simp)
                  · rw [if_neg c92] at H; exact absurd H (by simp)
                · replace c91 := Bool.eq_false_iff.mpr c91; subst c91; (have H1 : (none) = some r := by rw [if_neg (show ¬ (false = true) by decide)] at H; exact H); clear H; have H := H1; clear H1; exact absurd H (by simp)
              · rw [if_neg c89] at H; exact absurd H (by simp)
          · rw [if_neg c14] at H; exact absurd H (by simp)
        · replace c13 := Bool.eq_false_iff.mpr c13; subst c13; (have H1 : (none) = some r := by rw [if_neg (show ¬ (false = true) by decide)] at H; exact H); clear H; have H := H1; clear H1; exact absurd H (by simp)

end Go.Proofs.Ytmnadajjgnniaaa.MA
end
section
namespace Go.Proofs.Ytmnadajjgnniaaa.MA
open Go.RowKit Go.Proofs.YtmnadajjgnniaaaW.PrintWords Go.Proofs.Ytmnadajjgnniaaa.HOpen
def pleachlaw25_ElemTakes.Pure : Prop := ∀ (x0 : ByteArray) (x1 : ByteArray), x0.size ≤ 140737488351232 → x1.size ≤ 140737488351232 → ∃ k, pleachlaw25_ElemTakes.f k x0 x1 = some true
end Go.Proofs.Ytmnadajjgnniaaa.MA
end
section
namespace Go.Proofs.Ytmnadajjgnniaaa.Q
open Go.RowKit Go.Proofs.YtmnadajjgnniaaaW.PrintWords

theorem w64 {x : Int} (h0 : -9223372036854775808 ≤ x) (h1 : x ≤ 9223372036854775807) : wrap64 x = x := by unfold wrap64; omega
theorem wu64 {x : Int} (h0 : 0 ≤ x) (h1 : x ≤ 18446744073709551615) : IntKind.u64.wrap x = x := by
  have : IntKind.u64.wrap x = x % 18446744073709551616 := by simp [IntKind.wrap, IntKind.bits, IntKind.signed]
  rw [this]; omega
theorem wu64_mod (x : Int) : IntKind.u64.wrap x = x % 18446744073709551616 := by simp [IntKind.wrap, IntKind.bits, IntKind.signed]
theorem wf_i64 {x : Int} (h : (Lit.int .i64 x).wf = true) : -9223372036854775808 ≤ x ∧ x ≤ 9223372036854775807 := by
  simp [Lit.wf, IntKind.min, IntKind.max, IntKind.bits, IntKind.signed] at h
  omega
theorem toList_size (s : ByteArray) : s.toList.length = s.size := by rw [ByteArray.toList_eq]; exact data_length s
theorem toList_nil {s : ByteArray} : s.toList = [] ↔ s.size = 0 := by
  rw [← toList_size, List.length_eq_zero_iff]
theorem bytes_ext {s t : ByteArray} (h : s.toList = t.toList) : s = t := by
  rw [ByteArray.toList_eq, ByteArray.toList_eq] at h
  have : s.data = t.data := by rwa [← Array.toList_inj]
  cases s; cases t; simp_all
theorem strOfNums_size (xs : List Int) : (strOfNums xs).size = xs.length := by unfold strOfNums; simp [ByteArray.size]
theorem strOfNums_append (xs ys : List Int) : strOfNums (xs ++ ys) = strOfNums xs ++ strOfNums ys := by
  apply ByteArray.ext
  simp [strOfNums]
theorem bt_data (s : ByteArray) (i : Nat) (h : i < s.size) : bt s (i : Int) = ((s.data.toList[i]'(by rw [Array.length_toList]; exact h)).toNat : Int) := by
  unfold bt
  simp [h]
  rfl
theorem extract_size (s : ByteArray) (a b : Nat) : (s.extract a b).size ≤ s.size := by
  rw [ByteArray.size_extract]; omega
end Go.Proofs.Ytmnadajjgnniaaa.Q
end
section
namespace Go.Proofs.Ytmnadajjgnniaaa.Q
open Go.RowKit Go.Proofs.YtmnadajjgnniaaaW.PrintWords Go.Proofs.Ytmnadajjgnniaaa.MA

theorem vput_len : ∀ f n : Nat, (vput f n).length ≤ f
  | 0, _ => by simp [vput]
  | f + 1, n => by
    unfold vput
    split
    · simp
    · have := vput_len f (n / 128)
      simp
      omega
theorem vput_pos (f n : Nat) : 0 < (vput (f + 1) n).length := by
  unfold vput
  split <;> simp
def numB (n : Nat) : ByteArray := strOfNums (vput 10 n)
theorem numB_size (n : Nat) : (numB n).size ≤ 10 := by unfold numB; rw [strOfNums_size]; exact vput_len 10 n
theorem varint_Put_eq {n : Int} (h0 : 0 ≤ n) (h1 : n < 18446744073709551616) : varint_Put.f n = some (numB n.toNat) := by
  unfold varint_Put.f
  rw [if_pos ⟨h0, h1⟩]
  rfl
def digs : Nat → Nat → List Int
  | 0, _ => []
  | f + 1, n => ((n % 128 : Nat) : Int) :: if n < 128 then [] else digs f (n / 128)
theorem digs_len : ∀ f n : Nat, (digs f n).length ≤ f
  | 0, _ => by simp [digs]
  | f + 1, n => by
    unfold digs
    split
    · simp
    · have := digs_len f (n / 128)
      simp
      omega
theorem digits_l0 : ∀ (f n : Nat) (pre : List Int), n < 128 ^ f → n < 18446744073709551616 → pre.length + f ≤ 100 → ∀ k, f + 2 ≤ k →
    pleachref01_Digits.l0 k (n : Int) pre = some (pre ++ if n = 0 then [] else digs f n)
  | 0, n, pre, hn, _, _, k, hk => by
    obtain ⟨k, rfl⟩ : ∃ m, k = m + 1 := ⟨k - 1, by omega⟩
    have : n = 0 := by simpa using hn
    subst this
    rw [pleachref01_Digits.l0, if_neg (by omega)]
    simp
  | f + 1, n, pre, hn, h64, hl, k, hk => by
    obtain ⟨k, rfl⟩ : ∃ m, k = m + 1 := ⟨k - 1, by omega⟩
    rw [pleachref01_Digits.l0]
    by_cases h0 : n = 0
    · subst h0
      rw [if_neg (by omega)]
      simp
    · rw [if_pos (by omega), if_pos (by omega)]
      have e1 : Int.tdiv (n : Int) 128 = ((n / 128 : Nat) : Int) := by rw [Int.tdiv_eq_ediv_of_nonneg (by omega)]; omega
      have e2 : Int.tmod (n : Int) 128 = ((n % 128 : Nat) : Int) := by rw [Int.tmod_eq_emod_of_nonneg (by omega)]; omega
      rw [e1, e2, wu64 (by omega) (by omega), w64 (by omega) (by omega)]
      rw [digits_l0 f (n / 128) _ (by rw [Nat.pow_succ] at hn; exact Nat.div_lt_of_lt_mul (by omega)) (by omega) (by simp; omega) k (by omega)]
      rw [if_neg h0]
      have : digs (f + 1) n = ((n % 128 : Nat) : Int) :: if n < 128 then [] else digs f (n / 128) := rfl
      rw [this]
      by_cases hlt : n < 128
      · have : n / 128 = 0 := by omega
        simp [this, hlt]
      · have : ¬ n / 128 = 0 := by omega
        simp [this, hlt]
theorem digits_ev (n : Nat) (h64 : n < 18446744073709551616) (k : Nat) (hk : 12 ≤ k) : pleachref01_Digits.f k (n : Int) = some (digs 10 n) := by
  unfold pleachref01_Digits.f
  have e1 : Int.tdiv (n : Int) 128 = ((n / 128 : Nat) : Int) := by rw [Int.tdiv_eq_ediv_of_nonneg (by omega)]; omega
  have e2 : Int.tmod (n : Int) 128 = ((n % 128 : Nat) : Int) := by rw [Int.tmod_eq_emod_of_nonneg (by omega)]; omega
  rw [e1, e2, wu64 (by omega) (by omega), w64 (by omega) (by omega)]
  rw [digits_l0 9 (n / 128) _ (by omega) (by omega) (by simp) k (by omega)]
  have : digs 10 n = ((n % 128 : Nat) : Int) :: if n < 128 then [] else digs 9 (n / 128) := rfl
  rw [this]
  by_cases hlt : n < 128
  · have : n / 128 = 0 := by omega
    simp [this, hlt]
  · have : ¬ n / 128 = 0 := by omega
    simp [this, hlt]
theorem digs_at : ∀ (f n i : Nat), n < 128 ^ f → i < (digs f n).length → 0 ≤ (digs f n).getD i 0 ∧ (digs f n).getD i 0 < 128
  | 0, _, _, _, h => by simp [digs] at h
  | f + 1, n, 0, _, _ => by simp [digs]; omega
  | f + 1, n, i + 1, hn, h => by
    unfold digs at h ⊢
    by_cases hlt : n < 128
    · simp [hlt] at h
    · simp only [hlt, if_false] at h ⊢
      have := digs_at f (n / 128) i (by rw [Nat.pow_succ] at hn; exact Nat.div_lt_of_lt_mul (by omega)) (by simpa using h)
      simpa using this
def marks : List Int → List Int
  | [] => []
  | [c] => [c]
  | c :: d :: r => (c + 128) :: marks (d :: r)
theorem marks_digs : ∀ (f n : Nat), n < 128 ^ f → marks (digs f n) = vput f n
  | 0, n, h => by simp [digs, marks, vput]
  | f + 1, n, h => by
    unfold digs vput
    by_cases hlt : n < 128
    · simp [hlt, marks]
      omega
    · simp only [hlt, if_false]
      cases f with
      | zero => simp at h; omega
      | succ f =>
        have ih := marks_digs (f + 1) (n / 128) (by rw [Nat.pow_succ] at h; exact Nat.div_lt_of_lt_mul (by omega))
        rw [show digs (f + 1) (n / 128) = ((n / 128 % 128 : Nat) : Int) :: if n / 128 < 128 then [] else digs f (n / 128 / 128) from rfl] at ih ⊢
        rw [marks, ih]
        simp
theorem put_l0 (l : List Int) (hl : l.length ≤ 10) (hd : ∀ i, i < l.length → 0 ≤ l.getD i 0 ∧ l.getD i 0 < 128) : ∀ (d i : Nat) (out : ByteArray), i + d = l.length → out.size ≤ i → ∀ k, d + 1 ≤ k →
    pleachref01_Put.l0 k l out (i : Int) = some (out ++ strOfNums (marks (l.drop i)))
  | 0, i, out, h, ho, k, hk => by
    obtain ⟨k, rfl⟩ : ∃ m, k = m + 1 := ⟨k - 1, by omega⟩
    rw [pleachref01_Put.l0, if_neg (by omega), List.drop_eq_nil_of_le (by omega)]
    simp [marks, strOfNums]
    apply ByteArray.ext
    simp
  | d + 1, i, out, h, ho, k, hk => by
    obtain ⟨k, rfl⟩ : ∃ m, k = m + 1 := ⟨k - 1, by omega⟩
    have hil : i < l.length := by omega
    have hb := hd i hil
    have hr : rd l (i : Int) = l.getD i 0 := by simp [rd]
    have hg : l.getD i 0 = l[i] := by simp [List.getD_eq_getElem?_getD, List.getElem?_eq_getElem hil]
    have hdr : l.drop i = l[i] :: l.drop (i + 1) := List.drop_eq_getElem_cons hil
    rw [pleachref01_Put.l0, if_pos (by omega), if_pos (by omega), w64 (by omega) (by omega), hr]
    by_cases hlast : (i : Int) + 1 < (l.length : Int)
    · rw [if_pos hlast, w64 (by omega) (by omega)]
      simp only [Option.bind_some]
      rw [if_pos (by rw [strOfNums_size]; simp; omega)]
      rw [show ((i : Int) + 1) = ((i + 1 : Nat) : Int) by omega, put_l0 l hl hd d (i + 1) _ (by omega) (by rw [ByteArray.size_append, strOfNums_size]; simp; omega) k (by omega)]
      rw [hdr, List.drop_eq_getElem_cons (show i + 1 < l.length by omega), marks, ← List.drop_eq_getElem_cons (show i + 1 < l.length by omega)]
      rw [ByteArray.append_assoc, ← strOfNums_append]
      have : (l.getD i 0 + 128) % 256 = l[i] + 128 := by rw [hg] at hb ⊢; omega
      rw [this]
      rfl
    · rw [if_neg hlast]
      simp only [Option.bind_some]
      rw [if_pos (by rw [strOfNums_size]; simp; omega)]
      rw [show ((i : Int) + 1) = ((i + 1 : Nat) : Int) by omega, put_l0 l hl hd d (i + 1) _ (by omega) (by rw [ByteArray.size_append, strOfNums_size]; simp; omega) k (by omega)]
      have hnil : l.drop (i + 1) = [] := List.drop_eq_nil_of_le (by omega)
      rw [hdr, hnil, marks]
      have : (l.getD i 0) % 256 = l[i] := by rw [hg] at hb ⊢; omega
      rw [this, ByteArray.append_assoc, ← strOfNums_append]
      rfl
theorem refPut_ev (n : Nat) (h64 : n < 18446744073709551616) (k : Nat) (hk : 12 ≤ k) : pleachref01_Put.f k (n : Int) = some (numB n) := by
  unfold pleachref01_Put.f
  rw [digits_ev n h64 k hk]
  simp only [Option.bind_some]
  have hn : n < 128 ^ 10 := by omega
  have := put_l0 (digs 10 n) (digs_len 10 n) (fun i hi => digs_at 10 n i hn hi) (digs 10 n).length 0 ⟨#[]⟩ (by omega) (by simp [ByteArray.size]) k (by have := digs_len 10 n; omega)
  rw [show (0 : Int) = ((0 : Nat) : Int) from rfl, this, List.drop_zero, marks_digs 10 n hn]
  congr 1
theorem xor_zero (x : Int) (h0 : 0 ≤ x) (h1 : x < 18446744073709551616) : Go.bits .xor .u64 x 0 = x := by
  obtain ⟨n, rfl⟩ := Int.eq_ofNat_of_zero_le h0
  have hn : n < 2 ^ 64 := by omega
  have e : Go.bits .xor .u64 (n : Int) 0 = IntKind.u64.wrap ((BitVec.ofNat 64 n ^^^ 0#64).toNat : Int) := rfl
  have e2 : (BitVec.ofNat 64 n ^^^ 0#64).toNat = n := by rw [BitVec.xor_zero, BitVec.toNat_ofNat, Nat.mod_eq_of_lt hn]
  rw [e, e2, wu64 (by omega) (by omega)]
theorem xor_ones (x : Int) (h0 : 0 ≤ x) (h1 : x < 18446744073709551616) : Go.bits .xor .u64 x 18446744073709551615 = 18446744073709551615 - x := by
  obtain ⟨n, rfl⟩ := Int.eq_ofNat_of_zero_le h0
  have hn : n < 2 ^ 64 := by omega
  have e : Go.bits .xor .u64 (n : Int) 18446744073709551615 = IntKind.u64.wrap ((BitVec.ofNat 64 n ^^^ BitVec.allOnes 64).toNat : Int) := by
    simp [Go.bits, IntKind.bits]
    rfl
  rw [e, BitVec.xor_allOnes, BitVec.toNat_not, BitVec.toNat_ofNat, Nat.mod_eq_of_lt hn, wu64 (by omega) (by omega)]
  omega
def zig (a : Int) : Int := if 0 ≤ a then 2 * a else -2 * a - 1
theorem zig_bound {a : Int} (h0 : -9223372036854775808 ≤ a) (h1 : a ≤ 9223372036854775807) : 0 ≤ zig a ∧ zig a < 18446744073709551616 := by unfold zig; split <;> omega
theorem zig_eq {a : Int} (h0 : -9223372036854775808 ≤ a) (h1 : a ≤ 9223372036854775807) : varint_Zig.f a = some (zig a) := by
  unfold varint_Zig.f zig
  congr 1
  by_cases h : 0 ≤ a
  · rw [if_pos h, wu64 (x := a) (by omega) (by omega), wu64 (x := a * 2) (by omega) (by omega), show a / 9223372036854775808 = 0 by omega, wu64 (x := 0) (by omega) (by omega), xor_zero _ (by omega) (by omega)]
    omega
  · rw [if_neg h, show a / 9223372036854775808 = -1 by omega]
    have e1 : IntKind.u64.wrap a = a + 18446744073709551616 := by rw [wu64_mod]; omega
    have e2 : IntKind.u64.wrap (-1) = 18446744073709551615 := by rw [wu64_mod]; rfl
    have e3 : IntKind.u64.wrap ((a + 18446744073709551616) * 2) = 2 * a + 18446744073709551616 := by rw [wu64_mod]; omega
    rw [e1, e2, e3, xor_ones _ (by omega) (by omega)]
    omega
theorem refZig_eq {a : Int} (h0 : -9223372036854775808 ≤ a) (h1 : a ≤ 9223372036854775807) : pleachref01_Zig.f a = some (zig a) := by
  unfold pleachref01_Zig.f zig
  by_cases h : a ≥ 0
  · rw [if_pos h, if_pos (by omega), wu64 (x := a) (by omega) (by omega), wu64 (by omega) (by omega)]
    congr 1
    omega
  · rw [if_neg h, if_neg (by omega), w64 (x := a + 1) (by omega) (by omega), w64 (by omega) (by omega), wu64 (x := -(a + 1)) (by omega) (by omega), wu64 (x := -(a + 1) * 2) (by omega) (by omega), wu64 (by omega) (by omega)]
    congr 1
    omega
end Go.Proofs.Ytmnadajjgnniaaa.Q
end
section
namespace Go.Proofs.Ytmnadajjgnniaaa.Q
open Go.RowKit Go.Proofs.YtmnadajjgnniaaaW.PrintWords Go.Proofs.Ytmnadajjgnniaaa.MA

def dg : List Int → Nat
  | [] => 0
  | c :: r => (c % 128).toNat + 128 * dg r
def contB : List Int → Bool
  | [] => false
  | [c] => decide (c < 128)
  | c :: d :: r => decide (128 ≤ c) && contB (d :: r)
def lastOk : List Int → Bool
  | [] => false
  | [_] => true
  | _ :: d :: r => decide (0 < r.getLastD d)
def isBytes (l : List Int) : Prop := ∀ x ∈ l, 0 ≤ x ∧ x < 256
theorem vput_bytes : ∀ f n, isBytes (vput f n)
  | 0, n => by intro x hx; simp [vput] at hx
  | f + 1, n => by
    unfold vput
    split
    · intro x hx; simp at hx; omega
    · intro x hx
      simp at hx
      rcases hx with rfl | hx
      · omega
      · exact vput_bytes f (n / 128) x hx
theorem contB_vput : ∀ f n, n < 128 ^ (f + 1) → contB (vput (f + 1) n) = true
  | 0, n, h => by
    have : n < 128 := by simpa using h
    simp [vput, this, contB]
    omega
  | f + 1, n, h => by
    unfold vput
    split
    · simp [contB]; omega
    · have ih := contB_vput f (n / 128) (by rw [Nat.pow_succ] at h; exact Nat.div_lt_of_lt_mul (by omega))
      have hp := vput_pos f (n / 128)
      cases hv : vput (f + 1) (n / 128) with
      | nil => rw [hv] at hp; simp at hp
      | cons d r =>
        rw [hv] at ih
        simp [contB, ih]
        omega
theorem dg_vput : ∀ f n, n < 128 ^ f → dg (vput f n) = n
  | 0, n, h => by simp at h; simp [vput, dg, h]
  | f + 1, n, h => by
    unfold vput
    split
    · simp [dg]; omega
    · have ih := dg_vput f (n / 128) (by rw [Nat.pow_succ] at h; exact Nat.div_lt_of_lt_mul (by omega))
      simp only [dg, ih]
      omega
theorem vput_last : ∀ f n, n < 128 ^ (f + 1) → lastOk (vput (f + 1) n) = true
  | 0, n, h => by
    have : n < 128 := by simpa using h
    simp [vput, this, lastOk]
  | f + 1, n, h => by
    unfold vput
    split
    · simp [lastOk]
    · have hn : n / 128 < 128 ^ (f + 1) := by rw [Nat.pow_succ] at h; exact Nat.div_lt_of_lt_mul (by omega)
      have ih := vput_last f (n / 128) hn
      have hp := vput_pos f (n / 128)
      have hd := dg_vput (f + 1) (n / 128) hn
      have hc := contB_vput f (n / 128) hn
      cases hv : vput (f + 1) (n / 128) with
      | nil => rw [hv] at hp; simp at hp
      | cons d r =>
        rw [hv] at ih hd hc
        cases r with
        | nil =>
          have hb := vput_bytes (f + 1) (n / 128) d (by rw [hv]; simp)
          simp [lastOk]
          simp [dg] at hd
          simp [contB] at hc
          omega
        | cons e r =>
          simp only [lastOk, List.getLastD_cons] at ih ⊢
          exact ih
theorem vput_dg : ∀ (l : List Int) (f : Nat), l.length ≤ f → isBytes l → contB l = true → lastOk l = true → vput f (dg l) = l
  | [], f, _, _, h, _ => by simp [contB] at h
  | [c], f, hf, hb, hc, _ => by
    obtain ⟨f, rfl⟩ : ∃ m, f = m + 1 := ⟨f - 1, by simp at hf; omega⟩
    have := hb c (by simp)
    simp [contB] at hc
    have h1 : (c % 128).toNat = c.toNat := by omega
    have h2 : c.toNat < 128 := by omega
    simp [dg, vput, h1, h2]
    omega
  | c :: d :: r, f, hf, hb, hc, hl => by
    obtain ⟨f, rfl⟩ : ∃ m, f = m + 1 := ⟨f - 1, by simp at hf; omega⟩
    have hbc := hb c (by simp)
    simp [contB] at hc
    have hpos : 0 < dg (d :: r) ∧ lastOk (d :: r) = true := by
      simp only [lastOk, decide_eq_true_eq] at hl
      constructor
      · have : ∀ (q : List Int) (x : Int), isBytes (x :: q) → contB (x :: q) = true → 0 < q.getLastD x → 0 < dg (x :: q) := by
          intro q
          induction q with
          | nil =>
            intro x hb hc hp
            simp [contB] at hc
            simp at hp
            simp [dg]
            omega
          | cons y q ih =>
            intro x hb hc hp
            simp [contB] at hc
            rw [List.getLastD_cons] at hp
            have := ih y (fun z hz => hb z (by simp at hz ⊢; right; exact hz)) hc.2 hp
            have hdg : dg (x :: y :: q) = (x % 128).toNat + 128 * dg (y :: q) := rfl
            omega
        exact this r d (fun z hz => hb z (by simp at hz ⊢; right; exact hz)) hc.2 hl
      · cases r with
        | nil => rfl
        | cons e r =>
          rw [List.getLastD_cons] at hl
          simp only [lastOk, decide_eq_true_eq]
          exact hl
    have ih := vput_dg (d :: r) f (by simp at hf ⊢; omega) (fun z hz => hb z (by simp at hz ⊢; right; exact hz)) hc.2 hpos.2
    have hdg : dg (c :: d :: r) = (c % 128).toNat + 128 * dg (d :: r) := rfl
    have hge : ¬ dg (c :: d :: r) < 128 := by omega
    rw [vput, if_neg hge]
    have h3 : dg (c :: d :: r) / 128 = dg (d :: r) := by omega
    rw [h3, ih]
    congr 1
    omega
theorem dg_bound : ∀ (l : List Int), isBytes l → dg l < 128 ^ l.length
  | [], _ => by simp [dg]
  | c :: r, hb => by
    have ih := dg_bound r (fun z hz => hb z (by simp [hz]))
    have := hb c (by simp)
    simp only [dg, List.length_cons, Nat.pow_succ]
    omega
theorem strOfNums_inj : ∀ (a b : List Int), isBytes a → isBytes b → strOfNums a = strOfNums b → a = b := by
  intro a b ha hb h
  have h1 : (a.map fun n => UInt8.ofNat n.toNat) = (b.map fun n => UInt8.ofNat n.toNat) := by
    have : (strOfNums a).data.toList = (strOfNums b).data.toList := by rw [h]
    simpa [strOfNums] using this
  have h2 : ∀ (a b : List Int), isBytes a → isBytes b → (a.map fun n => UInt8.ofNat n.toNat) = (b.map fun n => UInt8.ofNat n.toNat) → a = b := by
    intro a
    induction a with
    | nil => intro b _ _ h; cases b with | nil => rfl | cons y b => simp at h
    | cons x a ih =>
      intro b ha hb h
      cases b with
      | nil => simp at h
      | cons y b =>
        simp only [List.map_cons, List.cons.injEq] at h
        have hx := ha x (by simp)
        have hy := hb y (by simp)
        have e := congrArg UInt8.toNat h.1
        simp [UInt8.toNat_ofNat'] at e
        rw [ih b (fun z hz => ha z (by simp [hz])) (fun z hz => hb z (by simp [hz])) h.2]
        congr 1
        omega
  exact h2 a b ha hb h1
def bl (s : ByteArray) : Nat → Nat → List Int
  | 0, _ => []
  | d + 1, i => bt s (i : Int) :: bl s d (i + 1)
theorem bl_len (s : ByteArray) : ∀ d i, (bl s d i).length = d
  | 0, _ => rfl
  | d + 1, i => by simp [bl, bl_len s d (i + 1)]
theorem bl_bytes (s : ByteArray) : ∀ d i, isBytes (bl s d i)
  | 0, _ => by intro x hx; simp [bl] at hx
  | d + 1, i => by
    intro x hx
    simp [bl] at hx
    rcases hx with rfl | hx
    · have := bt_range s (i : Int); omega
    · exact bl_bytes s d (i + 1) x hx
theorem bl_snoc (s : ByteArray) : ∀ d i, bl s (d + 1) i = bl s d i ++ [bt s ((i + d : Nat) : Int)]
  | 0, i => by simp [bl]
  | d + 1, i => by
    have := bl_snoc s d (i + 1)
    rw [bl, this, bl]
    simp
    congr 1
    omega
theorem bt_of (s : ByteArray) (i : Nat) (h : i < s.size) : UInt8.ofNat (bt s (i : Int)).toNat = s.data.toList[i]'(by rw [Array.length_toList]; exact h) := by
  unfold bt
  simp [h]
  rfl
theorem strOfNums_bl (s : ByteArray) : ∀ d, d ≤ s.size → strOfNums (bl s d 0) = s.extract 0 d
  | 0, _ => by
    apply ByteArray.ext
    simp [bl, strOfNums]
  | d + 1, h => by
    have ih := strOfNums_bl s d (by omega)
    rw [bl_snoc, strOfNums_append, ih, Nat.zero_add]
    apply ByteArray.ext
    apply Array.ext'
    have hl : s.data.toList.length = s.size := by rw [Array.length_toList]; rfl
    simp only [strOfNums, ByteArray.data_append, ByteArray.data_extract, Array.toList_append, Array.toList_extract, List.map_cons, List.map_nil, List.extract_eq_take_drop, List.drop_zero, Nat.sub_zero]
    rw [List.take_succ_eq_append_getElem (by omega), bt_of s d (by omega)]
theorem dg_snoc : ∀ (l : List Int) (c : Int), dg (l ++ [c]) = dg l + 128 ^ l.length * (c % 128).toNat
  | [], c => by simp [dg]
  | d :: l, c => by
    simp only [List.cons_append, dg, dg_snoc l c, List.length_cons, Nat.pow_succ, Nat.mul_add]
    have : 128 * (128 ^ l.length * (c % 128).toNat) = 128 ^ l.length * 128 * (c % 128).toNat := by
      rw [← Nat.mul_assoc, Nat.mul_comm 128]
    omega
theorem contB_bl (s : ByteArray) (e : Nat) (h1 : ∀ j, j < e → 128 ≤ bt s (j : Int)) (h2 : bt s (e : Int) < 128) : ∀ d i, i + d = e → contB (bl s (d + 1) i) = true
  | 0, i, h => by
    obtain rfl : i = e := by omega
    simp [bl, contB, h2]
  | d + 1, i, h => by
    have ih := contB_bl s e h1 h2 d (i + 1) (by omega)
    have e1 : bl s (d + 1 + 1) i = bt s (i : Int) :: bt s ((i + 1 : Nat) : Int) :: bl s d (i + 1 + 1) := rfl
    have e2 : bl s (d + 1) (i + 1) = bt s ((i + 1 : Nat) : Int) :: bl s d (i + 1 + 1) := rfl
    rw [e2] at ih
    rw [e1]
    simp [contB, h1 i (by omega)]
    simpa using ih
theorem getLastD_bl (s : ByteArray) : ∀ d i (a : Int), (bl s d i).getLastD a = if d = 0 then a else bt s ((i + d - 1 : Nat) : Int)
  | 0, i, a => by simp [bl]
  | d + 1, i, a => by
    rw [bl_snoc, List.getLastD_concat, if_neg (by omega)]
    congr 1
theorem lastOk_bl (s : ByteArray) (e : Nat) : lastOk (bl s (e + 1) 0) = (decide (e = 0) || decide (0 < bt s (e : Int))) := by
  cases e with
  | zero => simp [bl, lastOk]
  | succ e =>
    have e1 : bl s (e + 1 + 1) 0 = bt s ((0 : Nat) : Int) :: bt s ((1 : Nat) : Int) :: bl s e 2 := rfl
    rw [e1]
    simp only [lastOk, getLastD_bl]
    cases e with
    | zero => simp
    | succ e =>
      have : 2 + (e + 1) - 1 = e + 1 + 1 := by omega
      simp [this]
def endAt (s : ByteArray) : Nat → Nat → Option Nat
  | 0, _ => none
  | d + 1, i => if 128 ≤ bt s (i : Int) then endAt s d (i + 1) else some i
theorem endAt_some (s : ByteArray) : ∀ d i e, endAt s d i = some e → i ≤ e ∧ e < i + d ∧ bt s (e : Int) < 128 ∧ ∀ j, i ≤ j → j < e → 128 ≤ bt s (j : Int)
  | 0, i, e, h => by simp [endAt] at h
  | d + 1, i, e, h => by
    unfold endAt at h
    split at h
    · rename_i hb
      obtain ⟨h1, h2, h3, h4⟩ := endAt_some s d (i + 1) e h
      refine ⟨by omega, by omega, h3, fun j hj1 hj2 => ?_⟩
      by_cases hij : j = i
      · rw [hij]; exact hb
      · exact h4 j (by omega) hj2
    · injection h with h
      subst h
      exact ⟨by omega, by omega, by omega, fun j h1 h2 => by omega⟩
theorem endAt_none (s : ByteArray) : ∀ d i, endAt s d i = none → ∀ j, i ≤ j → j < i + d → 128 ≤ bt s (j : Int)
  | 0, i, _, j, h1, h2 => by omega
  | d + 1, i, h, j, h1, h2 => by
    unfold endAt at h
    split at h
    · rename_i hb
      by_cases hij : j = i
      · rw [hij]; exact hb
      · exact endAt_none s d (i + 1) h j (by omega) (by omega)
    · cases h
def getB (s : ByteArray) : Int × Int × Bool :=
  match endAt s s.size 0 with
  | none => (0, 0, false)
  | some e => if e ≤ 9 ∧ (e = 9 → bt s (e : Int) ≤ 1) ∧ (e = 0 ∨ 0 < bt s (e : Int)) then ((dg (bl s (e + 1) 0) : Int), (e : Int) + 1, true) else (0, 0, false)
theorem wraps_u64 (n : Int) (h₀ : 0 ≤ n) (h₁ : n < 2 ^ 64) : IntKind.u64.wrap n = n := wu64 h₀ (by omega)
theorem or_add (a c m : Nat) (ha : a < 2 ^ m) (hm : m ≤ 63) (hs : a + c * 2 ^ m < 2 ^ 64) : Go.bits .or .u64 (a : Int) ((c * 2 ^ m : Nat) : Int) = ((a + c * 2 ^ m : Nat) : Int) := by
  have hc : c * 2 ^ m < 2 ^ 64 := by omega
  have ha' : a < 2 ^ 64 := Nat.lt_of_lt_of_le ha (Nat.pow_le_pow_right (by omega) (by omega))
  rw [(Go.bits_nat .u64 64 (by decide) wraps_u64 a (c * 2 ^ m) ha' hc).2]
  congr 1
  rw [Nat.or_comm, Nat.mul_comm c, ← Nat.two_pow_add_eq_or_of_lt ha, Nat.add_comm]
theorem and_127 (c : Int) (h0 : 0 ≤ c) (h1 : c < 256) : Go.bits .and .u64 c 127 = c % 128 := by
  have := Go.bits_mask .u64 64 (by decide) wraps_u64 7 (by omega) c h0 (by omega)
  simpa using this
theorem shl_u64 (x m : Nat) (hm : m ≤ 63) (hs : x * 2 ^ m < 2 ^ 64) : shl .u64 (x : Int) (m : Int) = ((x * 2 ^ m : Nat) : Int) := by
  unfold shl
  have e : min ((m : Int).toNat) (IntKind.bits .u64) = m := by simp [IntKind.bits]; omega
  rw [e]
  have e2 : (x : Int) * 2 ^ m = ((x * 2 ^ m : Nat) : Int) := by simp
  rw [e2]
  exact wu64 (by omega) (by omega)
theorem endAt_is (s : ByteArray) (i : Nat) (hi : i < s.size) (hm : ∀ j, j < i → 128 ≤ bt s (j : Int)) (hc : bt s (i : Int) < 128) : endAt s s.size 0 = some i := by
  cases h : endAt s s.size 0 with
  | none => have := endAt_none s s.size 0 h i (by omega) (by omega); omega
  | some e =>
    obtain ⟨_, h2, h3, h4⟩ := endAt_some s s.size 0 e h
    rcases Nat.lt_trichotomy e i with h5 | h5 | h5
    · have := hm e h5; omega
    · rw [h5]
    · have := h4 i (by omega) h5; omega
theorem endAt_far (s : ByteArray) (i : Nat) (hm : ∀ j, j < i → 128 ≤ bt s (j : Int)) (e : Nat) (h : endAt s s.size 0 = some e) : i ≤ e := by
  obtain ⟨_, h2, h3, h4⟩ := endAt_some s s.size 0 e h
  rcases Nat.lt_or_ge e i with h5 | h5
  · have := hm e h5; omega
  · exact h5
theorem getB_far (s : ByteArray) (i : Nat) (hi : 10 ≤ i ∨ s.size ≤ i) (hm : ∀ j, j < i → 128 ≤ bt s (j : Int)) : getB s = (0, 0, false) := by
  unfold getB
  cases h : endAt s s.size 0 with
  | none => rfl
  | some e =>
    have h1 := endAt_far s i hm e h
    obtain ⟨_, h2, _, _⟩ := endAt_some s s.size 0 e h
    have : ¬ e ≤ 9 := by omega
    simp [this]
theorem getB_is (s : ByteArray) (i : Nat) (hi : i < s.size) (hm : ∀ j, j < i → 128 ≤ bt s (j : Int)) (hc : bt s (i : Int) < 128) :
    getB s = if i ≤ 9 ∧ (i = 9 → bt s (i : Int) ≤ 1) ∧ (i = 0 ∨ 0 < bt s (i : Int)) then ((dg (bl s (i + 1) 0) : Int), (i : Int) + 1, true) else (0, 0, false) := by
  unfold getB
  rw [endAt_is s i hi hm hc]
theorem get_or (s : ByteArray) (i : Nat) (h9 : i ≤ 9) (hc : i = 9 → bt s (i : Int) ≤ 1) :
    Go.bits .or .u64 ((dg (bl s i 0) : Nat) : Int) (shl .u64 (Go.bits .and .u64 (IntKind.u64.wrap (bt s (i : Int))) 127) (wrap64 (7 * (i : Int)))) = ((dg (bl s (i + 1) 0) : Nat) : Int) := by
  have hr := bt_range s (i : Int)
  have hp : 128 ^ i = 2 ^ (7 * i) := by rw [show (128 : Nat) = 2 ^ 7 from rfl, ← Nat.pow_mul]
  have hd := dg_bound (bl s i 0) (bl_bytes s i 0)
  rw [bl_len, hp] at hd
  obtain ⟨x, hx⟩ : ∃ x : Nat, bt s (i : Int) % 128 = x := ⟨(bt s (i : Int) % 128).toNat, by omega⟩
  have hx2 : x ≤ 127 := by omega
  have hb : dg (bl s i 0) + x * 2 ^ (7 * i) < 2 ^ 64 ∧ x * 2 ^ (7 * i) < 2 ^ 64 := by
    by_cases h : i = 9
    · subst h
      have := hc rfl
      have : x ≤ 1 := by omega
      have : x * 2 ^ (7 * 9) ≤ 1 * 2 ^ (7 * 9) := Nat.mul_le_mul_right _ this
      omega
    · have h1 : 2 ^ (7 * i) ≤ 2 ^ 56 := Nat.pow_le_pow_right (by omega) (by omega)
      have : x * 2 ^ (7 * i) ≤ 127 * 2 ^ 56 := Nat.mul_le_mul hx2 h1
      omega
  rw [wu64 hr.1 (by omega), and_127 _ hr.1 (by omega), hx, w64 (by omega) (by omega), show (7 * (i : Int)) = ((7 * i : Nat) : Int) by omega, shl_u64 x (7 * i) (by omega) hb.2, or_add _ x (7 * i) hd (by omega) hb.1]
  congr 1
  rw [bl_snoc, dg_snoc, bl_len, hp, Nat.zero_add, hx, Int.toNat_natCast, Nat.mul_comm]
theorem Get_l0 (s : ByteArray) (hs : s.size ≤ 140737488351232) : ∀ d i : Nat, i + d = min s.size 10 → (∀ j, j < i → 128 ≤ bt s (j : Int)) → ∀ k, 2 * d + 2 ≤ k →
    varint_Get.l0 k s ((dg (bl s i 0) : Nat) : Int) ((min s.size 10 : Nat) : Int) (i : Int) = some (getB s)
  | 0, i, h, hm, k, hk => by
    obtain ⟨k, rfl⟩ : ∃ m, k = m + 1 := ⟨k - 1, by omega⟩
    rw [varint_Get.l0, if_neg (by omega), getB_far s i (by omega) hm]
  | d + 1, i, h, hm, k, hk => by
    obtain ⟨k, rfl⟩ : ∃ m, k = m + 1 + 1 := ⟨k - 2, by omega⟩
    have hr := bt_range s (i : Int)
    have hi : i < s.size := by omega
    rw [varint_Get.l0, if_pos (by omega), if_pos (by omega), if_pos (by omega)]
    by_cases hbad : i = 9 ∧ 1 < bt s (i : Int)
    · have e1 : decide (IntKind.u64.wrap (bt s (i : Int)) > 1) = true := by rw [wu64 hr.1 (by omega)]; simpa using hbad.2
      rw [if_pos (by omega), e1, varint_Get.j1, if_pos rfl]
      by_cases hc : bt s (i : Int) < 128
      · rw [getB_is s i hi hm hc, if_neg (by rintro ⟨_, h1, _⟩; have := h1 hbad.1; omega)]
      · rw [getB_far s (i + 1) (by omega) (fun j hj => by by_cases hij : j = i; · rw [hij]; omega
                                                          · exact hm j (by omega))]
    · have hc9 : i = 9 → bt s (i : Int) ≤ 1 := fun h9 => by
        by_cases h1 : 1 < bt s (i : Int)
        · exact absurd ⟨h9, h1⟩ hbad
        · omega
      have e1 : (if ((i : Int)) = 9 then (varint_Get.j1 (k + 1) s ((dg (bl s i 0) : Nat) : Int) (i : Int) (IntKind.u64.wrap (bt s (i : Int))) ((min s.size 10 : Nat) : Int) (i : Int) (decide (IntKind.u64.wrap (bt s (i : Int)) > 1))) else (varint_Get.j1 (k + 1) s ((dg (bl s i 0) : Nat) : Int) (i : Int) (IntKind.u64.wrap (bt s (i : Int))) ((min s.size 10 : Nat) : Int) (i : Int) false)) = varint_Get.j1 (k + 1) s ((dg (bl s i 0) : Nat) : Int) (i : Int) (IntKind.u64.wrap (bt s (i : Int))) ((min s.size 10 : Nat) : Int) (i : Int) false := by
        split
        · have : decide (IntKind.u64.wrap (bt s (i : Int)) > 1) = false := by rw [wu64 hr.1 (by omega)]; simpa using hc9 (by omega)
          rw [this]
        · rfl
      rw [e1, varint_Get.j1, if_neg (by decide), get_or s i (by omega) hc9, w64 (x := 7 * (i : Int)) (by omega) (by omega), if_pos (by omega), wu64 hr.1 (by omega), w64 (x := (i : Int) + 1) (by omega) (by omega)]
      by_cases hc : bt s (i : Int) < 128
      · rw [if_neg (by omega), getB_is s i hi hm hc]
        by_cases h0 : bt s (i : Int) = 0
        · rw [if_pos h0]
          by_cases hi0 : i = 0
          · rw [if_neg (by omega), if_pos ⟨by omega, hc9, Or.inl hi0⟩]
          · rw [if_pos (by omega), if_neg (by rintro ⟨_, _, h3⟩; omega)]
        · rw [if_neg h0, if_pos ⟨by omega, hc9, Or.inr (by omega)⟩]
      · rw [if_pos (by omega), show ((i : Int) + 1) = ((i + 1 : Nat) : Int) by omega]
        exact Get_l0 s hs d (i + 1) (by omega) (fun j hj => by by_cases hij : j = i; · rw [hij]; omega
                                                               · exact hm j (by omega)) k (by omega)
theorem Get_ev (s : ByteArray) (hs : s.size ≤ 140737488351232) (k : Nat) (hk : 30 ≤ k) : varint_Get.f k s = some (getB s) := by
  unfold varint_Get.f
  have e : mn (s.size : Int) 10 = ((min s.size 10 : Nat) : Int) := by unfold mn; omega
  rw [e]
  have := Get_l0 s hs (min s.size 10) 0 (by omega) (fun j hj => by omega) k (by omega)
  simpa [bl, dg] using this
def mod64 (n : Nat) : Nat := n % 18446744073709551616
theorem mod64_eq (n : Nat) : mod64 n = n % 18446744073709551616 := rfl
theorem mod64_lt (n : Nat) : mod64 n < 18446744073709551616 := by rw [mod64_eq]; omega
theorem mod64_small {n : Nat} (h : n < 18446744073709551616) : mod64 n = n := by rw [mod64_eq]; omega
theorem numB_is (n : Nat) (hn : n < 128 ^ 10) (s : ByteArray) (e : Nat) (he : e < s.size) (h9 : e ≤ 9) (hm : ∀ j, j < e → 128 ≤ bt s (j : Int)) (hc : bt s (e : Int) < 128) (h64 : n = mod64 (dg (bl s (e + 1) 0))) :
    ((numB n).toList = (s.extract 0 (e + 1)).toList) ↔ ((e = 9 → bt s (e : Int) ≤ 1) ∧ (e = 0 ∨ 0 < bt s (e : Int))) := by
  have hcont := contB_bl s e hm hc e 0 (by omega)
  have hlast := lastOk_bl s e
  have hlen := bl_len s (e + 1) 0
  have hby := bl_bytes s (e + 1) 0
  have hx := strOfNums_bl s (e + 1) (by omega)
  have hsn : dg (bl s (e + 1) 0) = dg (bl s e 0) + 128 ^ e * (bt s (e : Int) % 128).toNat := by
    rw [bl_snoc, dg_snoc, bl_len, Nat.zero_add]
  have hd := dg_bound (bl s e 0) (bl_bytes s e 0)
  rw [bl_len] at hd
  have hr := bt_range s (e : Int)
  have hv : (bt s (e : Int) % 128).toNat = (bt s (e : Int)).toNat := by omega
  constructor
  · intro h
    have h1 := bytes_ext h
    unfold numB at h1
    rw [← hx] at h1
    have h2 := strOfNums_inj _ _ (vput_bytes 10 n) hby h1
    have h3 : dg (bl s (e + 1) 0) = n := by rw [← h2]; exact dg_vput 10 n hn
    have h4 : lastOk (bl s (e + 1) 0) = true := by rw [← h2]; exact vput_last 9 n hn
    rw [hlast] at h4
    refine ⟨fun h9' => ?_, by simpa using h4⟩
    subst h9'
    rw [h3, hv] at hsn
    have : n < 18446744073709551616 := by rw [h64]; exact mod64_lt _
    have h5 : (bt s ((9 : Nat) : Int)).toNat ≤ 1 := by
      rcases Nat.lt_or_ge 1 (bt s ((9 : Nat) : Int)).toNat with h6 | h6
      · have : 128 ^ 9 * 2 ≤ 128 ^ 9 * (bt s ((9 : Nat) : Int)).toNat := Nat.mul_le_mul_left _ h6
        omega
      · exact h6
    omega
  · rintro ⟨h1, h2⟩
    have h4 : lastOk (bl s (e + 1) 0) = true := by rw [hlast]; simpa using h2
    have h5 := vput_dg (bl s (e + 1) 0) 10 (by omega) hby hcont h4
    have h6 : dg (bl s (e + 1) 0) < 18446744073709551616 := by
      by_cases he9 : e = 9
      · subst he9
        have := h1 rfl
        have : (bt s ((9 : Nat) : Int)).toNat ≤ 1 := by omega
        have : 128 ^ 9 * (bt s ((9 : Nat) : Int)).toNat ≤ 128 ^ 9 * 1 := Nat.mul_le_mul_left _ this
        rw [hsn, hv]
        omega
      · have := dg_bound (bl s (e + 1) 0) hby
        rw [hlen] at this
        have h7 : 128 ^ (e + 1) ≤ 128 ^ 9 := Nat.pow_le_pow_right (by omega) (by omega)
        omega
    have h7 : n = dg (bl s (e + 1) 0) := by rw [h64, mod64_small h6]
    unfold numB
    rw [h7, h5, hx]
theorem ref_mod (s : ByteArray) (i m : Nat) : IntKind.u64.wrap ((IntKind.u64.wrap (((mod64 (dg (bl s m (i + 1))) : Nat) : Int) * 128)) + (Int.tmod (IntKind.u64.wrap (bt s (i : Int))) 128)) = ((mod64 (dg (bt s (i : Int) :: bl s m (i + 1))) : Nat) : Int) := by
  have hr := bt_range s (i : Int)
  rw [wu64 (x := bt s (i : Int)) hr.1 (by omega), Int.tmod_eq_emod_of_nonneg hr.1, wu64_mod, wu64_mod, mod64_eq, mod64_eq]
  have : dg (bt s (i : Int) :: bl s m (i + 1)) = (bt s (i : Int) % 128).toNat + 128 * dg (bl s m (i + 1)) := rfl
  rw [this]
  generalize dg (bl s m (i + 1)) = D
  generalize bt s (i : Int) = c at hr ⊢
  omega
theorem lim70 {n : Nat} (h : n < 18446744073709551616) : n < 128 ^ 10 := by omega
theorem refGet_end (s : ByteArray) (hs : s.size ≤ 140737488351232) (e : Nat) (he : e < s.size) (h9 : e ≤ 9) (hm : ∀ j, j < e → 128 ≤ bt s (j : Int)) (hc : bt s (e : Int) < 128) (N : Nat) (hlt : N < 18446744073709551616) (hN : N = mod64 (dg (bl s (e + 1) 0))) (k : Nat) (hk : 20 ≤ k) :
    ((pleachref01_Put.f k (N : Int)).bind fun t101 => (if 0 ≤ (wrap64 ((e : Int) + 1)) then (if (wrap64 ((e : Int) + 1)) ≤ (s.size : Int) then (if t101.toList = (s.extract 0 ((wrap64 ((e : Int) + 1)) : Int).toNat).toList then (some ((N : Int), wrap64 ((e : Int) + 1), true)) else (some (0, 0, false))) else (none)) else (none))) = some (getB s) := by
  rw [refPut_ev N hlt k (by omega), Option.bind_some]
  have e1 : ((e : Int) + 1).toNat = e + 1 := by omega
  rw [w64 (by omega) (by omega), if_pos (by omega), if_pos (by omega), e1, getB_is s e he hm hc]
  have key := numB_is N (lim70 hlt) s e he h9 hm hc hN
  by_cases hq : (e = 9 → bt s (e : Int) ≤ 1) ∧ (e = 0 ∨ 0 < bt s (e : Int))
  · rw [if_pos (key.2 hq), if_pos ⟨h9, hq.1, hq.2⟩]
    have h6 : dg (bl s (e + 1) 0) = N := by
      have h := key.2 hq
      have hx := strOfNums_bl s (e + 1) (by omega)
      have h1 := bytes_ext h
      unfold numB at h1
      rw [← hx] at h1
      have h2 := strOfNums_inj _ _ (vput_bytes 10 _) (bl_bytes s (e + 1) 0) h1
      have h3 := dg_vput 10 N (lim70 hlt)
      rw [h2] at h3
      exact h3
    rw [h6]
  · rw [if_neg (fun h => hq (key.1 h)), if_neg (fun h => hq ⟨h.2.1, h.2.2⟩)]
theorem refGet_l1 (s : ByteArray) (hs : s.size ≤ 140737488351232) (e : Nat) (he : e < s.size) (h9 : e ≤ 9) (hm : ∀ j, j < e → 128 ≤ bt s (j : Int)) (hc : bt s (e : Int) < 128) : ∀ (i : Nat), i ≤ e + 1 → ∀ k, i + 21 ≤ k →
    pleachref01_Get.l1 k s (e : Int) ((mod64 (dg (bl s (e + 1 - i) i)) : Nat) : Int) ((i : Int) - 1) = some (getB s) := by
  intro i
  induction i with
  | zero =>
    intro hi k hk
    obtain ⟨k, rfl⟩ : ∃ m, k = m + 1 := ⟨k - 1, by omega⟩
    rw [pleachref01_Get.l1, if_neg (by omega), Nat.sub_zero]
    exact refGet_end s hs e he h9 hm hc _ (mod64_lt _) rfl k (by omega)
  | succ i ih =>
    intro hi k hk
    obtain ⟨k, rfl⟩ : ∃ m, k = m + 1 := ⟨k - 1, by omega⟩
    have e0 : (((i + 1 : Nat) : Int) - 1) = (i : Int) := by omega
    have e2 : bl s (e + 1 - i) i = bt s (i : Int) :: bl s (e + 1 - (i + 1)) (i + 1) := by
      rw [show e + 1 - i = (e + 1 - (i + 1)) + 1 by omega, bl]
    have ih2 := ih (by omega) k (by omega)
    rw [e2] at ih2
    rw [e0, pleachref01_Get.l1, if_pos (by omega), if_pos (by omega), if_pos (by omega), ref_mod, w64 (by omega) (by omega)]
    exact ih2
theorem refGet_j1 (s : ByteArray) (hs : s.size ≤ 140737488351232) (i : Nat) (hi : i ≤ s.size) (hm : ∀ j, j < i → 128 ≤ bt s (j : Int)) (hc : i < s.size → bt s (i : Int) < 128) (k : Nat) (hk : 40 ≤ k) : pleachref01_Get.j1 k s (i : Int) = some (getB s) := by
  obtain ⟨k, rfl⟩ : ∃ m, k = m + 1 + 1 := ⟨k - 2, by omega⟩
  rw [pleachref01_Get.j1]
  by_cases h1 : i < s.size
  · rw [if_neg (by omega), pleachref01_Get.j2]
    by_cases h9 : i ≤ 9
    · rw [if_neg (by simp; omega)]
      have := refGet_l1 s hs i h1 h9 hm (hc h1) (i + 1) (by omega) k (by omega)
      rw [show i + 1 - (i + 1) = 0 by omega, show ((i + 1 : Nat) : Int) - 1 = (i : Int) by omega] at this
      exact this
    · rw [if_pos (by simp; omega), getB_far s i (by omega) hm]
  · rw [if_pos (by omega), pleachref01_Get.j2, if_pos rfl, getB_far s i (by omega) hm]
theorem refGet_l0 (s : ByteArray) (hs : s.size ≤ 140737488351232) : ∀ d i : Nat, i + d = s.size → (∀ j, j < i → 128 ≤ bt s (j : Int)) → ∀ k, d + 50 ≤ k → pleachref01_Get.l0 k s (i : Int) = some (getB s)
  | 0, i, h, hm, k, hk => by
    obtain ⟨k, rfl⟩ : ∃ m, k = m + 1 := ⟨k - 1, by omega⟩
    rw [pleachref01_Get.l0, if_neg (by omega)]
    exact refGet_j1 s hs i (by omega) hm (fun h => by omega) k (by omega)
  | d + 1, i, h, hm, k, hk => by
    obtain ⟨k, rfl⟩ : ∃ m, k = m + 1 := ⟨k - 1, by omega⟩
    rw [pleachref01_Get.l0, if_pos (by omega), if_pos (by omega)]
    by_cases hc : bt s (i : Int) ≥ 128
    · rw [if_pos hc, w64 (by omega) (by omega), show ((i : Int) + 1) = ((i + 1 : Nat) : Int) by omega]
      exact refGet_l0 s hs d (i + 1) (by omega) (fun j hj => by by_cases hij : j = i; · rw [hij]; omega
                                                                · exact hm j (by omega)) k (by omega)
    · rw [if_neg hc]
      exact refGet_j1 s hs i (by omega) hm (fun h => by omega) k (by omega)
theorem refGet_ev (s : ByteArray) (hs : s.size ≤ 140737488351232) (k : Nat) (hk : 1000000000000000 ≤ k) : pleachref01_Get.f k s = some (getB s) := by
  unfold pleachref01_Get.f
  exact refGet_l0 s hs s.size 0 (by omega) (fun j hj => by omega) k (by omega)
end Go.Proofs.Ytmnadajjgnniaaa.Q
end
section
namespace Go.Proofs.Ytmnadajjgnniaaa.Q
open Go.RowKit Go.Proofs.YtmnadajjgnniaaaW.PrintWords Go.Proofs.Ytmnadajjgnniaaa.MA

def okc (c : Int) : Bool := (decide (97 ≤ c) && decide (c ≤ 122)) || (decide (48 ≤ c) && decide (c ≤ 57)) || c == 45
theorem name_fits_eq (c : Int) : name_fits.f c = some (okc c) := by
  unfold name_fits.f okc
  repeat' split
  all_goals simp only [Option.some.injEq]
  all_goals first | (rw [eq_comm]; simp; omega) | (simp; omega) | (rw [Bool.eq_iff_iff]; simp; omega)
def okFrom (s : ByteArray) : Nat → Nat → Bool
  | 0, _ => true
  | d + 1, i => okc (bt s i) && okFrom s d (i + 1)
def nameB (s : ByteArray) : Bool := decide (1 ≤ s.size) && decide (s.size ≤ 12) && okFrom s s.size 0

theorem name_Check_l0 (s : ByteArray) (hs : s.size ≤ 140737488351232) : ∀ d i : Nat, i + d = s.size → ∀ k, d + 1 ≤ k → name_Check.l0 k s (s.size : Int) (i : Int) = some (if okFrom s d i then 0 else 2)
  | 0, i, h, k, hk => by
    obtain ⟨k, rfl⟩ : ∃ m, k = m + 1 := ⟨k - 1, by omega⟩
    rw [name_Check.l0, if_neg (by omega)]
    simp [okFrom]
  | d + 1, i, h, k, hk => by
    obtain ⟨k, rfl⟩ : ∃ m, k = m + 1 := ⟨k - 1, by omega⟩
    rw [name_Check.l0, if_pos (by omega), if_pos (by omega), if_pos (by omega), name_fits_eq]
    simp only [Option.bind_some]
    rw [w64 (by omega) (by omega)]
    have ih := name_Check_l0 s hs d (i + 1) (by omega) k (by omega)
    rw [show ((i : Int) + 1) = ((i + 1 : Nat) : Int) by omega, ih]
    cases hc : okc (bt s (i : Int)) <;> simp [okFrom, hc]
theorem name_Check_ev (s : ByteArray) (hs : s.size ≤ 140737488351232) (k : Nat) (hk : s.size + 2 ≤ k) : name_Check.f k s = some (if nameB s then 0 else 2) := by
  obtain ⟨k, rfl⟩ : ∃ m, k = m + 1 := ⟨k - 1, by omega⟩
  unfold name_Check.f
  by_cases h0 : s.toList = []
  · rw [if_pos h0, name_Check.j0, if_pos rfl]
    have := toList_nil.1 h0
    simp [nameB, this]
  · rw [if_neg h0, name_Check.j0]
    have h1 : s.size ≠ 0 := fun h => h0 (toList_nil.2 h)
    by_cases h2 : (s.size : Int) > 12
    · rw [if_pos (by simpa using h2)]
      have : ¬ s.size ≤ 12 := by omega
      simp [nameB, this]
    · rw [if_neg (by simpa using h2), show (0 : Int) = ((0 : Nat) : Int) from rfl, name_Check_l0 s hs s.size 0 (by omega) k (by omega)]
      have h3 : s.size ≤ 12 := by omega
      have h4 : 1 ≤ s.size := by omega
      simp [nameB, h3, h4]

theorem refIs_l0 (s : ByteArray) (hs : s.size ≤ 140737488351232) : ∀ d i : Nat, i + d = s.size → ∀ k, d + 1 ≤ k → pleachref05_Is.l0 k s (i : Int) = some (okFrom s d i && (decide (1 ≤ s.size) && decide (s.size ≤ 12)))
  | 0, i, h, k, hk => by
    obtain ⟨k, rfl⟩ : ∃ m, k = m + 1 := ⟨k - 1, by omega⟩
    rw [pleachref05_Is.l0, if_neg (by omega)]
    split
    · rename_i h1
      have : 1 ≤ s.size := by omega
      simp [okFrom, this]
      constructor <;> intro h <;> omega
    · rename_i h1
      have : ¬ 1 ≤ s.size := by omega
      simp [okFrom]
      omega
  | d + 1, i, h, k, hk => by
    obtain ⟨k, rfl⟩ : ∃ m, k = m + 1 := ⟨k - 1, by omega⟩
    rw [pleachref05_Is.l0, if_pos (by omega), if_pos (by omega)]
    rw [w64 (by omega) (by omega)]
    have ih := refIs_l0 s hs d (i + 1) (by omega) k (by omega)
    rw [show ((i : Int) + 1) = ((i + 1 : Nat) : Int) by omega, ih]
    simp only [okFrom, okc]
    generalize bt s (i : Int) = c
    generalize okFrom s d (i + 1) = b
    by_cases a1 : c ≥ 97 <;> by_cases a2 : c ≤ 122 <;> by_cases a3 : c ≥ 48 <;> by_cases a4 : c ≤ 57 <;> by_cases a5 : c = 45 <;> simp [a1, a2, a3, a4, a5] <;> omega
theorem refIs_ev (s : ByteArray) (hs : s.size ≤ 140737488351232) (k : Nat) (hk : s.size + 1 ≤ k) : pleachref05_Is.f k s = some (nameB s) := by
  unfold pleachref05_Is.f
  rw [show (0 : Int) = ((0 : Nat) : Int) from rfl, refIs_l0 s hs s.size 0 (by omega) k (by omega), nameB, Bool.and_comm]
end Go.Proofs.Ytmnadajjgnniaaa.Q
end
section
namespace Go.Proofs.Ytmnadajjgnniaaa.Q
open Go.RowKit Go.Proofs.YtmnadajjgnniaaaW.PrintWords Go.Proofs.Ytmnadajjgnniaaa.MA

def valueB (a b : Int) (s : ByteArray) : Bool := (a == 1 && (b == 0 || b == 1) && s.size == 0) || (a == 2 && s.size == 0) || (a == 3 && b == 0 && decide (s.size ≤ 64))
theorem nil_beq (s : ByteArray) : (s.toList == ([] : List UInt8)) = (s.size == 0) := by
  rw [Bool.eq_iff_iff]; simp [toList_nil]
theorem value_Check_eq (a b : Int) (s : ByteArray) : value_Check.f a b s = some (if valueB a b s then 0 else 2) := by
  unfold value_Check.f valueB
  simp only [toList_nil]
  by_cases a1 : a = 1
  · subst a1
    by_cases b0 : b = 0 <;> by_cases b1 : b = 1 <;> by_cases s0 : s.size = 0 <;> simp [b0, b1, s0]
  · by_cases a2 : a = 2
    · subst a2
      by_cases s0 : s.size = 0 <;> simp [s0]
    · by_cases a3 : a = 3
      · subst a3
        by_cases b0 : b = 0 <;> by_cases s0 : s.size ≤ 64 <;> simp [b0, s0] <;> omega
      · simp [a1, a2, a3]
theorem refVIs_eq (a b : Int) (s : ByteArray) : pleachref06_Is.f a b s = some (valueB a b s) := by
  unfold pleachref06_Is.f valueB
  simp only [nil_beq]
  by_cases a1 : a = 1
  · subst a1
    by_cases s0 : s.size = 0 <;> by_cases b0 : b ≥ 0 <;> by_cases b1 : b ≤ 1 <;> simp [b0, b1, s0] <;> omega
  · by_cases a2 : a = 2
    · subst a2
      by_cases s0 : s.size = 0 <;> simp [s0]
    · by_cases a3 : a = 3
      · subst a3
        by_cases b0 : b = 0 <;> by_cases s0 : s.size ≤ 64 <;> simp [b0, s0] <;> omega
      · simp [a1, a2, a3]
def textB (s : ByteArray) : ByteArray := numB s.size ++ s
theorem textB_size (s : ByteArray) : (textB s).size ≤ 10 + s.size := by
  unfold textB
  rw [ByteArray.size_append]
  have := numB_size s.size
  omega
theorem PutText_eq (s : ByteArray) (hs : s.size ≤ 140737488351232) : scan_PutText.f s = some (textB s) := by
  unfold scan_PutText.f
  rw [if_pos (by omega), varint_Put_eq (by omega) (by omega)]
  simp only [Option.bind_some]
  have := numB_size s.size
  rw [if_pos (by simp; omega)]
  simp [textB]
theorem refPutText_ev (s : ByteArray) (hs : s.size ≤ 140737488351232) (k : Nat) (hk : 12 ≤ k) : pleachref04_PutText.f k s = some (textB s) := by
  unfold pleachref04_PutText.f
  rw [if_pos (by omega), refPut_ev s.size (by omega) k hk]
  simp only [Option.bind_some]
  have := numB_size s.size
  rw [if_pos (by omega)]
  rfl
theorem PutNum_eq (n : Nat) (h : n ≤ 140737488351232) : scan_PutNum.f (n : Int) = some (numB n) := by
  unfold scan_PutNum.f
  have : mx (n : Int) 0 = n := by unfold mx; omega
  rw [this, wu64 (by omega) (by omega), varint_Put_eq (by omega) (by omega)]
  simp
theorem refPutNum_ev (n : Nat) (h : n ≤ 140737488351232) (k : Nat) (hk : 12 ≤ k) : pleachref04_PutNum.f k (n : Int) = some (numB n) := by
  unfold pleachref04_PutNum.f
  rw [if_neg (by omega), wu64 (by omega) (by omega), refPut_ev n (by omega) k hk]
  simp
def valB (a b : Int) (s : ByteArray) : ByteArray :=
  if valueB a b s = true then
    (if a = 1 then strOfNums [1, b] else if a = 2 then strOfNums [2] ++ numB (zig b).toNat else strOfNums [3] ++ textB s)
  else ⟨#[]⟩
theorem valB_size (a b : Int) (s : ByteArray) : (valB a b s).size ≤ 80 := by
  unfold valB
  split
  · rename_i hv
    split
    · simp [strOfNums_size]
    · split
      · rw [ByteArray.size_append, strOfNums_size]
        have := numB_size (zig b).toNat
        simp; omega
      · rename_i a1 a2
        rw [ByteArray.size_append, strOfNums_size]
        have := textB_size s
        have h64 : s.size ≤ 64 := by
          unfold valueB at hv
          simp [a1, a2] at hv
          exact hv.2
        simp; omega
  · simp [ByteArray.size]
theorem value_Put_eq (a b : Int) (s : ByteArray) (hb : -9223372036854775808 ≤ b ∧ b ≤ 9223372036854775807) : value_Put.f a b s = some (valB a b s, if valueB a b s then 0 else 2) := by
  unfold value_Put.f
  rw [value_Check_eq]
  simp only [Option.bind_some]
  unfold valB
  cases hv : valueB a b s with
  | false => simp
  | true =>
    simp only [if_true]
    unfold valueB at hv
    by_cases a1 : a = 1
    · subst a1
      simp at hv
      have hb2 : b % 256 = b := by omega
      simp only [if_true, hb2]
      rw [if_pos (by simp [strOfNums_size]), ← strOfNums_append]
      rfl
    · by_cases a2 : a = 2
      · subst a2
        have hz := zig_bound hb.1 hb.2
        rw [if_neg a1, if_pos rfl, if_neg a1, if_pos rfl]
        unfold scan_PutInt.f varint_Int.f
        rw [zig_eq hb.1 hb.2]
        simp only [Option.bind_some]
        rw [varint_Put_eq hz.1 hz.2]
        simp only [Option.bind_some]
        have := numB_size (zig b).toNat
        rw [if_pos (by rw [strOfNums_size]; simp; omega)]
        rfl
      · have a3 : a = 3 := by simp [a1, a2] at hv; exact hv.1.1
        have h64 : s.size ≤ 64 := by simp [a1, a2] at hv; exact hv.2
        subst a3
        rw [if_neg a1, if_neg a2, if_neg a1, if_neg a2, PutText_eq s (by omega)]
        simp only [Option.bind_some]
        have := textB_size s
        rw [if_pos (by rw [strOfNums_size]; simp; omega)]
        rfl
theorem refVPut_ev (a b : Int) (s : ByteArray) (hb : -9223372036854775808 ≤ b ∧ b ≤ 9223372036854775807) (k : Nat) (hk : 12 ≤ k) : pleachref06_Put.f k a b s = some (valB a b s) := by
  unfold pleachref06_Put.f
  rw [refVIs_eq]
  simp only [Option.bind_some]
  unfold valB
  cases hv : valueB a b s with
  | false => simp
  | true =>
    simp only [if_true]
    unfold valueB at hv
    by_cases a1 : a = 1
    · subst a1
      simp at hv
      have hb2 : b % 256 = b := by omega
      simp only [if_true, hb2]
    · by_cases a2 : a = 2
      · subst a2
        have hz := zig_bound hb.1 hb.2
        rw [if_neg a1, if_pos rfl, if_neg a1, if_pos rfl, refZig_eq hb.1 hb.2]
        simp only [Option.bind_some]
        obtain ⟨z, ez⟩ := Int.eq_ofNat_of_zero_le hz.1
        rw [ez, refPut_ev z (by omega) k hk]
        simp only [Option.bind_some]
        have := numB_size z
        rw [if_pos (by omega)]
        rfl
      · have a3 : a = 3 := by simp [a1, a2] at hv; exact hv.1.1
        have h64 : s.size ≤ 64 := by simp [a1, a2] at hv; exact hv.2
        subst a3
        rw [if_neg a1, if_neg a2, if_neg a1, if_neg a2, refPutText_ev s (by omega) k hk]
        simp only [Option.bind_some]
        have := textB_size s
        rw [if_pos (by omega)]
        rfl
end Go.Proofs.Ytmnadajjgnniaaa.Q
end
section
namespace Go.Proofs.Ytmnadajjgnniaaa.Q
open Go.RowKit Go.Proofs.YtmnadajjgnniaaaW.PrintWords Go.Proofs.Ytmnadajjgnniaaa.MA

def At (s : ByteArray) (a : Nat) (B : ByteArray) : Prop := a + B.size ≤ s.size ∧ s.extract a (a + B.size) = B
theorem dlen (s : ByteArray) : s.data.toList.length = s.size := by rw [Array.length_toList]; rfl
theorem extract_toList (s : ByteArray) (a b : Nat) : (s.extract a b).data.toList = (s.data.toList.drop a).take (b - a) := by
  rw [ByteArray.data_extract, Array.toList_extract, List.extract_eq_take_drop]
theorem at_iff (s : ByteArray) (a : Nat) (B : ByteArray) (h : a ≤ s.size) : At s a B ↔ B.data.toList <+: s.data.toList.drop a := by
  have hl := dlen s
  have hb := dlen B
  constructor
  · rintro ⟨h1, h2⟩
    have h3 := extract_toList s a (a + B.size)
    rw [h2] at h3
    rw [h3]
    exact List.take_prefix _ _
  · intro hp
    have hle := hp.length_le
    rw [List.length_drop, hl, hb] at hle
    refine ⟨by omega, ?_⟩
    apply ByteArray.ext
    apply Array.ext'
    rw [extract_toList]
    have := List.prefix_iff_eq_take.1 hp
    rw [hb] at this
    rw [show a + B.size - a = B.size by omega]
    exact this.symm
theorem at_append (s : ByteArray) (a : Nat) (X Y : ByteArray) : At s a (X ++ Y) ↔ At s a X ∧ At s (a + X.size) Y := by
  have hs := ByteArray.size_append (a := X) (b := Y)
  have hx := dlen X
  constructor
  · rintro ⟨h1, h2⟩
    have ha : a ≤ s.size := by omega
    have hp := (at_iff s a (X ++ Y) ha).1 ⟨h1, h2⟩
    rw [ByteArray.data_append, Array.toList_append] at hp
    refine ⟨(at_iff s a X ha).2 (List.IsPrefix.trans (List.prefix_append _ _) hp), (at_iff s _ Y (by omega)).2 ?_⟩
    obtain ⟨t, ht⟩ := hp
    refine ⟨t, ?_⟩
    rw [← List.drop_drop, ← ht, List.append_assoc, ← hx, List.drop_left]
  · rintro ⟨h1, h2⟩
    have ha : a ≤ s.size := by have := h1.1; omega
    have hp := (at_iff s a X ha).1 h1
    have hq := (at_iff s (a + X.size) Y (by have := h2.1; omega)).1 h2
    refine (at_iff s a (X ++ Y) ha).2 ?_
    rw [ByteArray.data_append, Array.toList_append]
    obtain ⟨t, ht⟩ := hp
    obtain ⟨u, hu⟩ := hq
    refine ⟨u, ?_⟩
    rw [← List.drop_drop, ← ht, ← hx, List.drop_left] at hu
    rw [List.append_assoc, hu, ht]
theorem at_nil (s : ByteArray) (a : Nat) (h : a ≤ s.size) : At s a ⟨#[]⟩ := (at_iff s a _ h).2 (List.nil_prefix)
theorem at_whole (s : ByteArray) : At s 0 s := ⟨by omega, by simp⟩
theorem at_all {s B : ByteArray} (h : At s 0 B) (hs : B.size = s.size) : B = s := by
  have := h.2
  rw [Nat.zero_add, hs] at this
  rw [← this]
  simp
theorem tail_extract (s : ByteArray) (a m : Nat) (h : a + m ≤ s.size) : (s.extract a s.size).extract 0 m = s.extract a (a + m) := by
  apply ByteArray.ext
  apply Array.ext'
  rw [extract_toList, extract_toList, extract_toList, List.drop_zero, List.take_take]
  congr 1
  omega
theorem tail_size (s : ByteArray) (a : Nat) : (s.extract a s.size).size = s.size - a := by rw [ByteArray.size_extract]; omega

theorem contB_bl_conv (s : ByteArray) : ∀ d i, contB (bl s (d + 1) i) = true → (∀ j, i ≤ j → j < i + d → 128 ≤ bt s (j : Int)) ∧ bt s ((i + d : Nat) : Int) < 128
  | 0, i, h => by
    simp [bl, contB] at h
    exact ⟨fun j h1 h2 => by omega, by simpa using h⟩
  | d + 1, i, h => by
    have e1 : bl s (d + 1 + 1) i = bt s (i : Int) :: bt s ((i + 1 : Nat) : Int) :: bl s d (i + 1 + 1) := rfl
    have e2 : bl s (d + 1) (i + 1) = bt s ((i + 1 : Nat) : Int) :: bl s d (i + 1 + 1) := rfl
    rw [e1] at h
    simp only [contB, Bool.and_eq_true, decide_eq_true_eq] at h
    rw [← e2] at h
    obtain ⟨h1, h2⟩ := contB_bl_conv s d (i + 1) h.2
    refine ⟨fun j hj1 hj2 => ?_, by rw [show i + (d + 1) = i + 1 + d by omega]; exact h2⟩
    by_cases hij : j = i
    · rw [hij]; exact h.1
    · exact h1 j (by omega) (by omega)
theorem dg_lt (s : ByteArray) (e : Nat) (h9 : e ≤ 9) (hc : bt s (e : Int) < 128) (h1 : e = 9 → bt s (e : Int) ≤ 1) : dg (bl s (e + 1) 0) < 18446744073709551616 := by
  have hby := bl_bytes s (e + 1) 0
  have hlen := bl_len s (e + 1) 0
  have hsn : dg (bl s (e + 1) 0) = dg (bl s e 0) + 128 ^ e * (bt s (e : Int) % 128).toNat := by rw [bl_snoc, dg_snoc, bl_len, Nat.zero_add]
  have hd := dg_bound (bl s e 0) (bl_bytes s e 0)
  rw [bl_len] at hd
  have hr := bt_range s (e : Int)
  have hv : (bt s (e : Int) % 128).toNat = (bt s (e : Int)).toNat := by omega
  by_cases he9 : e = 9
  · subst he9
    have := h1 rfl
    have : (bt s ((9 : Nat) : Int)).toNat ≤ 1 := by omega
    have : 128 ^ 9 * (bt s ((9 : Nat) : Int)).toNat ≤ 128 ^ 9 * 1 := Nat.mul_le_mul_left _ this
    rw [hsn, hv]
    omega
  · have := dg_bound (bl s (e + 1) 0) hby
    rw [hlen] at this
    have h7 : 128 ^ (e + 1) ≤ 128 ^ 9 := Nat.pow_le_pow_right (by omega) (by omega)
    omega
theorem getB_iff (x : ByteArray) (N m : Nat) (h64 : N < 18446744073709551616) : getB x = ((N : Int), (m : Int), true) ↔ (m = (numB N).size ∧ At x 0 (numB N)) := by
  constructor
  · intro h
    cases he : endAt x x.size 0 with
    | none => unfold getB at h; rw [he] at h; simp at h
    | some e =>
      obtain ⟨_, h2, h3, h4⟩ := endAt_some x x.size 0 e he
      rw [getB_is x e (by omega) (fun j hj => h4 j (by omega) hj) h3] at h
      by_cases hq : e ≤ 9 ∧ (e = 9 → bt x (e : Int) ≤ 1) ∧ (e = 0 ∨ 0 < bt x (e : Int))
      · rw [if_pos hq] at h
        simp only [Prod.mk.injEq] at h
        have hN : dg (bl x (e + 1) 0) = N := by omega
        have hm : m = e + 1 := by omega
        have key := (numB_is N (lim70 h64) x e (by omega) hq.1 (fun j hj => h4 j (by omega) hj) h3 (by rw [hN, mod64_small h64])).2 ⟨hq.2.1, hq.2.2⟩
        have hb := bytes_ext key
        have hz : (numB N).size = e + 1 := by rw [hb, ByteArray.size_extract]; omega
        exact ⟨by omega, by omega, by rw [hz, Nat.zero_add, ← hb]⟩
      · rw [if_neg hq] at h
        simp at h
  · rintro ⟨rfl, h1, h2⟩
    have hp : 0 < (vput 10 N).length := vput_pos 9 N
    have hz : (numB N).size = (vput 10 N).length := strOfNums_size _
    obtain ⟨e, he⟩ : ∃ e, (numB N).size = e + 1 := ⟨(numB N).size - 1, by omega⟩
    rw [Nat.zero_add] at h1 h2
    have hx := strOfNums_bl x (numB N).size h1
    rw [h2] at hx
    have hl := strOfNums_inj _ _ (bl_bytes x _ 0) (vput_bytes 10 N) hx
    have hc := contB_vput 9 N (lim70 h64)
    rw [← hl, he] at hc
    obtain ⟨g1, g2⟩ := contB_bl_conv x e 0 hc
    rw [Nat.zero_add] at g2
    have h10 := numB_size N
    have hdg : dg (bl x (e + 1) 0) = N := by rw [← he, hl]; exact dg_vput 10 N (lim70 h64)
    have key := (numB_is N (lim70 h64) x e (by omega) (by omega) (fun j hj => g1 j (by omega) (by omega)) g2 (by rw [hdg, mod64_small h64])).1 (by rw [← he, h2])
    rw [getB_is x e (by omega) (fun j hj => g1 j (by omega) (by omega)) g2, if_pos ⟨by omega, key.1, key.2⟩, hdg, he]
    rfl
theorem getB_form (x : ByteArray) : (∃ N m : Nat, N < 18446744073709551616 ∧ getB x = ((N : Int), (m : Int), true)) ∨ getB x = (0, 0, false) := by
  unfold getB
  cases he : endAt x x.size 0 with
  | none => exact .inr rfl
  | some e =>
    obtain ⟨_, h2, h3, h4⟩ := endAt_some x x.size 0 e he
    by_cases hq : e ≤ 9 ∧ (e = 9 → bt x (e : Int) ≤ 1) ∧ (e = 0 ∨ 0 < bt x (e : Int))
    · left
      exact ⟨dg (bl x (e + 1) 0), e + 1, dg_lt x e hq.1 h3 hq.2.1, by simp only [if_pos hq]; rfl⟩
    · right
      simp only [if_neg hq]
def uP (s : ByteArray) (a : Nat) : Option (Nat × Nat) := if (getB (s.extract a s.size)).2.2 = true then some ((getB (s.extract a s.size)).1.toNat, a + (getB (s.extract a s.size)).2.1.toNat) else none
theorem uP_iff (s : ByteArray) (a N b : Nat) (ha : a ≤ s.size) : uP s a = some (N, b) ↔ N < 18446744073709551616 ∧ b = a + (numB N).size ∧ At s a (numB N) := by
  have tr : ∀ B : ByteArray, At (s.extract a s.size) 0 B ↔ At s a B := by
    intro B
    unfold At
    rw [tail_size, Nat.zero_add]
    constructor
    · rintro ⟨h1, h2⟩; exact ⟨by omega, by rw [← tail_extract s a B.size (by omega)]; exact h2⟩
    · rintro ⟨h1, h2⟩; exact ⟨by omega, by rw [tail_extract s a B.size (by omega)]; exact h2⟩
  unfold uP
  rcases getB_form (s.extract a s.size) with ⟨M, m, hM, hg⟩ | hg
  · have := (getB_iff _ M m hM).1 hg
    rw [hg]
    simp only [if_true, Int.toNat_natCast, Option.some.injEq, Prod.mk.injEq]
    constructor
    · rintro ⟨rfl, rfl⟩
      exact ⟨hM, by rw [this.1], (tr _).1 this.2⟩
    · rintro ⟨h1, h2, h3⟩
      have g := (getB_iff (s.extract a s.size) N (numB N).size h1).2 ⟨rfl, (tr _).2 h3⟩
      rw [hg] at g
      simp only [Prod.mk.injEq] at g
      omega
  · rw [hg]
    simp only [Bool.false_eq_true, if_false]
    constructor
    · intro h; cases h
    · rintro ⟨h1, h2, h3⟩
      have g := (getB_iff (s.extract a s.size) N (numB N).size h1).2 ⟨rfl, (tr _).2 h3⟩
      rw [hg] at g
      simp at g
def numP (most : Nat) (s : ByteArray) (a : Nat) : Option (Nat × Nat) := (uP s a).bind fun x => if x.1 ≤ most then some x else none
theorem numP_iff (most : Nat) (hm : most < 18446744073709551616) (s : ByteArray) (a N b : Nat) (ha : a ≤ s.size) : numP most s a = some (N, b) ↔ N ≤ most ∧ b = a + (numB N).size ∧ At s a (numB N) := by
  unfold numP
  rw [Option.bind_eq_some_iff]
  constructor
  · rintro ⟨⟨M, c⟩, h1, h2⟩
    split at h2
    · rename_i h3
      simp only [Option.some.injEq, Prod.mk.injEq] at h2
      obtain ⟨rfl, rfl⟩ := h2
      exact ⟨h3, ((uP_iff s a M c ha).1 h1).2⟩
    · cases h2
  · rintro ⟨h1, h2, h3⟩
    exact ⟨(N, b), (uP_iff s a N b ha).2 ⟨by omega, h2, h3⟩, by rw [if_pos h1]⟩
def fixP (n : Nat) (s : ByteArray) (a : Nat) : Option (ByteArray × Nat) := if a + n ≤ s.size then some (s.extract a (a + n), a + n) else none
theorem fixP_iff (n : Nat) (s : ByteArray) (a : Nat) (t : ByteArray) (b : Nat) : fixP n s a = some (t, b) ↔ t.size = n ∧ b = a + n ∧ At s a t := by
  unfold fixP At
  constructor
  · intro h
    split at h
    · rename_i h1
      simp only [Option.some.injEq, Prod.mk.injEq] at h
      obtain ⟨rfl, rfl⟩ := h
      have : (s.extract a (a + n)).size = n := by rw [ByteArray.size_extract]; omega
      exact ⟨this, rfl, by omega, by rw [this]⟩
    · cases h
  · rintro ⟨rfl, rfl, h1, h2⟩
    rw [if_pos h1, h2]
def textP (most : Nat) (s : ByteArray) (a : Nat) : Option (ByteArray × Nat) := (numP most s a).bind fun x => fixP x.1 s x.2
theorem textP_iff (most : Nat) (hm : most < 18446744073709551616) (s : ByteArray) (a : Nat) (t : ByteArray) (b : Nat) (ha : a ≤ s.size) : textP most s a = some (t, b) ↔ t.size ≤ most ∧ b = a + (textB t).size ∧ At s a (textB t) := by
  unfold textP textB
  rw [Option.bind_eq_some_iff, at_append, ByteArray.size_append]
  constructor
  · rintro ⟨⟨N, c⟩, h1, h2⟩
    obtain ⟨g1, rfl, g3⟩ := (numP_iff most hm s a N c ha).1 h1
    obtain ⟨rfl, rfl, k3⟩ := (fixP_iff _ _ _ _ _).1 h2
    exact ⟨g1, by simp only; omega, g3, k3⟩
  · rintro ⟨h1, h2, h3, h4⟩
    exact ⟨(t.size, a + (numB t.size).size), (numP_iff most hm s a _ _ ha).2 ⟨h1, rfl, h3⟩, (fixP_iff _ _ _ _ _).2 ⟨rfl, by simp only; omega, h4⟩⟩
end Go.Proofs.Ytmnadajjgnniaaa.Q
end
section
namespace Go.Proofs.Ytmnadajjgnniaaa.Q
open Go.RowKit Go.Proofs.YtmnadajjgnniaaaW.PrintWords Go.Proofs.Ytmnadajjgnniaaa.MA

theorem uP_get (s : ByteArray) (a : Nat) (hs : s.size ≤ 140737488351232) : (∃ N m : Nat, N < 18446744073709551616 ∧ getB (s.extract a s.size) = ((N : Int), (m : Int), true) ∧ uP s a = some (N, a + m)) ∨ (getB (s.extract a s.size) = (0, 0, false) ∧ uP s a = none) := by
  unfold uP
  rcases getB_form (s.extract a s.size) with ⟨N, m, hN, hg⟩ | hg
  · left; exact ⟨N, m, hN, hg, by rw [hg]; simp⟩
  · right; exact ⟨hg, by rw [hg]; simp⟩
theorem uP_le (s : ByteArray) (a N b : Nat) (ha : a ≤ s.size) (h : uP s a = some (N, b)) : N < 18446744073709551616 ∧ b ≤ s.size := by
  obtain ⟨h1, h2, h3⟩ := (uP_iff s a N b ha).1 h
  have := h3.1
  exact ⟨h1, by omega⟩
theorem Num_err (k : Nat) (s : ByteArray) (p e : Int) (he : e ≠ 0) (most : Int) : scan_Scan_Num.f k s p e true most = some (0, s, p, e, true) := by
  unfold scan_Scan_Num.f scan_Scan_Err.f
  simp [he]
theorem Num_both (k : Nat) (hk : 30 ≤ k) (s : ByteArray) (hs : s.size ≤ 140737488351232) (a : Nat) (ha : a ≤ s.size) (most : Nat) (hm : most ≤ 100000) :
    (∃ n b, numP most s a = some (n, b) ∧ scan_Scan_Num.f k s (a : Int) 0 true (most : Int) = some ((n : Int), s, (b : Int), 0, true)) ∨
    (numP most s a = none ∧ ∃ e : Int, e ≠ 0 ∧ scan_Scan_Num.f k s (a : Int) 0 true (most : Int) = some (0, s, (a : Int), e, true)) := by
  have hx := extract_size s a s.size
  have E : scan_Scan_Err.f s (a : Int) 0 true = some (0, s, (a : Int), 0, true) := by unfold scan_Scan_Err.f; simp
  have F : ∀ e : Int, scan_Scan_fail.f s (a : Int) 0 true e = some (s, (a : Int), e, true) := by intro e; unfold scan_Scan_fail.f; rw [E]; simp
  unfold scan_Scan_Num.f
  rw [E, Option.bind_some]
  dsimp only
  rw [if_pos rfl, if_pos (show (0 : Int) ≤ (a : Int) by omega), if_pos (show (a : Int) ≤ (s.size : Int) by omega), Int.toNat_natCast, Get_ev _ (by omega) k hk, Option.bind_some]
  unfold numP
  rcases uP_get s a hs with ⟨N, m, hN, hg, hu⟩ | ⟨hg, hu⟩
  · have hb := (uP_le s a N (a + m) ha hu).2
    rw [hg, hu, Option.bind_some]
    dsimp only
    rw [if_pos rfl, if_neg (show ¬ (most : Int) < 0 by omega), wu64 (x := (most : Int)) (by omega) (by omega)]
    by_cases hle : N ≤ most
    · left
      refine ⟨N, a + m, by rw [if_pos hle], ?_⟩
      rw [if_neg (by omega), w64 (by omega) (by omega), w64 (by omega) (by omega)]
      rfl
    · right
      refine ⟨by rw [if_neg hle], 5, by omega, ?_⟩
      rw [if_pos (by omega), F, Option.bind_some]
  · right
    rw [hg, hu]
    dsimp only
    refine ⟨rfl, 3, by omega, ?_⟩
    rw [if_neg (by simp), F, Option.bind_some]
theorem take_err (s : ByteArray) (p e : Int) (he : e ≠ 0) (n : Int) : scan_Scan_take.f s p e true n = some (⟨#[]⟩, s, p, e, true) := by
  unfold scan_Scan_take.f scan_Scan_Err.f
  simp [he]
theorem take_both (s : ByteArray) (hs : s.size ≤ 140737488351232) (a : Nat) (ha : a ≤ s.size) (n : Nat) (hn : n ≤ 140737488351232) :
    (∃ t b, fixP n s a = some (t, b) ∧ scan_Scan_take.f s (a : Int) 0 true (n : Int) = some (t, s, (b : Int), 0, true)) ∨
    (fixP n s a = none ∧ scan_Scan_take.f s (a : Int) 0 true (n : Int) = some (⟨#[]⟩, s, (a : Int), 3, true)) := by
  have E : scan_Scan_Err.f s (a : Int) 0 true = some (0, s, (a : Int), 0, true) := by unfold scan_Scan_Err.f; simp
  unfold scan_Scan_take.f fixP
  rw [E, Option.bind_some]
  dsimp only
  rw [if_pos rfl, if_neg (show ¬ (n : Int) < 0 by omega), w64 (x := (s.size : Int) - (a : Int)) (by omega) (by omega), w64 (x := (a : Int) + (n : Int)) (by omega) (by omega)]
  by_cases hle : a + n ≤ s.size
  · left
    refine ⟨s.extract a (a + n), a + n, by rw [if_pos hle], ?_⟩
    rw [if_neg (by omega), if_pos (by omega), if_pos (by omega), if_pos (by omega)]
    have : ((a : Int) + (n : Int)).toNat = a + n := by omega
    simp [this]
  · right
    refine ⟨by rw [if_neg hle], ?_⟩
    rw [if_pos (by omega)]
theorem Text_err (k : Nat) (s : ByteArray) (p e : Int) (he : e ≠ 0) (most : Int) : scan_Scan_Text.f k s p e true most = some (⟨#[]⟩, s, p, e, true) := by
  unfold scan_Scan_Text.f
  rw [Num_err k s p e he, Option.bind_some]
  simp only
  rw [take_err s p e he, Option.bind_some]
theorem numP_le {most : Nat} {s : ByteArray} {a n b : Nat} (ha : a ≤ s.size) (h : numP most s a = some (n, b)) : n ≤ most ∧ b ≤ s.size := by
  unfold numP at h
  obtain ⟨⟨M, c⟩, h1, h2⟩ := Option.bind_eq_some_iff.1 h
  split at h2
  · rename_i h3
    simp only [Option.some.injEq, Prod.mk.injEq] at h2
    obtain ⟨rfl, rfl⟩ := h2
    exact ⟨h3, (uP_le s a _ _ ha h1).2⟩
  · cases h2
theorem fixP_le {n : Nat} {s : ByteArray} {a : Nat} {t : ByteArray} {b : Nat} (h : fixP n s a = some (t, b)) : b ≤ s.size ∧ t.size = n := by
  obtain ⟨h1, h2, h3⟩ := (fixP_iff n s a t b).1 h
  have := h3.1
  exact ⟨by omega, h1⟩
theorem Text_both (k : Nat) (hk : 30 ≤ k) (s : ByteArray) (hs : s.size ≤ 140737488351232) (a : Nat) (ha : a ≤ s.size) (most : Nat) (hm : most ≤ 100000) :
    (∃ t b, textP most s a = some (t, b) ∧ b ≤ s.size ∧ t.size ≤ most ∧ scan_Scan_Text.f k s (a : Int) 0 true (most : Int) = some (t, s, (b : Int), 0, true)) ∨
    (textP most s a = none ∧ ∃ p e : Int, e ≠ 0 ∧ scan_Scan_Text.f k s (a : Int) 0 true (most : Int) = some (⟨#[]⟩, s, p, e, true)) := by
  unfold scan_Scan_Text.f textP
  rcases Num_both k hk s hs a ha most hm with ⟨n, b, h1, h2⟩ | ⟨h1, e, he, h2⟩
  · obtain ⟨h3, h4⟩ := numP_le ha h1
    rw [h1, h2, Option.bind_some, Option.bind_some]
    simp only
    rcases take_both s hs b h4 n (by omega) with ⟨t, c, g1, g2⟩ | ⟨g1, g2⟩
    · left
      have := fixP_le g1
      exact ⟨t, c, g1, this.1, by omega, by rw [g2, Option.bind_some]⟩
    · right
      exact ⟨g1, (b : Int), 3, by omega, by rw [g2, Option.bind_some]⟩
  · right
    rw [h1, h2]
    refine ⟨rfl, (a : Int), e, he, ?_⟩
    rw [Option.bind_some]
    simp only
    rw [take_err s _ e he, Option.bind_some]
theorem Byte_err (s : ByteArray) (p e : Int) (he : e ≠ 0) : scan_Scan_Byte.f s p e true = some (0, s, p, e, true) := by
  unfold scan_Scan_Byte.f
  rw [take_err s p e he, Option.bind_some, if_pos (by simp only; rw [toList_nil]; rfl)]
theorem bt_extract (s : ByteArray) (a : Nat) (h : a < s.size) : bt (s.extract a (a + 1)) 0 = bt s (a : Int) := by
  have hz : (s.extract a (a + 1)).size = 1 := by rw [ByteArray.size_extract]; omega
  have h1 := bt_data (s.extract a (a + 1)) 0 (by omega)
  rw [bt_data s a h]
  rw [show ((0 : Nat) : Int) = 0 from rfl] at h1
  rw [h1]
  simp only [extract_toList]
  rw [List.getElem_take, List.getElem_drop]
  simp
theorem Byte_both (s : ByteArray) (hs : s.size ≤ 140737488351232) (a : Nat) (ha : a ≤ s.size) :
    (a < s.size ∧ scan_Scan_Byte.f s (a : Int) 0 true = some (bt s (a : Int), s, ((a + 1 : Nat) : Int), 0, true)) ∨
    (¬ a < s.size ∧ scan_Scan_Byte.f s (a : Int) 0 true = some (0, s, (a : Int), 3, true)) := by
  unfold scan_Scan_Byte.f
  rcases take_both s hs a ha 1 (by omega) with ⟨t, b, h1, h2⟩ | ⟨h1, h2⟩
  · left
    obtain ⟨g1, g2, g3⟩ := (fixP_iff 1 s a t b).1 h1
    have h3 := g3.1
    have h4 := g3.2
    rw [g1] at h3 h4
    have hr := bt_range s (a : Int)
    refine ⟨by omega, ?_⟩
    rw [show (1 : Int) = ((1 : Nat) : Int) from rfl, h2, Option.bind_some]
    simp only
    rw [if_neg (by rw [toList_nil]; omega), if_pos (by omega), ← h4, bt_extract s a (by omega), w64 (by omega) (by omega), g2]
  · right
    have : ¬ a + 1 ≤ s.size := by
      intro hle
      unfold fixP at h1
      rw [if_pos hle] at h1
      cases h1
    refine ⟨by omega, ?_⟩
    rw [show (1 : Int) = ((1 : Nat) : Int) from rfl, h2, Option.bind_some, if_pos (by simp only; rw [toList_nil]; rfl)]
def zag (n : Nat) : Int := if n % 2 = 0 then ((n / 2 : Nat) : Int) else -((n / 2 : Nat) : Int) - 1
theorem zag_range (n : Nat) (h : n < 18446744073709551616) : -9223372036854775808 ≤ zag n ∧ zag n ≤ 9223372036854775807 := by unfold zag; split <;> omega
theorem zig_zag (n : Nat) : zig (zag n) = n := by unfold zig zag; split <;> split <;> omega
theorem zag_zig (a : Int) : zag (zig a).toNat = a := by unfold zig zag; split <;> split <;> omega
theorem wi64 {x : Int} (h0 : -9223372036854775808 ≤ x) (h1 : x ≤ 9223372036854775807) : IntKind.i64.wrap x = x := by
  rw [Go.IntKind.wrap_i64]; omega
theorem xor_i0 (n : Nat) (h : n < 9223372036854775808) : Go.bits .xor .i64 (n : Int) 0 = (n : Int) := by
  have e : Go.bits .xor .i64 (n : Int) 0 = IntKind.i64.wrap ((BitVec.ofNat 64 n ^^^ 0#64).toNat : Int) := rfl
  have e2 : (BitVec.ofNat 64 n ^^^ 0#64).toNat = n := by rw [BitVec.xor_zero, BitVec.toNat_ofNat, Nat.mod_eq_of_lt (by omega)]
  rw [e, e2, wi64 (by omega) (by omega)]
theorem xor_i1 (n : Nat) (h : n < 9223372036854775808) : Go.bits .xor .i64 (n : Int) (-1) = -(n : Int) - 1 := by
  have e : Go.bits .xor .i64 (n : Int) (-1) = IntKind.i64.wrap ((BitVec.ofNat 64 n ^^^ BitVec.allOnes 64).toNat : Int) := by
    simp [Go.bits, IntKind.bits]
    rfl
  rw [e, BitVec.xor_allOnes, BitVec.toNat_not, BitVec.toNat_ofNat, Nat.mod_eq_of_lt (show n < 2 ^ 64 by omega), Go.IntKind.wrap_i64]
  omega
theorem Zag_eq (n : Nat) (h : n < 18446744073709551616) : varint_Zag.f (n : Int) = some (zag n) := by
  have e1 : Go.bits .and .u64 (n : Int) 1 = ((n % 2 : Nat) : Int) := by
    have := Go.bits_mask .u64 64 (by decide) wraps_u64 1 (by omega) (n : Int) (by omega) (by omega)
    rw [show ((2 : Int) ^ 1 - 1) = 1 from rfl] at this
    rw [this]
    omega
  unfold varint_Zag.f zag
  rw [e1, show (n : Int) / 2 = ((n / 2 : Nat) : Int) by omega, w64 (x := ((n / 2 : Nat) : Int)) (by omega) (by omega), w64 (x := ((n % 2 : Nat) : Int)) (by omega) (by omega), w64 (by omega) (by omega)]
  split
  · rename_i h0
    rw [h0, show -(((0 : Nat) : Int)) = 0 from rfl, xor_i0 _ (by omega)]
  · rename_i h0
    rw [show n % 2 = 1 by omega, show -(((1 : Nat) : Int)) = -1 from rfl, xor_i1 _ (by omega)]
theorem refZag_eq (n : Nat) (h : n < 18446744073709551616) : pleachref01_Zag.f (n : Int) = some (zag n) := by
  unfold pleachref01_Zag.f zag
  rw [Int.tmod_eq_emod_of_nonneg (by omega), Int.tdiv_eq_ediv_of_nonneg (by omega), show (n : Int) / 2 = ((n / 2 : Nat) : Int) by omega, wu64 (by omega) (by omega), w64 (x := ((n / 2 : Nat) : Int)) (by omega) (by omega)]
  by_cases h0 : n % 2 = 0
  · rw [if_pos (by omega), if_pos h0]
  · rw [if_neg (by omega), if_neg h0, w64 (by omega) (by omega)]
    congr 1
    omega
def intP (s : ByteArray) (a : Nat) : Option (Int × Nat) := (uP s a).bind fun x => some (zag x.1, x.2)
theorem intP_iff (s : ByteArray) (a : Nat) (y : Int) (b : Nat) (ha : a ≤ s.size) : intP s a = some (y, b) ↔ (-9223372036854775808 ≤ y ∧ y ≤ 9223372036854775807) ∧ b = a + (numB (zig y).toNat).size ∧ At s a (numB (zig y).toNat) := by
  unfold intP
  rw [Option.bind_eq_some_iff]
  constructor
  · rintro ⟨⟨N, c⟩, h1, h2⟩
    obtain ⟨g1, g2, g3⟩ := (uP_iff s a N c ha).1 h1
    simp only [Option.some.injEq, Prod.mk.injEq] at h2
    obtain ⟨rfl, rfl⟩ := h2
    rw [zig_zag, Int.toNat_natCast]
    exact ⟨zag_range N g1, g2, g3⟩
  · rintro ⟨h1, h2, h3⟩
    have hz := zig_bound h1.1 h1.2
    exact ⟨((zig y).toNat, b), (uP_iff s a _ b ha).2 ⟨by omega, h2, h3⟩, by simp [zag_zig]⟩
theorem Int_both (k : Nat) (hk : 30 ≤ k) (s : ByteArray) (hs : s.size ≤ 140737488351232) (a : Nat) (ha : a ≤ s.size) :
    (∃ y b, intP s a = some (y, b) ∧ b ≤ s.size ∧ scan_Scan_Int.f k s (a : Int) 0 true = some (y, s, (b : Int), 0, true)) ∨
    (intP s a = none ∧ ∃ e : Int, e ≠ 0 ∧ scan_Scan_Int.f k s (a : Int) 0 true = some (0, s, (a : Int), e, true)) := by
  have hx := extract_size s a s.size
  have E : scan_Scan_Err.f s (a : Int) 0 true = some (0, s, (a : Int), 0, true) := by unfold scan_Scan_Err.f; simp
  have F : ∀ e : Int, scan_Scan_fail.f s (a : Int) 0 true e = some (s, (a : Int), e, true) := by intro e; unfold scan_Scan_fail.f; rw [E]; simp
  unfold scan_Scan_Int.f varint_GetInt.f
  rw [E, Option.bind_some]
  dsimp only
  rw [if_pos rfl, if_pos (show (0 : Int) ≤ (a : Int) by omega), if_pos (show (a : Int) ≤ (s.size : Int) by omega), Int.toNat_natCast, Get_ev _ (by omega) k hk, Option.bind_some]
  unfold intP
  rcases uP_get s a hs with ⟨N, m, hN, hg, hu⟩ | ⟨hg, hu⟩
  · have hb := (uP_le s a N (a + m) ha hu).2
    left
    refine ⟨zag N, a + m, by rw [hu]; rfl, hb, ?_⟩
    rw [hg]
    dsimp only
    rw [Zag_eq N hN, Option.bind_some, Option.bind_some]
    dsimp only
    rw [if_pos rfl, w64 (by omega) (by omega)]
    rfl
  · right
    refine ⟨by rw [hu]; rfl, 3, by omega, ?_⟩
    rw [hg]
    dsimp only
    have hz : varint_Zag.f 0 = some (zag 0) := Zag_eq 0 (by omega)
    rw [hz, Option.bind_some, Option.bind_some]
    dsimp only
    rw [if_neg (by simp), F, Option.bind_some]
def valueP (s : ByteArray) (a : Nat) : Option ((Int × Int × ByteArray) × Nat) :=
  if a < s.size then
    if bt s (a : Int) = 1 then
      if a + 1 < s.size then (if valueB 1 (bt s ((a + 1 : Nat) : Int)) ⟨#[]⟩ = true then some ((1, bt s ((a + 1 : Nat) : Int), ⟨#[]⟩), a + 2) else none) else none
    else if bt s (a : Int) = 2 then (intP s (a + 1)).bind fun x => some ((2, x.1, ⟨#[]⟩), x.2)
    else if bt s (a : Int) = 3 then (textP 64 s (a + 1)).bind fun x => some ((3, 0, x.1), x.2)
    else none
  else none
theorem Fail_ok (s : ByteArray) (p : Int) : scan_Scan_Fail.f s p 0 true 3 = some (s, p, 3, true) := by
  unfold scan_Scan_Fail.f scan_Scan_fail.f scan_Scan_Err.f
  simp
theorem Read_j0_ok (k : Nat) (hk : 1 ≤ k) (s : ByteArray) (p : Int) (x y : Int) (t : ByteArray) : value_Read.j0 k s p 0 true x y t = if valueB x y t = true then some (x, y, t, s, p, 0, true) else some (0, 0, ⟨#[]⟩, s, p, 3, true) := by
  obtain ⟨k, rfl⟩ : ∃ m, k = m + 1 := ⟨k - 1, by omega⟩
  have E : scan_Scan_Err.f s p 0 true = some (0, s, p, 0, true) := by unfold scan_Scan_Err.f; simp
  rw [value_Read.j0, E, Option.bind_some, if_pos rfl, value_Check_eq, Option.bind_some]
  cases valueB x y t with
  | true => simp
  | false =>
    simp only [Bool.false_eq_true, if_false]
    rw [if_neg (by omega), Fail_ok, Option.bind_some]
theorem Read_j0_err (k : Nat) (hk : 1 ≤ k) (s : ByteArray) (p e : Int) (he : e ≠ 0) (x y : Int) (t : ByteArray) : value_Read.j0 k s p e true x y t = some (0, 0, ⟨#[]⟩, s, p, e, true) := by
  obtain ⟨k, rfl⟩ : ∃ m, k = m + 1 := ⟨k - 1, by omega⟩
  have E : scan_Scan_Err.f s p e true = some (e, s, p, e, true) := by unfold scan_Scan_Err.f; simp
  rw [value_Read.j0, E, Option.bind_some, if_neg (by simpa using he)]
theorem Read_err (k : Nat) (hk : 1 ≤ k) (s : ByteArray) (p e : Int) (he : e ≠ 0) : value_Read.f k s p e true = some (0, 0, ⟨#[]⟩, s, p, e, true) := by
  unfold value_Read.f
  rw [Byte_err s p e he, Option.bind_some, if_neg (by simp), if_neg (by simp), if_neg (by simp)]
  exact Read_j0_err k hk s p e he _ _ _
theorem Read_both (k : Nat) (hk : 30 ≤ k) (s : ByteArray) (hs : s.size ≤ 140737488351232) (a : Nat) (ha : a ≤ s.size) :
    (∃ x y t b, valueP s a = some ((x, y, t), b) ∧ b ≤ s.size ∧ value_Read.f k s (a : Int) 0 true = some (x, y, t, s, (b : Int), 0, true)) ∨
    (valueP s a = none ∧ ∃ p e : Int, e ≠ 0 ∧ value_Read.f k s (a : Int) 0 true = some (0, 0, ⟨#[]⟩, s, p, e, true)) := by
  unfold value_Read.f valueP
  rcases Byte_both s hs a ha with ⟨h1, h2⟩ | ⟨h1, h2⟩
  · rw [if_pos h1, h2, Option.bind_some]
    simp only
    by_cases c1 : bt s (a : Int) = 1
    · rw [if_pos c1, if_pos c1, c1]
      rcases Byte_both s hs (a + 1) (by omega) with ⟨g1, g2⟩ | ⟨g1, g2⟩
      · rw [if_pos g1, g2, Option.bind_some]
        simp only
        rw [Read_j0_ok k (by omega)]
        by_cases hv : valueB 1 (bt s ((a + 1 : Nat) : Int)) ⟨#[]⟩ = true
        · left; exact ⟨1, _, _, a + 2, by rw [if_pos hv], by omega, by rw [if_pos hv]⟩
        · right; exact ⟨by rw [if_neg hv], _, 3, by omega, by rw [if_neg hv]⟩
      · right
        rw [if_neg g1, g2, Option.bind_some]
        simp only
        exact ⟨by first | rfl | trivial, _, 3, by omega, Read_j0_err k (by omega) s _ 3 (by omega) _ _ _⟩
    · rw [if_neg c1, if_neg c1]
      by_cases c2 : bt s (a : Int) = 2
      · rw [if_pos c2, if_pos c2, c2]
        rcases Int_both k hk s hs (a + 1) (by omega) with ⟨y, b, g1, g2, g3⟩ | ⟨g1, e, he, g3⟩
        · left
          rw [g1, g3, Option.bind_some, Option.bind_some]
          simp only
          rw [Read_j0_ok k (by omega)]
          exact ⟨2, y, ⟨#[]⟩, b, rfl, g2, by rw [if_pos (by simp [valueB, ByteArray.size])]⟩
        · right
          rw [g1, g3, Option.bind_some]
          simp only
          exact ⟨by first | rfl | trivial, _, e, he, Read_j0_err k (by omega) s _ e he _ _ _⟩
      · rw [if_neg c2, if_neg c2]
        by_cases c3 : bt s (a : Int) = 3
        · rw [if_pos c3, if_pos c3, c3]
          rcases Text_both k hk s hs (a + 1) (by omega) 64 (by omega) with ⟨t, b, g1, g2, g3, g4⟩ | ⟨g1, p, e, he, g3⟩
          · left
            rw [show (64 : Int) = ((64 : Nat) : Int) from rfl, g1, g4, Option.bind_some, Option.bind_some]
            simp only
            rw [Read_j0_ok k (by omega)]
            exact ⟨3, 0, t, b, rfl, g2, by rw [if_pos (by simp [valueB, g3])]⟩
          · right
            rw [show (64 : Int) = ((64 : Nat) : Int) from rfl, g1, g3, Option.bind_some]
            simp only
            exact ⟨by first | rfl | trivial, _, e, he, Read_j0_err k (by omega) s _ e he _ _ _⟩
        · rw [if_neg c3, if_neg c3, Read_j0_ok k (by omega)]
          right
          refine ⟨by first | rfl | trivial, ((a + 1 : Nat) : Int), 3, by omega, ?_⟩
          rw [if_neg (by simp [valueB, c1, c2, c3])]
  · right
    rw [if_neg h1, h2, Option.bind_some]
    simp only
    rw [if_neg (by omega), if_neg (by omega), if_neg (by omega)]
    exact ⟨by first | rfl | trivial, _, 3, by omega, Read_j0_err k (by omega) s _ 3 (by omega) _ _ _⟩
end Go.Proofs.Ytmnadajjgnniaaa.Q
end
section
namespace Go.Proofs.Ytmnadajjgnniaaa.Q
open Go.RowKit Go.Proofs.YtmnadajjgnniaaaW.PrintWords Go.Proofs.Ytmnadajjgnniaaa.MA

theorem rNum_err (k : Nat) (s : ByteArray) (p e : Int) (he : e ≠ 0) (most : Int) : pleachref04_Num.f k s p e most = some (s, p, e, 0) := by
  unfold pleachref04_Num.f
  rw [if_neg he]
theorem rNum_both (k : Nat) (hk : 1000000000000000 ≤ k) (s : ByteArray) (hs : s.size ≤ 140737488351232) (a : Nat) (ha : a ≤ s.size) (most : Nat) (hm : most ≤ 100000) :
    (∃ n b, numP most s a = some (n, b) ∧ pleachref04_Num.f k s (a : Int) 0 (most : Int) = some (s, (b : Int), 0, (n : Int))) ∨
    (numP most s a = none ∧ ∃ e : Int, e ≠ 0 ∧ pleachref04_Num.f k s (a : Int) 0 (most : Int) = some (s, (a : Int), e, 0)) := by
  have hx := extract_size s a s.size
  unfold pleachref04_Num.f
  rw [if_pos rfl, if_pos (show (0 : Int) ≤ (a : Int) by omega), if_pos (show (a : Int) ≤ (s.size : Int) by omega), Int.toNat_natCast, refGet_ev _ (by omega) k hk, Option.bind_some]
  unfold numP
  rcases uP_get s a hs with ⟨N, m, hN, hg, hu⟩ | ⟨hg, hu⟩
  · have hb := (uP_le s a N (a + m) ha hu).2
    rw [hg, hu, Option.bind_some]
    dsimp only
    rw [if_pos rfl, if_neg (show ¬ (most : Int) < 0 by omega), wu64 (x := (most : Int)) (by omega) (by omega)]
    by_cases hle : N ≤ most
    · left
      refine ⟨N, a + m, by rw [if_pos hle], ?_⟩
      rw [if_neg (by omega), w64 (by omega) (by omega), w64 (by omega) (by omega)]
      rfl
    · right
      refine ⟨by rw [if_neg hle], 5, by omega, ?_⟩
      rw [if_pos (by omega)]
  · right
    rw [hg, hu]
    dsimp only
    refine ⟨rfl, 3, by omega, ?_⟩
    rw [if_neg (by simp)]
theorem rfix_err (s : ByteArray) (p e : Int) (he : e ≠ 0) (n : Int) : pleachref04_fix.f s p e n = some (s, p, e, ⟨#[]⟩) := by
  unfold pleachref04_fix.f
  rw [if_neg he]
theorem rfix_both (s : ByteArray) (hs : s.size ≤ 140737488351232) (a : Nat) (ha : a ≤ s.size) (n : Nat) (hn : n ≤ 140737488351232) :
    (∃ t b, fixP n s a = some (t, b) ∧ pleachref04_fix.f s (a : Int) 0 (n : Int) = some (s, (b : Int), 0, t)) ∨
    (fixP n s a = none ∧ pleachref04_fix.f s (a : Int) 0 (n : Int) = some (s, (a : Int), 3, ⟨#[]⟩)) := by
  unfold pleachref04_fix.f fixP
  rw [if_pos rfl, if_neg (show ¬ (n : Int) < 0 by omega), w64 (x := (s.size : Int) - (a : Int)) (by omega) (by omega), w64 (x := (a : Int) + (n : Int)) (by omega) (by omega)]
  by_cases hle : a + n ≤ s.size
  · left
    refine ⟨s.extract a (a + n), a + n, by rw [if_pos hle], ?_⟩
    rw [if_neg (by omega), if_pos (by omega), if_pos (by omega), if_pos (by omega)]
    have : ((a : Int) + (n : Int)).toNat = a + n := by omega
    simp [this]
  · right
    refine ⟨by rw [if_neg hle], ?_⟩
    rw [if_pos (by omega)]
theorem rText_err (k : Nat) (s : ByteArray) (p e : Int) (he : e ≠ 0) (most : Int) : pleachref04_Text.f k s p e most = some (s, p, e, ⟨#[]⟩) := by
  unfold pleachref04_Text.f
  rw [rNum_err k s p e he, Option.bind_some]
  dsimp only
  rw [if_neg he]
theorem rText_both (k : Nat) (hk : 1000000000000000 ≤ k) (s : ByteArray) (hs : s.size ≤ 140737488351232) (a : Nat) (ha : a ≤ s.size) (most : Nat) (hm : most ≤ 100000) :
    (∃ t b, textP most s a = some (t, b) ∧ b ≤ s.size ∧ t.size ≤ most ∧ pleachref04_Text.f k s (a : Int) 0 (most : Int) = some (s, (b : Int), 0, t)) ∨
    (textP most s a = none ∧ ∃ p e : Int, e ≠ 0 ∧ pleachref04_Text.f k s (a : Int) 0 (most : Int) = some (s, p, e, ⟨#[]⟩)) := by
  unfold pleachref04_Text.f textP
  rcases rNum_both k hk s hs a ha most hm with ⟨n, b, h1, h2⟩ | ⟨h1, e, he, h2⟩
  · obtain ⟨h3, h4⟩ := numP_le ha h1
    rw [h1, h2, Option.bind_some, Option.bind_some]
    dsimp only
    rw [if_pos rfl]
    rcases rfix_both s hs b h4 n (by omega) with ⟨t, c, g1, g2⟩ | ⟨g1, g2⟩
    · left
      have := fixP_le g1
      exact ⟨t, c, g1, this.1, by omega, by rw [g2, Option.bind_some]⟩
    · right
      exact ⟨g1, (b : Int), 3, by omega, by rw [g2, Option.bind_some]⟩
  · right
    rw [h1, h2]
    refine ⟨rfl, (a : Int), e, he, ?_⟩
    rw [Option.bind_some]
    dsimp only
    rw [if_neg he]
theorem rByte_err (s : ByteArray) (p e : Int) (he : e ≠ 0) : pleachref04_Byte.f s p e = some (s, p, e, 0) := by
  unfold pleachref04_Byte.f
  rw [rfix_err s p e he, Option.bind_some]
  dsimp only
  rw [if_neg he]
theorem rByte_both (s : ByteArray) (hs : s.size ≤ 140737488351232) (a : Nat) (ha : a ≤ s.size) :
    (a < s.size ∧ pleachref04_Byte.f s (a : Int) 0 = some (s, ((a + 1 : Nat) : Int), 0, bt s (a : Int))) ∨
    (¬ a < s.size ∧ pleachref04_Byte.f s (a : Int) 0 = some (s, (a : Int), 3, 0)) := by
  unfold pleachref04_Byte.f
  rcases rfix_both s hs a ha 1 (by omega) with ⟨t, b, h1, h2⟩ | ⟨h1, h2⟩
  · left
    obtain ⟨g1, g2, g3⟩ := (fixP_iff 1 s a t b).1 h1
    have h3 := g3.1
    have h4 := g3.2
    rw [g1] at h3 h4
    have hr := bt_range s (a : Int)
    refine ⟨by omega, ?_⟩
    rw [show (1 : Int) = ((1 : Nat) : Int) from rfl, h2, Option.bind_some]
    dsimp only
    rw [if_pos rfl, if_pos (by omega), ← h4, bt_extract s a (by omega), w64 (by omega) (by omega), g2]
  · right
    have : ¬ a + 1 ≤ s.size := by
      intro hle
      unfold fixP at h1
      rw [if_pos hle] at h1
      cases h1
    refine ⟨by omega, ?_⟩
    rw [show (1 : Int) = ((1 : Nat) : Int) from rfl, h2, Option.bind_some]
    dsimp only
    rw [if_neg (by omega)]
theorem rInt_both (k : Nat) (hk : 1000000000000000 ≤ k) (s : ByteArray) (hs : s.size ≤ 140737488351232) (a : Nat) (ha : a ≤ s.size) :
    (∃ y b, intP s a = some (y, b) ∧ b ≤ s.size ∧ pleachref04_Int.f k s (a : Int) 0 = some (s, (b : Int), 0, y)) ∨
    (intP s a = none ∧ ∃ e : Int, e ≠ 0 ∧ pleachref04_Int.f k s (a : Int) 0 = some (s, (a : Int), e, 0)) := by
  have hx := extract_size s a s.size
  unfold pleachref04_Int.f
  rw [if_pos rfl, if_pos (show (0 : Int) ≤ (a : Int) by omega), if_pos (show (a : Int) ≤ (s.size : Int) by omega), Int.toNat_natCast, refGet_ev _ (by omega) k hk, Option.bind_some]
  unfold intP
  rcases uP_get s a hs with ⟨N, m, hN, hg, hu⟩ | ⟨hg, hu⟩
  · have hb := (uP_le s a N (a + m) ha hu).2
    left
    refine ⟨zag N, a + m, by rw [hu]; rfl, hb, ?_⟩
    rw [hg]
    dsimp only
    rw [if_pos rfl, refZag_eq N hN, Option.bind_some, w64 (by omega) (by omega)]
    rfl
  · right
    refine ⟨by rw [hu]; rfl, 3, by omega, ?_⟩
    rw [hg]
    dsimp only
    rw [if_neg (by simp)]
theorem rRead_j3 (k : Nat) (hk : 1 ≤ k) (c : Bool) (s : ByteArray) (p e : Int) (x y : Int) (t : ByteArray) :
    pleachref06_Read.j3 k c s p e x y t = if c = true then some (s, p, 3, 0, 0, ⟨#[]⟩) else if e = 0 then some (s, p, e, x, y, t) else some (s, p, e, 0, 0, ⟨#[]⟩) := by
  obtain ⟨k, rfl⟩ : ∃ m, k = m + 1 := ⟨k - 1, by omega⟩
  rw [pleachref06_Read.j3]
theorem rRead_j2_ok (k : Nat) (hk : 2 ≤ k) (s : ByteArray) (p : Int) (x y : Int) (t : ByteArray) : pleachref06_Read.j2 k s p 0 x y t = if valueB x y t = true then some (s, p, 0, x, y, t) else some (s, p, 3, 0, 0, ⟨#[]⟩) := by
  obtain ⟨k, rfl⟩ : ∃ m, k = m + 1 := ⟨k - 1, by omega⟩
  rw [pleachref06_Read.j2, if_pos rfl, refVIs_eq, Option.bind_some, rRead_j3 k (by omega)]
  cases valueB x y t <;> simp
theorem rRead_j2_err (k : Nat) (hk : 2 ≤ k) (s : ByteArray) (p e : Int) (he : e ≠ 0) (x y : Int) (t : ByteArray) : pleachref06_Read.j2 k s p e x y t = some (s, p, e, 0, 0, ⟨#[]⟩) := by
  obtain ⟨k, rfl⟩ : ∃ m, k = m + 1 := ⟨k - 1, by omega⟩
  rw [pleachref06_Read.j2, if_neg he, rRead_j3 k (by omega), if_neg (by simp), if_neg he]
theorem rRead_j0 (k : Nat) (kind : Int) (s : ByteArray) (p e : Int) (x y : Int) (t : ByteArray) (h2 : kind ≠ 2) (h3 : kind ≠ 3) : pleachref06_Read.j0 (k + 2) kind s p e x y t = pleachref06_Read.j2 k s p e x y t := by
  rw [pleachref06_Read.j0, if_neg h2, pleachref06_Read.j1, if_neg h3]
theorem rRead_err (k : Nat) (hk : 10 ≤ k) (s : ByteArray) (p e : Int) (he : e ≠ 0) : pleachref06_Read.f k s p e = some (s, p, e, 0, 0, ⟨#[]⟩) := by
  obtain ⟨k, rfl⟩ : ∃ m, k = m + 2 := ⟨k - 2, by omega⟩
  unfold pleachref06_Read.f
  rw [rByte_err s p e he, Option.bind_some]
  dsimp only
  rw [if_neg (by omega), rRead_j0 k _ _ _ _ _ _ _ (by omega) (by omega)]
  exact rRead_j2_err k (by omega) s p e he _ _ _
theorem rRead_both (k : Nat) (hk : 2000000000000000 ≤ k) (s : ByteArray) (hs : s.size ≤ 140737488351232) (a : Nat) (ha : a ≤ s.size) :
    (∃ x y t b, valueP s a = some ((x, y, t), b) ∧ b ≤ s.size ∧ pleachref06_Read.f k s (a : Int) 0 = some (s, (b : Int), 0, x, y, t)) ∨
    (valueP s a = none ∧ ∃ p e : Int, e ≠ 0 ∧ pleachref06_Read.f k s (a : Int) 0 = some (s, p, e, 0, 0, ⟨#[]⟩)) := by
  obtain ⟨k, rfl⟩ : ∃ m, k = m + 2 := ⟨k - 2, by omega⟩
  unfold pleachref06_Read.f valueP
  rcases rByte_both s hs a ha with ⟨h1, h2⟩ | ⟨h1, h2⟩
  · rw [if_pos h1, h2, Option.bind_some]
    dsimp only
    by_cases c1 : bt s (a : Int) = 1
    · rw [if_pos c1, if_pos c1, c1]
      rcases rByte_both s hs (a + 1) (by omega) with ⟨g1, g2⟩ | ⟨g1, g2⟩
      · rw [if_pos g1, g2, Option.bind_some]
        dsimp only
        rw [rRead_j0 k _ _ _ _ _ _ _ (by omega) (by omega), rRead_j2_ok k (by omega)]
        by_cases hv : valueB 1 (bt s ((a + 1 : Nat) : Int)) ⟨#[]⟩ = true
        · left; exact ⟨1, _, _, a + 2, by rw [if_pos hv], by omega, by rw [if_pos hv]⟩
        · right; exact ⟨by rw [if_neg hv], _, 3, by omega, by rw [if_neg hv]⟩
      · right
        rw [if_neg g1, g2, Option.bind_some]
        dsimp only
        rw [rRead_j0 k _ _ _ _ _ _ _ (by omega) (by omega)]
        exact ⟨by first | rfl | trivial, _, 3, by omega, rRead_j2_err k (by omega) s _ 3 (by omega) _ _ _⟩
    · rw [if_neg c1, if_neg c1]
      by_cases c2 : bt s (a : Int) = 2
      · rw [if_pos c2, c2, pleachref06_Read.j0, if_pos rfl]
        rcases rInt_both (k + 1) (by omega) s hs (a + 1) (by omega) with ⟨y, b, g1, g2, g3⟩ | ⟨g1, e, he, g3⟩
        · left
          rw [g1, g3, Option.bind_some, Option.bind_some]
          dsimp only
          rw [pleachref06_Read.j1, if_neg (by omega), rRead_j2_ok k (by omega)]
          exact ⟨2, y, ⟨#[]⟩, b, rfl, g2, by rw [if_pos (by simp [valueB, ByteArray.size])]⟩
        · right
          rw [g1, g3, Option.bind_some]
          dsimp only
          rw [pleachref06_Read.j1, if_neg (by omega)]
          exact ⟨by first | rfl | trivial, _, e, he, rRead_j2_err k (by omega) s _ e he _ _ _⟩
      · rw [if_neg c2, pleachref06_Read.j0, if_neg c2]
        by_cases c3 : bt s (a : Int) = 3
        · rw [if_pos c3, c3, pleachref06_Read.j1, if_pos rfl]
          rcases rText_both k (by omega) s hs (a + 1) (by omega) 64 (by omega) with ⟨t, b, g1, g2, g3, g4⟩ | ⟨g1, p, e, he, g3⟩
          · left
            rw [show (64 : Int) = ((64 : Nat) : Int) from rfl, g1, g4, Option.bind_some, Option.bind_some]
            dsimp only
            rw [rRead_j2_ok k (by omega)]
            exact ⟨3, 0, t, b, rfl, g2, by rw [if_pos (by simp [valueB, g3])]⟩
          · right
            rw [show (64 : Int) = ((64 : Nat) : Int) from rfl, g1, g3, Option.bind_some]
            dsimp only
            exact ⟨by first | rfl | trivial, _, e, he, rRead_j2_err k (by omega) s _ e he _ _ _⟩
        · rw [if_neg c3, pleachref06_Read.j1, if_neg c3, rRead_j2_ok k (by omega)]
          right
          refine ⟨by first | rfl | trivial, ((a + 1 : Nat) : Int), 3, by omega, ?_⟩
          rw [if_neg (by simp [valueB, c1, c2, c3])]
  · right
    rw [if_neg h1, h2, Option.bind_some]
    dsimp only
    rw [if_neg (by omega), rRead_j0 k _ _ _ _ _ _ _ (by omega) (by omega)]
    exact ⟨by first | rfl | trivial, _, 3, by omega, rRead_j2_err k (by omega) s _ 3 (by omega) _ _ _⟩
end Go.Proofs.Ytmnadajjgnniaaa.Q
end
section
namespace Go.Proofs.Ytmnadajjgnniaaa.Q
open Go.RowKit Go.Proofs.YtmnadajjgnniaaaW.PrintWords Go.Proofs.Ytmnadajjgnniaaa.MA Go.Proofs.Ytmnadajjgnniaaa.HOpen

def scanI (step : Nat → Option Int) : Nat → Nat → Int
  | 0, _ => 0
  | d + 1, i => match step i with
    | some r => r
    | none => scanI step d (i + 1)
def okProps (l : List S98) : Prop := l.length ≤ 140737488351232 ∧ ∀ p ∈ l, G98 p
def okTexts (l : List ByteArray) : Prop := l.length ≤ 140737488351232 ∧ ∀ s ∈ l, s.size ≤ 140737488351232
def propAt (l : List S98) (i : Nat) : S98 := l.getD i z98
def textAt (l : List ByteArray) (i : Nat) : ByteArray := l.getD i ByteArray.empty
theorem okProps_at {l : List S98} (h : okProps l) {i : Nat} (hi : i < l.length) : G98 (propAt l i) := by
  have : propAt l i = l[i] := by simp [propAt, List.getD_eq_getElem?_getD, List.getElem?_eq_getElem hi]
  rw [this]
  exact h.2 _ (List.getElem_mem hi)
theorem okTexts_at {l : List ByteArray} (h : okTexts l) {i : Nat} (hi : i < l.length) : (textAt l i).size ≤ 140737488351232 := by
  have : textAt l i = l[i] := by simp [textAt, List.getD_eq_getElem?_getD, List.getElem?_eq_getElem hi]
  rw [this]
  exact h.2 _ (List.getElem_mem hi)
theorem rd_prop (l : List S98) (i : Nat) : rd_T98 l (i : Int) = propAt l i := by simp [rd_T98, propAt]
theorem rd_text (l : List ByteArray) (i : Nat) : rdOf ByteArray.empty l (i : Int) = textAt l i := by simp [rdOf, textAt]
theorem pred_cast {i : Nat} (h : 0 < i) : wrap64 ((i : Int) - 1) = ((i - 1 : Nat) : Int) ∨ 9223372036854775807 < i := by
  by_cases hb : i ≤ 9223372036854775807
  · left; rw [w64 (by omega) (by omega)]; omega
  · right; omega
def lessB (a b : ByteArray) : Bool := Op.bytesLess a.toList b.toList
def valOk (p : S98) : Bool := valueB p.f1.f0 p.f1.f1 p.f1.f2
def propStep (l : List S98) (i : Nat) : Option Int :=
  if (nameB (propAt l i).f0 && valOk (propAt l i)) = false then some 2
  else if 0 < i ∧ lessB (propAt l (i - 1)).f0 (propAt l i).f0 = false then some 4 else none
def textStep (l : List ByteArray) (i : Nat) : Option Int :=
  if nameB (textAt l i) = false then some 2
  else if 0 < i ∧ lessB (textAt l (i - 1)) (textAt l i) = false then some 4 else none
def propsN (l : List S98) : Int := if l.length > 8 then 5 else scanI (propStep l) l.length 0
def rowN (l : List ByteArray) : Int := scanI (textStep l) l.length 0
def restN (labels : List ByteArray) (props : List S98) : Int := if labels.length > 8 then 5 else if rowN labels = 0 then propsN props else rowN labels

theorem CheckProps_l0 (l : List S98) (hl : okProps l) : ∀ d i : Nat, i + d = l.length → ∀ k, 2 * d + 140737488351240 ≤ k →
    elem_CheckProps.l0 k l l (l.length : Int) (i : Int) = some (scanI (propStep l) d i)
  | 0, i, h, k, hk => by
    obtain ⟨k, rfl⟩ : ∃ m, k = m + 1 := ⟨k - 1, by omega⟩
    rw [elem_CheckProps.l0, if_neg (by omega)]
    rfl
  | d + 1, i, h, k, hk => by
    obtain ⟨k, rfl⟩ : ∃ m, k = m + 1 + 1 := ⟨k - 2, by omega⟩
    have hlen := hl.1
    have hg := okProps_at hl (i := i) (by omega)
    have ih := CheckProps_l0 l hl d (i + 1) (by omega) k (by omega)
    rw [elem_CheckProps.l0, if_pos (by omega), if_pos (by omega), if_pos (by omega), rd_prop, name_Check_ev _ hg.1 _ (by have := hg.1; omega)]
    simp only [Option.bind_some]
    have key : ∀ b : Bool, (b = !(nameB (propAt l i).f0 && valOk (propAt l i))) → elem_CheckProps.j1 (k + 1) l (i : Int) l (l.length : Int) (i : Int) b (propAt l i).f0 (propAt l i).f1.f0 (propAt l i).f1.f1 (propAt l i).f1.f2 = some (scanI (propStep l) (d + 1) i) := by
      intro b hb
      rw [elem_CheckProps.j1]
      have e : scanI (propStep l) (d + 1) i = match propStep l i with | some r => r | none => scanI (propStep l) d (i + 1) := rfl
      rw [e]
      clear e
      generalize scanI (propStep l) d (i + 1) = R at ih ⊢
      unfold propStep
      cases hv : (nameB (propAt l i).f0 && valOk (propAt l i)) with
      | false => rw [hv] at hb; simp [hb]
      | true =>
        rw [hv] at hb
        have hb' : b = false := hb
        subst hb'
        simp only [Bool.false_eq_true, if_false, Bool.true_eq_false]
        by_cases h0 : 0 < i
        · rw [if_pos (by omega)]
          rcases pred_cast h0 with hp | hp
          · rw [hp, if_pos (by omega), if_pos (by omega), rd_prop, w64 (by omega) (by omega), show ((i : Int) + 1) = ((i + 1 : Nat) : Int) by omega, ih]
            unfold lessB
            cases hless : Op.bytesLess (propAt l (i - 1)).f0.toList (propAt l i).f0.toList <;> simp [h0]
          · omega
        · rw [if_neg (by omega), w64 (by omega) (by omega), show ((i : Int) + 1) = ((i + 1 : Nat) : Int) by omega, ih]
          simp [h0]
    cases hn : nameB (propAt l i).f0 with
    | false =>
      simp only [Bool.false_eq_true, if_false]
      rw [if_neg (by decide)]
      exact key true (by simp [hn])
    | true =>
      simp only [if_true]
      rw [value_Check_eq]
      simp only [Option.bind_some]
      refine key _ ?_
      unfold valOk
      cases valueB (propAt l i).f1.f0 (propAt l i).f1.f1 (propAt l i).f1.f2 <;> simp [hn]
theorem CheckProps_ev (l : List S98) (hl : okProps l) (k : Nat) (hk : 1000000000000000 ≤ k) : elem_CheckProps.f k l = some (propsN l) := by
  unfold elem_CheckProps.f propsN
  have hlen := hl.1
  by_cases h : l.length > 8
  · rw [if_pos (by omega), if_pos h]
  · rw [if_neg (by omega), if_neg h, show (0 : Int) = ((0 : Nat) : Int) from rfl, CheckProps_l0 l hl l.length 0 (by omega) k (by omega)]

theorem refProps_l0 (l : List S98) (hl : okProps l) : ∀ d i : Nat, i + d = l.length → ∀ k, 2 * d + 140737488351240 ≤ k →
    pleachref25_Props.l0 k l (i : Int) = some (scanI (propStep l) d i)
  | 0, i, h, k, hk => by
    obtain ⟨k, rfl⟩ : ∃ m, k = m + 1 := ⟨k - 1, by omega⟩
    rw [pleachref25_Props.l0, if_neg (by omega)]
    rfl
  | d + 1, i, h, k, hk => by
    obtain ⟨k, rfl⟩ : ∃ m, k = m + 1 + 1 := ⟨k - 2, by omega⟩
    have hlen := hl.1
    have hg := okProps_at hl (i := i) (by omega)
    have ih := refProps_l0 l hl d (i + 1) (by omega) k (by omega)
    rw [pleachref25_Props.l0, if_pos (by omega), if_pos (by omega), rd_prop, refIs_ev _ hg.1 _ (by have := hg.1; omega)]
    simp only [Option.bind_some]
    have key : ∀ b : Bool, (b = !(nameB (propAt l i).f0 && valOk (propAt l i))) → pleachref25_Props.j1 (k + 1) l (i : Int) b = some (scanI (propStep l) (d + 1) i) := by
      intro b hb
      rw [pleachref25_Props.j1]
      have e : scanI (propStep l) (d + 1) i = match propStep l i with | some r => r | none => scanI (propStep l) d (i + 1) := rfl
      rw [e]
      clear e
      generalize scanI (propStep l) d (i + 1) = R at ih ⊢
      unfold propStep
      cases hv : (nameB (propAt l i).f0 && valOk (propAt l i)) with
      | false => rw [hv] at hb; simp [hb]
      | true =>
        rw [hv] at hb
        have hb' : b = false := hb
        subst hb'
        simp only [Bool.false_eq_true, if_false, Bool.true_eq_false]
        by_cases h0 : 0 < i
        · rw [if_pos (by omega), if_pos (by omega), if_pos (by omega)]
          rcases pred_cast h0 with hp | hp
          · rw [hp, if_pos (by omega), if_pos (by omega), rd_prop, rd_prop, w64 (by omega) (by omega), show ((i : Int) + 1) = ((i + 1 : Nat) : Int) by omega, ih]
            unfold lessB
            cases hless : Op.bytesLess (propAt l (i - 1)).f0.toList (propAt l i).f0.toList <;> simp [h0]
          · omega
        · rw [if_neg (by omega), w64 (by omega) (by omega), show ((i : Int) + 1) = ((i + 1 : Nat) : Int) by omega, ih]
          simp [h0]
    cases hn : nameB (propAt l i).f0 with
    | false =>
      simp only [Bool.false_eq_true, if_false]
      exact key true (by simp [hn])
    | true =>
      simp only [if_true]
      rw [refVIs_eq]
      simp only [Option.bind_some]
      refine key _ ?_
      unfold valOk
      cases valueB (propAt l i).f1.f0 (propAt l i).f1.f1 (propAt l i).f1.f2 <;> simp [hn]
theorem refProps_ev (l : List S98) (hl : okProps l) (k : Nat) (hk : 1000000000000000 ≤ k) : pleachref25_Props.f k l = some (propsN l) := by
  unfold pleachref25_Props.f propsN
  have hlen := hl.1
  by_cases h : l.length > 8
  · rw [if_pos (by omega), if_pos h]
  · rw [if_neg (by omega), if_neg h, show (0 : Int) = ((0 : Nat) : Int) from rfl, refProps_l0 l hl l.length 0 (by omega) k (by omega)]

theorem Row_l0 (l : List ByteArray) (hl : okTexts l) : ∀ d i : Nat, i + d = l.length → ∀ k, d + 140737488351240 ≤ k →
    name_Row.l0 k l l (l.length : Int) (i : Int) = some (scanI (textStep l) d i)
  | 0, i, h, k, hk => by
    obtain ⟨k, rfl⟩ : ∃ m, k = m + 1 := ⟨k - 1, by omega⟩
    rw [name_Row.l0, if_neg (by omega)]
    rfl
  | d + 1, i, h, k, hk => by
    obtain ⟨k, rfl⟩ : ∃ m, k = m + 1 := ⟨k - 1, by omega⟩
    have hlen := hl.1
    have hg := okTexts_at hl (i := i) (by omega)
    have ih := Row_l0 l hl d (i + 1) (by omega) k (by omega)
    rw [name_Row.l0, if_pos (by omega), if_pos (by omega), if_pos (by omega), rd_text, name_Check_ev _ hg _ (by omega)]
    simp only [Option.bind_some]
    have e : scanI (textStep l) (d + 1) i = match textStep l i with | some r => r | none => scanI (textStep l) d (i + 1) := rfl
    rw [e]
    clear e
    generalize scanI (textStep l) d (i + 1) = R at ih ⊢
    unfold textStep
    cases hn : nameB (textAt l i) with
    | false => simp
    | true =>
      simp only [if_true, Bool.true_eq_false, if_false]
      by_cases h0 : 0 < i
      · rw [if_pos (by omega)]
        rcases pred_cast h0 with hp | hp
        · rw [hp, if_pos (by omega), if_pos (by omega), rd_text, w64 (by omega) (by omega), show ((i : Int) + 1) = ((i + 1 : Nat) : Int) by omega, ih]
          unfold lessB
          cases hless : Op.bytesLess (textAt l (i - 1)).toList (textAt l i).toList <;> simp [h0]
        · omega
      · rw [if_neg (by omega), w64 (by omega) (by omega), show ((i : Int) + 1) = ((i + 1 : Nat) : Int) by omega, ih]
        simp [h0]
theorem Row_ev (l : List ByteArray) (hl : okTexts l) (k : Nat) (hk : 1000000000000000 ≤ k) : name_Row.f k l = some (rowN l) := by
  unfold name_Row.f rowN
  have hlen := hl.1
  rw [show (0 : Int) = ((0 : Nat) : Int) from rfl, Row_l0 l hl l.length 0 (by omega) k (by omega)]
theorem refRow_l0 (l : List ByteArray) (hl : okTexts l) : ∀ d i : Nat, i + d = l.length → ∀ k, d + 140737488351240 ≤ k →
    pleachref05_Row.l0 k l (i : Int) = some (scanI (textStep l) d i)
  | 0, i, h, k, hk => by
    obtain ⟨k, rfl⟩ : ∃ m, k = m + 1 := ⟨k - 1, by omega⟩
    rw [pleachref05_Row.l0, if_neg (by omega)]
    rfl
  | d + 1, i, h, k, hk => by
    obtain ⟨k, rfl⟩ : ∃ m, k = m + 1 := ⟨k - 1, by omega⟩
    have hlen := hl.1
    have hg := okTexts_at hl (i := i) (by omega)
    have ih := refRow_l0 l hl d (i + 1) (by omega) k (by omega)
    rw [pleachref05_Row.l0, if_pos (by omega), if_pos (by omega), rd_text, refIs_ev _ hg _ (by omega)]
    simp only [Option.bind_some]
    have e : scanI (textStep l) (d + 1) i = match textStep l i with | some r => r | none => scanI (textStep l) d (i + 1) := rfl
    rw [e]
    clear e
    generalize scanI (textStep l) d (i + 1) = R at ih ⊢
    unfold textStep
    cases hn : nameB (textAt l i) with
    | false => simp
    | true =>
      simp only [if_true, Bool.true_eq_false, if_false]
      by_cases h0 : 0 < i
      · rw [if_pos (by omega)]
        rcases pred_cast h0 with hp | hp
        · rw [hp, if_pos (by omega), if_pos (by omega), rd_text, w64 (by omega) (by omega), show ((i : Int) + 1) = ((i + 1 : Nat) : Int) by omega, ih]
          unfold lessB
          cases hless : Op.bytesLess (textAt l (i - 1)).toList (textAt l i).toList <;> simp [h0]
        · omega
      · rw [if_neg (by omega), w64 (by omega) (by omega), show ((i : Int) + 1) = ((i + 1 : Nat) : Int) by omega, ih]
        simp [h0]
theorem refRow_ev (l : List ByteArray) (hl : okTexts l) (k : Nat) (hk : 1000000000000000 ≤ k) : pleachref05_Row.f k l = some (rowN l) := by
  unfold pleachref05_Row.f rowN
  have hlen := hl.1
  rw [show (0 : Int) = ((0 : Nat) : Int) from rfl, refRow_l0 l hl l.length 0 (by omega) k (by omega)]
theorem rest_ev (a : List ByteArray) (l : List S98) (ha : okTexts a) (hl : okProps l) (k : Nat) (hk : 1000000000000000 ≤ k) : elem_rest.f k a l = some (restN a l) := by
  unfold elem_rest.f restN
  by_cases h : a.length > 8
  · rw [if_pos (by omega), if_pos h]
  · rw [if_neg (by omega), if_neg h, Row_ev a ha k hk]
    simp only [Option.bind_some]
    split
    · rw [CheckProps_ev l hl k hk]; rfl
    · rfl
theorem refRest_ev (a : List ByteArray) (l : List S98) (ha : okTexts a) (hl : okProps l) (k : Nat) (hk : 1000000000000000 ≤ k) : pleachref25_rest.f k a l = some (restN a l) := by
  unfold pleachref25_rest.f restN
  by_cases h : a.length > 8
  · rw [if_pos (by omega), if_pos h]
  · rw [if_neg (by omega), if_neg h, refRow_ev a ha k hk]
    simp only [Option.bind_some]
    split
    · rw [refProps_ev l hl k hk]; rfl
    · rfl
end Go.Proofs.Ytmnadajjgnniaaa.Q
end
section
namespace Go.Proofs.Ytmnadajjgnniaaa.Q
open Go.RowKit Go.Proofs.YtmnadajjgnniaaaW.PrintWords Go.Proofs.Ytmnadajjgnniaaa.MA Go.Proofs.Ytmnadajjgnniaaa.HOpen

theorem scanI_zero {step : Nat → Option Int} (hs : ∀ i r, step i = some r → r ≠ 0) : ∀ d i, scanI step d i = 0 → ∀ j, i ≤ j → j < i + d → step j = none
  | 0, i, _, j, h1, h2 => by omega
  | d + 1, i, h, j, h1, h2 => by
    have e : scanI step (d + 1) i = match step i with | some r => r | none => scanI step d (i + 1) := rfl
    rw [e] at h
    cases hq : step i with
    | some r => rw [hq] at h; exact absurd h (hs i r hq)
    | none =>
      rw [hq] at h
      by_cases hij : j = i
      · rw [hij]; exact hq
      · exact scanI_zero hs d (i + 1) h j (by omega) (by omega)
theorem propStep_ne (l : List S98) (i : Nat) (r : Int) (h : propStep l i = some r) : r ≠ 0 := by
  unfold propStep at h
  split at h
  · injection h with h; omega
  · split at h
    · injection h with h; omega
    · cases h
theorem textStep_ne (l : List ByteArray) (i : Nat) (r : Int) (h : textStep l i = some r) : r ≠ 0 := by
  unfold textStep at h
  split at h
  · injection h with h; omega
  · split at h
    · injection h with h; omega
    · cases h
theorem nameB_size {s : ByteArray} (h : nameB s = true) : 1 ≤ s.size ∧ s.size ≤ 12 := by
  unfold nameB at h
  simp at h
  exact ⟨h.1.1, h.1.2⟩
theorem textStep_none {l : List ByteArray} {i : Nat} (h : textStep l i = none) : nameB (textAt l i) = true ∧ (0 < i → lessB (textAt l (i - 1)) (textAt l i) = true) := by
  unfold textStep at h
  split at h
  · cases h
  · rename_i h1
    split at h
    · cases h
    · rename_i h2
      refine ⟨by simpa using h1, fun h0 => ?_⟩
      cases hq : lessB (textAt l (i - 1)) (textAt l i) with
      | true => rfl
      | false => exact absurd ⟨h0, hq⟩ h2
theorem propStep_none {l : List S98} {i : Nat} (h : propStep l i = none) : nameB (propAt l i).f0 = true ∧ valOk (propAt l i) = true ∧ (0 < i → lessB (propAt l (i - 1)).f0 (propAt l i).f0 = true) := by
  unfold propStep at h
  split at h
  · cases h
  · rename_i h1
    split at h
    · cases h
    · rename_i h2
      have h3 : nameB (propAt l i).f0 = true ∧ valOk (propAt l i) = true := by simpa using h1
      refine ⟨h3.1, h3.2, fun h0 => ?_⟩
      cases hq : lessB (propAt l (i - 1)).f0 (propAt l i).f0 with
      | true => rfl
      | false => exact absurd ⟨h0, hq⟩ h2
theorem rowN_zero {l : List ByteArray} (h : rowN l = 0) {i : Nat} (hi : i < l.length) : nameB (textAt l i) = true ∧ (0 < i → lessB (textAt l (i - 1)) (textAt l i) = true) :=
  textStep_none (scanI_zero (textStep_ne l) l.length 0 h i (by omega) (by omega))
theorem propsN_len {l : List S98} (h : propsN l = 0) : l.length ≤ 8 := by
  unfold propsN at h
  split at h
  · omega
  · omega
theorem propsN_zero {l : List S98} (h : propsN l = 0) {i : Nat} (hi : i < l.length) : nameB (propAt l i).f0 = true ∧ valOk (propAt l i) = true ∧ (0 < i → lessB (propAt l (i - 1)).f0 (propAt l i).f0 = true) := by
  have h8 := propsN_len h
  unfold propsN at h
  rw [if_neg (by omega)] at h
  exact propStep_none (scanI_zero (propStep_ne l) l.length 0 h i (by omega) (by omega))
theorem restN_zero {a : List ByteArray} {l : List S98} (h : restN a l = 0) : a.length ≤ 8 ∧ rowN a = 0 ∧ propsN l = 0 := by
  unfold restN at h
  split at h
  · omega
  · split at h
    · rename_i h1 h2
      exact ⟨by omega, h2, h⟩
    · rename_i h1 h2
      exact absurd h h2

def catT (l : List ByteArray) : Nat → Nat → ByteArray
  | 0, _ => ⟨#[]⟩
  | d + 1, i => textB (textAt l i) ++ catT l d (i + 1)
def propB (p : S98) : ByteArray := textB p.f0 ++ valB p.f1.f0 p.f1.f1 p.f1.f2
def catP (l : List S98) : Nat → Nat → ByteArray
  | 0, _ => ⟨#[]⟩
  | d + 1, i => propB (propAt l i) ++ catP l d (i + 1)
def putB (a : List ByteArray) (l : List S98) : ByteArray := numB a.length ++ (catT a a.length 0 ++ (numB l.length ++ catP l l.length 0))
theorem app_nil (s : ByteArray) : s ++ (⟨#[]⟩ : ByteArray) = s := by apply ByteArray.ext; simp
theorem nil_app (s : ByteArray) : (⟨#[]⟩ : ByteArray) ++ s = s := by apply ByteArray.ext; simp
structure Short (a : List ByteArray) (l : List S98) : Prop where
  na : a.length ≤ 8
  nl : l.length ≤ 8
  ta : ∀ i, i < a.length → (textAt a i).size ≤ 12
  tl : ∀ i, i < l.length → (propAt l i).f0.size ≤ 12
theorem Short.of {a : List ByteArray} {l : List S98} (h : restN a l = 0) : Short a l := by
  obtain ⟨h1, h2, h3⟩ := restN_zero h
  exact ⟨h1, propsN_len h3, fun i hi => (nameB_size (rowN_zero h2 hi).1).2, fun i hi => (nameB_size (propsN_zero h3 hi).1).2⟩
theorem propB_size (p : S98) (h : p.f0.size ≤ 12) : (propB p).size ≤ 102 := by
  unfold propB
  rw [ByteArray.size_append]
  have := textB_size p.f0
  have := valB_size p.f1.f0 p.f1.f1 p.f1.f2
  omega

theorem elemPut_l1 (a : List ByteArray) (l : List S98) (hs : Short a l) (hl : okProps l) : ∀ (d i : Nat) (out : ByteArray), i + d = l.length → out.size ≤ 1000 + 102 * i → ∀ k, d + 1 ≤ k →
    elem_put.l1 k out l (l.length : Int) (i : Int) = some (out ++ catP l d i)
  | 0, i, out, h, ho, k, hk => by
    obtain ⟨k, rfl⟩ : ∃ m, k = m + 1 := ⟨k - 1, by omega⟩
    rw [elem_put.l1, if_neg (by omega), catP, app_nil]
  | d + 1, i, out, h, ho, k, hk => by
    obtain ⟨k, rfl⟩ : ∃ m, k = m + 1 := ⟨k - 1, by omega⟩
    have hil : i < l.length := by omega
    have hg := okProps_at hl hil
    have hsz := propB_size _ (hs.tl i hil)
    have h8 := hs.nl
    rw [elem_put.l1, if_pos (by omega), if_pos (by omega), if_pos (by omega), rd_prop, value_Put_eq _ _ _ (wf_i64 hg.2.2.1), PutText_eq _ hg.1]
    simp only [Option.bind_some]
    have e : (textB (propAt l i).f0 ++ valB (propAt l i).f1.f0 (propAt l i).f1.f1 (propAt l i).f1.f2) = propB (propAt l i) := rfl
    have e2 := ByteArray.size_append (a := textB (propAt l i).f0) (b := valB (propAt l i).f1.f0 (propAt l i).f1.f1 (propAt l i).f1.f2)
    rw [e] at e2
    rw [if_pos (by omega), if_pos (by omega), w64 (by omega) (by omega), e, show ((i : Int) + 1) = ((i + 1 : Nat) : Int) by omega]
    rw [elemPut_l1 a l hs hl d (i + 1) _ (by omega) (zq141) k (by omega), catP, ByteArray.append_assoc]
theorem elemPut_l0 (a : List ByteArray) (l : List S98) (hs : Short a l) (ha : okTexts a) (hl : okProps l) : ∀ (d i : Nat) (out : ByteArray), i + d = a.length → out.size ≤ 10 + 22 * i → ∀ k, d + 20 ≤ k →
    elem_put.l0 k l out a (a.length : Int) (i : Int) = some (out ++ (catT a d i ++ (numB l.length ++ catP l l.length 0)))
  | 0, i, out, h, ho, k, hk => by
    obtain ⟨k, rfl⟩ : ∃ m, k = m + 1 := ⟨k - 1, by omega⟩
    have h8 := hs.na
    have h9 := hs.nl
    have hb := numB_size l.length
    rw [elem_put.l0, if_neg (by omega), PutNum_eq l.length (by omega)]
    simp only [Option.bind_some]
    rw [if_pos (by omega), show (0 : Int) = ((0 : Nat) : Int) from rfl, elemPut_l1 a l hs hl l.length 0 _ (by omega) (zq141) k (by omega), catT, ByteArray.append_assoc, nil_app]
  | d + 1, i, out, h, ho, k, hk => by
    obtain ⟨k, rfl⟩ : ∃ m, k = m + 1 := ⟨k - 1, by omega⟩
    have hil : i < a.length := by omega
    have h8 := hs.na
    have h12 := hs.ta i hil
    have hsz := textB_size (textAt a i)
    rw [elem_put.l0, if_pos (by omega), if_pos (by omega), if_pos (by omega), rd_text, PutText_eq _ (by omega)]
    simp only [Option.bind_some]
    rw [if_pos (by omega), w64 (by omega) (by omega), show ((i : Int) + 1) = ((i + 1 : Nat) : Int) by omega]
    rw [elemPut_l0 a l hs ha hl d (i + 1) _ (by omega) (zq141) k (by omega), catT, ByteArray.append_assoc, ByteArray.append_assoc]
theorem put_ev (a : List ByteArray) (l : List S98) (hs : Short a l) (ha : okTexts a) (hl : okProps l) (k : Nat) (hk : 1000 ≤ k) : elem_put.f k a l = some (putB a l) := by
  unfold elem_put.f
  have h8 := hs.na
  rw [PutNum_eq a.length (by omega)]
  simp only [Option.bind_some]
  rw [show (0 : Int) = ((0 : Nat) : Int) from rfl, elemPut_l0 a l hs ha hl a.length 0 _ (by omega) (by have := numB_size a.length; omega) k (by omega)]
  rfl
theorem refPut_l1 (a : List ByteArray) (l : List S98) (hs : Short a l) (hl : okProps l) : ∀ (d i : Nat) (out : ByteArray), i + d = l.length → out.size ≤ 1000 + 102 * i → ∀ k, d + 20 ≤ k →
    pleachref25_put.l1 k l out (i : Int) = some (out ++ catP l d i)
  | 0, i, out, h, ho, k, hk => by
    obtain ⟨k, rfl⟩ : ∃ m, k = m + 1 := ⟨k - 1, by omega⟩
    rw [pleachref25_put.l1, if_neg (by omega), catP, app_nil]
  | d + 1, i, out, h, ho, k, hk => by
    obtain ⟨k, rfl⟩ : ∃ m, k = m + 1 := ⟨k - 1, by omega⟩
    have hil : i < l.length := by omega
    have hg := okProps_at hl hil
    have hsz := propB_size _ (hs.tl i hil)
    have h8 := hs.nl
    rw [pleachref25_put.l1, if_pos (by omega), if_pos (by omega), rd_prop, refPutText_ev _ hg.1 k (by omega)]
    simp only [Option.bind_some]
    have e : (textB (propAt l i).f0 ++ valB (propAt l i).f1.f0 (propAt l i).f1.f1 (propAt l i).f1.f2) = propB (propAt l i) := rfl
    have e2 := ByteArray.size_append (a := textB (propAt l i).f0) (b := valB (propAt l i).f1.f0 (propAt l i).f1.f1 (propAt l i).f1.f2)
    rw [e] at e2
    rw [if_pos (by omega), refVPut_ev _ _ _ (wf_i64 hg.2.2.1) k (by omega)]
    simp only [Option.bind_some]
    rw [if_pos (by omega), w64 (by omega) (by omega), ByteArray.append_assoc, e, show ((i : Int) + 1) = ((i + 1 : Nat) : Int) by omega]
    rw [refPut_l1 a l hs hl d (i + 1) _ (by omega) (zq141) k (by omega), catP, ByteArray.append_assoc]
theorem refPut_l0 (a : List ByteArray) (l : List S98) (hs : Short a l) (ha : okTexts a) (hl : okProps l) : ∀ (d i : Nat) (out : ByteArray), i + d = a.length → out.size ≤ 10 + 22 * i → ∀ k, d + 40 ≤ k →
    pleachref25_put.l0 k a l out (i : Int) = some (out ++ (catT a d i ++ (numB l.length ++ catP l l.length 0)))
  | 0, i, out, h, ho, k, hk => by
    obtain ⟨k, rfl⟩ : ∃ m, k = m + 1 := ⟨k - 1, by omega⟩
    have h8 := hs.na
    have h9 := hs.nl
    have hb := numB_size l.length
    rw [pleachref25_put.l0, if_neg (by omega), refPutNum_ev l.length (by omega) k (by omega)]
    simp only [Option.bind_some]
    rw [if_pos (by omega), show (0 : Int) = ((0 : Nat) : Int) from rfl, refPut_l1 a l hs hl l.length 0 _ (by omega) (zq141) k (by omega), catT, ByteArray.append_assoc, nil_app]
  | d + 1, i, out, h, ho, k, hk => by
    obtain ⟨k, rfl⟩ : ∃ m, k = m + 1 := ⟨k - 1, by omega⟩
    have hil : i < a.length := by omega
    have h8 := hs.na
    have h12 := hs.ta i hil
    have hsz := textB_size (textAt a i)
    rw [pleachref25_put.l0, if_pos (by omega), if_pos (by omega), rd_text, refPutText_ev _ (by omega) k (by omega)]
    simp only [Option.bind_some]
    rw [if_pos (by omega), w64 (by omega) (by omega), show ((i : Int) + 1) = ((i + 1 : Nat) : Int) by omega]
    rw [refPut_l0 a l hs ha hl d (i + 1) _ (by omega) (zq141) k (by omega), catT, ByteArray.append_assoc, ByteArray.append_assoc]
theorem refPut_ev2 (a : List ByteArray) (l : List S98) (hs : Short a l) (ha : okTexts a) (hl : okProps l) (k : Nat) (hk : 1000 ≤ k) : pleachref25_put.f k a l = some (putB a l) := by
  unfold pleachref25_put.f
  have h8 := hs.na
  rw [refPutNum_ev a.length (by omega) k (by omega)]
  simp only [Option.bind_some]
  rw [show (0 : Int) = ((0 : Nat) : Int) from rfl, refPut_l0 a l hs ha hl a.length 0 _ (by omega) (by have := numB_size a.length; omega) k (by omega)]
  rfl
def nodeN (id : ByteArray) (a : List ByteArray) (l : List S98) : Int := if nameB id then restN a l else 2
def nodeB (id : ByteArray) (a : List ByteArray) (l : List S98) : ByteArray := if nodeN id a l = 0 then putB a l else ⟨#[]⟩
theorem nodeN_short {id : ByteArray} {a : List ByteArray} {l : List S98} (h : nodeN id a l = 0) : Short a l := by
  unfold nodeN at h
  split at h
  · exact Short.of h
  · omega
theorem CheckNode_ev (id : ByteArray) (a : List ByteArray) (l : List S98) (hi : id.size ≤ 140737488351232) (ha : okTexts a) (hl : okProps l) (k : Nat) (hk : 1000000000000000 ≤ k) : elem_CheckNode.f k id a l = some (nodeN id a l) := by
  unfold elem_CheckNode.f nodeN
  rw [name_Check_ev id hi k (by omega)]
  simp only [Option.bind_some]
  cases nameB id with
  | true => simp only [if_true]; rw [rest_ev a l ha hl k hk]; rfl
  | false => simp
theorem refNode_ev (id : ByteArray) (a : List ByteArray) (l : List S98) (hi : id.size ≤ 140737488351232) (ha : okTexts a) (hl : okProps l) (k : Nat) (hk : 1000000000000000 ≤ k) : pleachref25_Node.f k id a l = some (nodeN id a l) := by
  unfold pleachref25_Node.f nodeN
  rw [refIs_ev id hi k (by omega)]
  simp only [Option.bind_some]
  cases nameB id with
  | true => simp only [if_true]; rw [refRest_ev a l ha hl k hk]; rfl
  | false => simp
theorem PutNode_ev (id : ByteArray) (a : List ByteArray) (l : List S98) (hi : id.size ≤ 140737488351232) (ha : okTexts a) (hl : okProps l) (k : Nat) (hk : 1000000000000000 ≤ k) : elem_PutNode.f k id a l = some (nodeB id a l, nodeN id a l) := by
  unfold elem_PutNode.f nodeB
  rw [CheckNode_ev id a l hi ha hl k hk]
  simp only [Option.bind_some]
  by_cases h : nodeN id a l = 0
  · rw [if_pos h, if_pos h, put_ev a l (nodeN_short h) ha hl k (by omega), h]; rfl
  · rw [if_neg h, if_neg h]
theorem refPutNode_ev (id : ByteArray) (a : List ByteArray) (l : List S98) (hi : id.size ≤ 140737488351232) (ha : okTexts a) (hl : okProps l) (k : Nat) (hk : 1000000000000000 ≤ k) : pleachref25_PutNode.f k id a l = some (nodeB id a l) := by
  unfold pleachref25_PutNode.f nodeB
  rw [refNode_ev id a l hi ha hl k hk]
  simp only [Option.bind_some]
  by_cases h : nodeN id a l = 0
  · rw [if_pos h, if_pos h, refPut_ev2 a l (nodeN_short h) ha hl k (by omega)]; rfl
  · rw [if_neg h, if_neg h]
theorem awake_ev (k : Nat) (hk : 1000000000000000 ≤ k) : pleachlaw25_awake.f k = some true := by
  unfold pleachlaw25_awake.f
  rw [PutNode_ev ⟨#[97]⟩ [] [] (by decide) ⟨by simp, by simp⟩ ⟨by simp, by simp⟩ k hk]
  simp only [Option.bind_some]
  have e1 : nodeN ⟨#[97]⟩ [] [] = 0 := by decide +kernel
  have e2 : nodeB ⟨#[97]⟩ [] [] = ⟨#[0, 0]⟩ := by decide +kernel
  rw [e1, e2]
  have e3 : (⟨#[0, 0]⟩ : ByteArray).toList = [0, 0] := by decide +kernel
  rw [if_pos e3]
  rfl
end Go.Proofs.Ytmnadajjgnniaaa.Q
end
section
namespace Go.Proofs.Ytmnadajjgnniaaa.Q
open Go.RowKit Go.Proofs.YtmnadajjgnniaaaW.PrintWords Go.Proofs.Ytmnadajjgnniaaa.MA Go.Proofs.Ytmnadajjgnniaaa.HOpen

theorem catT_size (a : List ByteArray) (l : List S98) (hs : Short a l) : ∀ d i, i + d = a.length → (catT a d i).size ≤ 22 * d
  | 0, i, _ => by simp [catT, ByteArray.size]
  | d + 1, i, h => by
    have := catT_size a l hs d (i + 1) (by omega)
    have := textB_size (textAt a i)
    have := hs.ta i (by omega)
    rw [catT, ByteArray.size_append]
    omega
theorem catP_size (a : List ByteArray) (l : List S98) (hs : Short a l) : ∀ d i, i + d = l.length → (catP l d i).size ≤ 102 * d
  | 0, i, _ => by simp [catP, ByteArray.size]
  | d + 1, i, h => by
    have := catP_size a l hs d (i + 1) (by omega)
    have := propB_size (propAt l i) (hs.tl i (by omega))
    rw [catP, ByteArray.size_append]
    omega
theorem putB_size (a : List ByteArray) (l : List S98) (hs : Short a l) : (putB a l).size ≤ 2000 := by
  unfold putB
  rw [ByteArray.size_append, ByteArray.size_append, ByteArray.size_append]
  have := catT_size a l hs a.length 0 (by omega)
  have := catP_size a l hs l.length 0 (by omega)
  have := numB_size a.length
  have := numB_size l.length
  have := hs.na
  have := hs.nl
  omega
def edgeN (id f t : ByteArray) (a : List ByteArray) (l : List S98) : Int := if nameB id && nameB f && nameB t then restN a l else 2
def edgeB (id f t : ByteArray) (a : List ByteArray) (l : List S98) : ByteArray := if edgeN id f t a l = 0 then (textB f ++ textB t) ++ putB a l else ⟨#[]⟩
theorem edgeN_zero {id f t : ByteArray} {a : List ByteArray} {l : List S98} (h : edgeN id f t a l = 0) : nameB id = true ∧ nameB f = true ∧ nameB t = true ∧ restN a l = 0 := by
  unfold edgeN at h
  split at h
  · rename_i hb
    simp at hb
    exact ⟨hb.1.1, hb.1.2, hb.2, h⟩
  · omega
theorem CheckEdge_ev (id f t : ByteArray) (a : List ByteArray) (l : List S98) (hi : id.size ≤ 140737488351232) (hf : f.size ≤ 140737488351232) (ht : t.size ≤ 140737488351232) (ha : okTexts a) (hl : okProps l) (k : Nat) (hk : 1000000000000000 ≤ k) : elem_CheckEdge.f k id f t a l = some (edgeN id f t a l) := by
  unfold elem_CheckEdge.f edgeN
  rw [name_Check_ev id hi k (by omega), name_Check_ev f hf k (by omega), name_Check_ev t ht k (by omega), rest_ev a l ha hl k hk]
  cases nameB id <;> cases nameB f <;> cases nameB t <;> simp
theorem refEdge_ev (id f t : ByteArray) (a : List ByteArray) (l : List S98) (hi : id.size ≤ 140737488351232) (hf : f.size ≤ 140737488351232) (ht : t.size ≤ 140737488351232) (ha : okTexts a) (hl : okProps l) (k : Nat) (hk : 1000000000000000 ≤ k) : pleachref25_Edge.f k id f t a l = some (edgeN id f t a l) := by
  unfold pleachref25_Edge.f edgeN
  rw [refIs_ev id hi k (by omega), refIs_ev f hf k (by omega), refIs_ev t ht k (by omega), refRest_ev a l ha hl k hk]
  cases nameB id <;> cases nameB f <;> cases nameB t <;> simp
theorem refPutEdge_ev (id f t : ByteArray) (a : List ByteArray) (l : List S98) (hi : id.size ≤ 140737488351232) (hf : f.size ≤ 140737488351232) (ht : t.size ≤ 140737488351232) (ha : okTexts a) (hl : okProps l) (k : Nat) (hk : 1000000000000000 ≤ k) : pleachref25_PutEdge.f k id f t a l = some (edgeB id f t a l) := by
  unfold pleachref25_PutEdge.f edgeB
  rw [refEdge_ev id f t a l hi hf ht ha hl k hk]
  simp only [Option.bind_some]
  by_cases h : edgeN id f t a l = 0
  · obtain ⟨_, h2, h3, h4⟩ := edgeN_zero h
    have hs := Short.of h4
    have s1 := textB_size f
    have s2 := textB_size t
    have s3 := putB_size a l hs
    have z1 := (nameB_size h2).2
    have z2 := (nameB_size h3).2
    rw [if_pos h, if_pos h, refPutText_ev f hf k (by omega), refPutText_ev t ht k (by omega)]
    simp only [Option.bind_some]
    rw [if_pos (by omega), refPut_ev2 a l hs ha hl k (by omega)]
    simp only [Option.bind_some]
    rw [if_pos (by omega)]
  · rw [if_neg h, if_neg h]
end Go.Proofs.Ytmnadajjgnniaaa.Q
end
section
namespace Go.Proofs.Ytmnadajjgnniaaa.Q
open Go.RowKit Go.Proofs.YtmnadajjgnniaaaW.PrintWords Go.Proofs.Ytmnadajjgnniaaa.MA Go.Proofs.Ytmnadajjgnniaaa.HOpen

theorem at_one (s : ByteArray) (a : Nat) (c : Int) (hc : 0 ≤ c ∧ c < 256) : At s a (strOfNums [c]) ↔ a < s.size ∧ bt s (a : Int) = c := by
  have hz : (strOfNums [c]).size = 1 := strOfNums_size [c]
  unfold At
  rw [hz]
  constructor
  · rintro ⟨h1, h2⟩
    refine ⟨by omega, ?_⟩
    rw [← bt_extract s a (by omega), h2]
    have : bt (strOfNums [c]) 0 = c := by
      have := bt_data (strOfNums [c]) 0 (by omega)
      rw [show ((0 : Nat) : Int) = 0 from rfl] at this
      rw [this]
      simp [strOfNums, UInt8.toNat_ofNat']
      omega
    exact this
  · rintro ⟨h1, h2⟩
    refine ⟨by omega, ?_⟩
    have hx := strOfNums_bl (s.extract a (a + 1)) 1 (by rw [ByteArray.size_extract]; omega)
    have hb := bt_extract s a h1
    have e1 : bl (s.extract a (a + 1)) 1 0 = [c] := by
      show [bt (s.extract a (a + 1)) ((0 : Nat) : Int)] = [c]
      rw [show ((0 : Nat) : Int) = 0 from rfl, hb, h2]
    rw [e1] at hx
    rw [hx]
    apply ByteArray.ext
    apply Array.ext'
    rw [extract_toList, extract_toList, extract_toList, List.drop_zero, List.take_take]
    congr 1
    omega
theorem valueP_iff (s : ByteArray) (a : Nat) (x y : Int) (t : ByteArray) (b : Nat) (ha : a ≤ s.size) :
    valueP s a = some ((x, y, t), b) ↔ valueB x y t = true ∧ (-9223372036854775808 ≤ y ∧ y ≤ 9223372036854775807) ∧ b = a + (valB x y t).size ∧ At s a (valB x y t) := by
  have app : strOfNums [1, y] = strOfNums [1] ++ strOfNums [y] := by rw [← strOfNums_append]; rfl
  constructor
  · intro h
    unfold valueP at h
    split at h
    · rename_i h1
      split at h
      · rename_i c1
        split at h
        · rename_i h2
          split at h
          · rename_i hv
            simp only [Option.some.injEq, Prod.mk.injEq] at h
            obtain ⟨⟨rfl, rfl, rfl⟩, rfl⟩ := h
            have hr := bt_range s ((a + 1 : Nat) : Int)
            refine ⟨hv, by omega, ?_⟩
            have hB : valB 1 (bt s ((a + 1 : Nat) : Int)) ⟨#[]⟩ = strOfNums [1] ++ strOfNums [bt s ((a + 1 : Nat) : Int)] := by
              unfold valB; rw [if_pos hv, if_pos rfl, app]
            rw [hB, at_append, ByteArray.size_append, strOfNums_size, strOfNums_size]
            exact ⟨rfl, (at_one s a 1 (by omega)).2 ⟨h1, c1⟩, (at_one s (a + 1) _ (by omega)).2 ⟨h2, rfl⟩⟩
          · cases h
        · cases h
      · rename_i c1
        split at h
        · rename_i c2
          obtain ⟨⟨z, c⟩, g1, g2⟩ := Option.bind_eq_some_iff.1 h
          simp only [Option.some.injEq, Prod.mk.injEq] at g2
          obtain ⟨⟨rfl, rfl, rfl⟩, rfl⟩ := g2
          obtain ⟨k1, k2, k3⟩ := (intP_iff s (a + 1) z c (by omega)).1 g1
          have hv : valueB 2 z ⟨#[]⟩ = true := by simp [valueB, ByteArray.size]
          have hB : valB 2 z ⟨#[]⟩ = strOfNums [2] ++ numB (zig z).toNat := by unfold valB; rw [if_pos hv, if_neg (by omega), if_pos rfl]
          refine ⟨hv, k1, ?_⟩
          rw [hB, at_append, ByteArray.size_append, strOfNums_size]
          exact ⟨by simp; omega, (at_one s a 2 (by omega)).2 ⟨h1, c2⟩, k3⟩
        · rename_i c2
          split at h
          · rename_i c3
            obtain ⟨⟨z, c⟩, g1, g2⟩ := Option.bind_eq_some_iff.1 h
            simp only [Option.some.injEq, Prod.mk.injEq] at g2
            obtain ⟨⟨rfl, rfl, rfl⟩, rfl⟩ := g2
            obtain ⟨k1, k2, k3⟩ := (textP_iff 64 (by omega) s (a + 1) z c (by omega)).1 g1
            have hv : valueB 3 0 z = true := by simp [valueB, k1]
            have hB : valB 3 0 z = strOfNums [3] ++ textB z := by unfold valB; rw [if_pos hv, if_neg (by omega), if_neg (by omega)]
            refine ⟨hv, by omega, ?_⟩
            rw [hB, at_append, ByteArray.size_append, strOfNums_size]
            exact ⟨by simp; omega, (at_one s a 3 (by omega)).2 ⟨h1, c3⟩, k3⟩
          · cases h
    · cases h
  · rintro ⟨hv, hy, rfl, hA⟩
    unfold valB at hA ⊢
    rw [if_pos hv] at hA ⊢
    have hv' := hv
    unfold valueB at hv'
    by_cases c1 : x = 1
    · subst c1
      simp at hv'
      have ht : t = ⟨#[]⟩ := hv'.2.trans rfl
      subst ht
      rw [if_pos rfl, app] at hA
      rw [if_pos rfl]
      obtain ⟨h1, h2⟩ := (at_append _ _ _ _).1 hA
      rw [strOfNums_size] at h2
      obtain ⟨g1, g2⟩ := (at_one s a 1 (by omega)).1 h1
      obtain ⟨k1, k2⟩ := (at_one s (a + 1) y (by omega)).1 h2
      unfold valueP
      rw [if_pos g1, if_pos g2, if_pos k1, k2, if_pos hv, strOfNums_size]
      rfl
    · by_cases c2 : x = 2
      · subst c2
        simp at hv'
        have ht : t = ⟨#[]⟩ := hv'.trans rfl
        subst ht
        rw [if_neg (by omega), if_pos rfl] at hA
        rw [if_neg (by omega), if_pos rfl]
        obtain ⟨h1, h2⟩ := (at_append _ _ _ _).1 hA
        rw [strOfNums_size] at h2
        obtain ⟨g1, g2⟩ := (at_one s a 2 (by omega)).1 h1
        have := (intP_iff s (a + 1) y (a + 1 + (numB (zig y).toNat).size) (by omega)).2 ⟨hy, rfl, h2⟩
        unfold valueP
        rw [if_pos g1, if_neg (by omega), if_pos g2, this, Option.bind_some, ByteArray.size_append, strOfNums_size]
        simp only [List.length_cons, List.length_nil]
        congr 2
        omega
      · have c3 : x = 3 := by simp [c1, c2] at hv'; exact hv'.1.1
        subst c3
        have hy0 : y = 0 := by simp [c1, c2] at hv'; exact hv'.1
        subst hy0
        have h64 : t.size ≤ 64 := by simp [c1, c2] at hv'; exact hv'
        rw [if_neg (by omega), if_neg (by omega)] at hA
        rw [if_neg (by omega), if_neg (by omega)]
        obtain ⟨h1, h2⟩ := (at_append _ _ _ _).1 hA
        rw [strOfNums_size] at h2
        obtain ⟨g1, g2⟩ := (at_one s a 3 (by omega)).1 h1
        have := (textP_iff 64 (by omega) s (a + 1) t (a + 1 + (textB t).size) (by omega)).2 ⟨h64, rfl, h2⟩
        unfold valueP
        rw [if_pos g1, if_neg (by omega), if_neg (by omega), if_pos g2, this, Option.bind_some, ByteArray.size_append, strOfNums_size]
        simp only [List.length_cons, List.length_nil]
        congr 2
        omega
def textsP (most : Nat) (s : ByteArray) : Nat → Nat → Option (List ByteArray × Nat)
  | 0, a => some ([], a)
  | d + 1, a => (textP most s a).bind fun x => (textsP most s d x.2).bind fun r => some (x.1 :: r.1, r.2)
def propP (most : Nat) (s : ByteArray) (a : Nat) : Option (S98 × Nat) := (textP most s a).bind fun x => (valueP s x.2).bind fun v => some ((⟨x.1, ⟨v.1.1, v.1.2.1, v.1.2.2⟩⟩ : S98), v.2)
def propsP (most : Nat) (s : ByteArray) : Nat → Nat → Option (List S98 × Nat)
  | 0, a => some ([], a)
  | d + 1, a => (propP most s a).bind fun x => (propsP most s d x.2).bind fun r => some (x.1 :: r.1, r.2)
def catL : List ByteArray → ByteArray
  | [] => ⟨#[]⟩
  | t :: r => textB t ++ catL r
def catQ : List S98 → ByteArray
  | [] => ⟨#[]⟩
  | p :: r => propB p ++ catQ r
theorem catT_eq (l : List ByteArray) : ∀ d i, i + d = l.length → catT l d i = catL (l.drop i)
  | 0, i, h => by rw [List.drop_eq_nil_of_le (by omega)]; rfl
  | d + 1, i, h => by
    have hi : i < l.length := by omega
    have e : textAt l i = l[i] := by simp [textAt, List.getD_eq_getElem?_getD, List.getElem?_eq_getElem hi]
    rw [List.drop_eq_getElem_cons hi, catT, catT_eq l d (i + 1) (by omega), e]
    rfl
theorem catP_eq (l : List S98) : ∀ d i, i + d = l.length → catP l d i = catQ (l.drop i)
  | 0, i, h => by rw [List.drop_eq_nil_of_le (by omega)]; rfl
  | d + 1, i, h => by
    have hi : i < l.length := by omega
    have e : propAt l i = l[i] := by simp [propAt, List.getD_eq_getElem?_getD, List.getElem?_eq_getElem hi]
    rw [List.drop_eq_getElem_cons hi, catP, catP_eq l d (i + 1) (by omega), e]
    rfl
theorem putB_eq (a : List ByteArray) (l : List S98) : putB a l = numB a.length ++ (catL a ++ (numB l.length ++ catQ l)) := by
  unfold putB
  rw [catT_eq a a.length 0 (by omega), catP_eq l l.length 0 (by omega), List.drop_zero, List.drop_zero]
theorem textsP_iff (most : Nat) (hm : most < 18446744073709551616) (s : ByteArray) : ∀ (d a : Nat) (l : List ByteArray) (b : Nat), a ≤ s.size → (textsP most s d a = some (l, b) ↔ l.length = d ∧ (∀ t ∈ l, t.size ≤ most) ∧ b = a + (catL l).size ∧ At s a (catL l))
  | 0, a, l, b, ha => by
    unfold textsP
    constructor
    · intro h
      simp only [Option.some.injEq, Prod.mk.injEq] at h
      obtain ⟨rfl, rfl⟩ := h
      exact ⟨rfl, by simp, by simp [catL, ByteArray.size], at_nil s a ha⟩
    · rintro ⟨h1, _, h3, _⟩
      have : l = [] := List.eq_nil_of_length_eq_zero h1
      subst this
      simp [catL, ByteArray.size] at h3
      rw [h3]
  | d + 1, a, l, b, ha => by
    unfold textsP
    rw [Option.bind_eq_some_iff]
    constructor
    · rintro ⟨⟨t, c⟩, h1, h2⟩
      obtain ⟨⟨r, e⟩, h3, h4⟩ := Option.bind_eq_some_iff.1 h2
      simp only [Option.some.injEq, Prod.mk.injEq] at h4
      obtain ⟨rfl, rfl⟩ := h4
      obtain ⟨g1, g2, g3⟩ := (textP_iff most hm s a t c ha).1 h1
      have hc : c ≤ s.size := by have := g3.1; omega
      obtain ⟨k1, k2, k3, k4⟩ := (textsP_iff most hm s d c r e hc).1 h3
      refine ⟨by simp [k1], ?_, ?_, ?_⟩
      · intro z hz
        rcases List.mem_cons.1 hz with rfl | hz
        · exact g1
        · exact k2 z hz
      · rw [catL, ByteArray.size_append]; omega
      · rw [catL, at_append, ← g2]; exact ⟨g3, k4⟩
    · rintro ⟨h1, h2, h3, h4⟩
      match l, h1 with
      | t :: r, h1 =>
        rw [catL, at_append] at h4
        rw [catL, ByteArray.size_append] at h3
        have hle := h4.1.1
        refine ⟨(t, a + (textB t).size), (textP_iff most hm s a t _ ha).2 ⟨h2 t (by simp), rfl, h4.1⟩, ?_⟩
        refine Option.bind_eq_some_iff.2 ⟨(r, b), (textsP_iff most hm s d _ r b (by omega)).2 ⟨by simpa using h1, fun z hz => h2 z (by simp [hz]), by simp only; omega, h4.2⟩, rfl⟩
def propOk (most : Nat) (p : S98) : Prop := p.f0.size ≤ most ∧ valOk p = true ∧ (-9223372036854775808 ≤ p.f1.f1 ∧ p.f1.f1 ≤ 9223372036854775807)
theorem propP_iff (most : Nat) (hm : most < 18446744073709551616) (s : ByteArray) (a : Nat) (p : S98) (b : Nat) (ha : a ≤ s.size) : propP most s a = some (p, b) ↔ propOk most p ∧ b = a + (propB p).size ∧ At s a (propB p) := by
  unfold propP propOk propB valOk
  rw [Option.bind_eq_some_iff, at_append, ByteArray.size_append]
  constructor
  · rintro ⟨⟨t, c⟩, h1, h2⟩
    obtain ⟨⟨⟨x, y, z⟩, e⟩, h3, h4⟩ := Option.bind_eq_some_iff.1 h2
    simp only [Option.some.injEq, Prod.mk.injEq] at h4
    obtain ⟨rfl, rfl⟩ := h4
    obtain ⟨g1, g2, g3⟩ := (textP_iff most hm s a t c ha).1 h1
    have hc : c ≤ s.size := by have := g3.1; omega
    obtain ⟨k1, k2, k3, k4⟩ := (valueP_iff s c x y z e hc).1 h3
    subst g2
    exact ⟨⟨g1, k1, k2⟩, by simp only; omega, g3, k4⟩
  · rintro ⟨⟨h1, h2, h3⟩, h4, h5, h6⟩
    have hle := h5.1
    obtain ⟨t, ⟨x, y, z⟩⟩ := p
    exact ⟨(t, a + (textB t).size), (textP_iff most hm s a t _ ha).2 ⟨h1, rfl, h5⟩, Option.bind_eq_some_iff.2 ⟨((x, y, z), b), (valueP_iff s _ x y z b (by simpa using hle)).2 ⟨h2, h3, by simp only at h4 ⊢; omega, h6⟩, rfl⟩⟩
theorem propsP_iff (most : Nat) (hm : most < 18446744073709551616) (s : ByteArray) : ∀ (d a : Nat) (l : List S98) (b : Nat), a ≤ s.size → (propsP most s d a = some (l, b) ↔ l.length = d ∧ (∀ p ∈ l, propOk most p) ∧ b = a + (catQ l).size ∧ At s a (catQ l))
  | 0, a, l, b, ha => by
    unfold propsP
    constructor
    · intro h
      simp only [Option.some.injEq, Prod.mk.injEq] at h
      obtain ⟨rfl, rfl⟩ := h
      exact ⟨rfl, by simp, by simp [catQ, ByteArray.size], at_nil s a ha⟩
    · rintro ⟨h1, _, h3, _⟩
      have : l = [] := List.eq_nil_of_length_eq_zero h1
      subst this
      simp [catQ, ByteArray.size] at h3
      rw [h3]
  | d + 1, a, l, b, ha => by
    unfold propsP
    rw [Option.bind_eq_some_iff]
    constructor
    · rintro ⟨⟨p, c⟩, h1, h2⟩
      obtain ⟨⟨r, e⟩, h3, h4⟩ := Option.bind_eq_some_iff.1 h2
      simp only [Option.some.injEq, Prod.mk.injEq] at h4
      obtain ⟨rfl, rfl⟩ := h4
      obtain ⟨g1, g2, g3⟩ := (propP_iff most hm s a p c ha).1 h1
      have hc : c ≤ s.size := by have := g3.1; omega
      obtain ⟨k1, k2, k3, k4⟩ := (propsP_iff most hm s d c r e hc).1 h3
      refine ⟨by simp [k1], ?_, ?_, ?_⟩
      · intro z hz
        rcases List.mem_cons.1 hz with rfl | hz
        · exact g1
        · exact k2 z hz
      · rw [catQ, ByteArray.size_append]; omega
      · rw [catQ, at_append, ← g2]; exact ⟨g3, k4⟩
    · rintro ⟨h1, h2, h3, h4⟩
      match l, h1 with
      | p :: r, h1 =>
        rw [catQ, at_append] at h4
        rw [catQ, ByteArray.size_append] at h3
        have hle := h4.1.1
        refine ⟨(p, a + (propB p).size), (propP_iff most hm s a p _ ha).2 ⟨h2 p (by simp), rfl, h4.1⟩, ?_⟩
        refine Option.bind_eq_some_iff.2 ⟨(r, b), (propsP_iff most hm s d _ r b (by omega)).2 ⟨by simpa using h1, fun z hz => h2 z (by simp [hz]), by simp only; omega, h4.2⟩, rfl⟩
def readP (most : Nat) (s : ByteArray) (a : Nat) : Option ((List ByteArray × List S98) × Nat) :=
  (numP 8 s a).bind fun n => (textsP most s n.1 n.2).bind fun t => (numP 8 s t.2).bind fun m => (propsP most s m.1 m.2).bind fun p => some ((t.1, p.1), p.2)
structure Fine (most : Nat) (a : List ByteArray) (l : List S98) : Prop where
  na : a.length ≤ 8
  nl : l.length ≤ 8
  ta : ∀ t ∈ a, t.size ≤ most
  tl : ∀ p ∈ l, propOk most p
theorem readP_iff (most : Nat) (hm : most < 18446744073709551616) (s : ByteArray) (a : Nat) (x : List ByteArray) (y : List S98) (b : Nat) (ha : a ≤ s.size) :
    readP most s a = some ((x, y), b) ↔ Fine most x y ∧ b = a + (putB x y).size ∧ At s a (putB x y) := by
  unfold readP
  rw [putB_eq, at_append, at_append, at_append, ByteArray.size_append, ByteArray.size_append, ByteArray.size_append, Option.bind_eq_some_iff]
  constructor
  · rintro ⟨⟨n, c⟩, h1, h2⟩
    obtain ⟨⟨t, e⟩, h3, h4⟩ := Option.bind_eq_some_iff.1 h2
    obtain ⟨⟨m, f⟩, h5, h6⟩ := Option.bind_eq_some_iff.1 h4
    obtain ⟨⟨p, g⟩, h7, h8⟩ := Option.bind_eq_some_iff.1 h6
    simp only [Option.some.injEq, Prod.mk.injEq] at h8
    obtain ⟨⟨rfl, rfl⟩, rfl⟩ := h8
    obtain ⟨a1, a2, a3⟩ := (numP_iff 8 (by omega) s a n c ha).1 h1
    have hc : c ≤ s.size := by have := a3.1; omega
    obtain ⟨b1, b2, b3, b4⟩ := (textsP_iff most hm s n c t e hc).1 h3
    have he : e ≤ s.size := by have := b4.1; omega
    obtain ⟨c1, c2, c3⟩ := (numP_iff 8 (by omega) s e m f he).1 h5
    have hf : f ≤ s.size := by have := c3.1; omega
    obtain ⟨d1, d2, d3, d4⟩ := (propsP_iff most hm s m f p g hf).1 h7
    subst b1 d1
    subst a2
    subst b3
    subst c2
    exact ⟨⟨a1, c1, b2, d2⟩, by omega, a3, b4, c3, d4⟩
  · rintro ⟨hF, hb, h1, h2, h3, h4⟩
    have g1 := h1.1
    have g2 := h2.1
    have g3 := h3.1
    refine ⟨(x.length, _), (numP_iff 8 (by omega) s a _ _ ha).2 ⟨hF.na, rfl, h1⟩, Option.bind_eq_some_iff.2 ⟨(x, _), (textsP_iff most hm s _ _ x _ (by simpa using g1)).2 ⟨rfl, hF.ta, rfl, h2⟩, Option.bind_eq_some_iff.2 ⟨(y.length, _), (numP_iff 8 (by omega) s _ _ _ (by simpa using g2)).2 ⟨hF.nl, rfl, h3⟩, Option.bind_eq_some_iff.2 ⟨(y, b), (propsP_iff most hm s _ _ y b (by simpa using g3)).2 ⟨rfl, hF.tl, by simp only; omega, h4⟩, rfl⟩⟩⟩⟩
end Go.Proofs.Ytmnadajjgnniaaa.Q
end
section
namespace Go.Proofs.Ytmnadajjgnniaaa.Q
open Go.RowKit Go.Proofs.YtmnadajjgnniaaaW.PrintWords Go.Proofs.Ytmnadajjgnniaaa.MA Go.Proofs.Ytmnadajjgnniaaa.HOpen

def tailP (most : Nat) (s : ByteArray) (x : List ByteArray) (d a : Nat) : Option ((List ByteArray × List S98) × Nat) :=
  (textsP most s d a).bind fun t => (numP 8 s t.2).bind fun m => (propsP most s m.1 m.2).bind fun p => some ((x ++ t.1, p.1), p.2)
theorem tailP_succ (most : Nat) (s : ByteArray) (x : List ByteArray) (d a : Nat) : tailP most s x (d + 1) a = (textP most s a).bind fun t => tailP most s (x ++ [t.1]) d t.2 := by
  unfold tailP
  rw [textsP]
  cases textP most s a with
  | none => rfl
  | some t =>
    rw [Option.bind_some, Option.bind_some]
    cases textsP most s d t.2 with
    | none => rfl
    | some r =>
      rw [Option.bind_some, Option.bind_some, Option.bind_some]
      simp
theorem read_l1_err (s : ByteArray) (x : List ByteArray) (m : Nat) (hm : m ≤ 8) (p e : Int) (he : e ≠ 0) : ∀ (d i : Nat) (y : List S98), i + d = m → y.length = i → ∀ k, d + 40 ≤ k →
    ∃ y', elem_read.l1 k x y (m : Int) (i : Int) s p e true = some (x, y', s, p, e, true)
  | 0, i, y, hi, hy, k, hk => by
    obtain ⟨k, rfl⟩ : ∃ m, k = m + 1 := ⟨k - 1, by omega⟩
    rw [elem_read.l1, if_neg (by omega)]
    exact ⟨y, rfl⟩
  | d + 1, i, y, hi, hy, k, hk => by
    obtain ⟨k, rfl⟩ : ∃ m, k = m + 1 := ⟨k - 1, by omega⟩
    rw [elem_read.l1, if_pos (by omega), show (12 : Int) = ((12 : Nat) : Int) from rfl, Text_err k s p e he, Option.bind_some]
    dsimp only
    rw [Read_err k (by omega) s p e he, Option.bind_some]
    dsimp only
    rw [if_pos (by omega), w64 (by omega) (by omega), show (i : Int) + 1 = ((i + 1 : Nat) : Int) by omega]
    exact read_l1_err s x m hm p e he d (i + 1) _ (by omega) (by simp [hy]) k (by omega)
theorem read_l0_err (s : ByteArray) (n : Nat) (hn : n ≤ 8) (p e : Int) (he : e ≠ 0) : ∀ (d i : Nat) (x : List ByteArray), i + d = n → x.length = i → ∀ k, d + 60 ≤ k →
    ∃ x' y', elem_read.l0 k x (n : Int) (i : Int) s p e true = some (x', y', s, p, e, true)
  | 0, i, x, hi, hx, k, hk => by
    obtain ⟨k, rfl⟩ : ∃ m, k = m + 1 := ⟨k - 1, by omega⟩
    rw [elem_read.l0, if_neg (by omega), Num_err k s p e he, Option.bind_some]
    dsimp only
    obtain ⟨y', h⟩ := read_l1_err s x 0 (by omega) p e he 0 0 [] rfl rfl k (by omega)
    exact ⟨x, y', h⟩
  | d + 1, i, x, hi, hx, k, hk => by
    obtain ⟨k, rfl⟩ : ∃ m, k = m + 1 := ⟨k - 1, by omega⟩
    rw [elem_read.l0, if_pos (by omega), Text_err k s p e he, Option.bind_some]
    dsimp only
    rw [if_pos (by omega), w64 (by omega) (by omega), show (i : Int) + 1 = ((i + 1 : Nat) : Int) by omega]
    exact read_l0_err s n hn p e he d (i + 1) _ (by omega) (by simp [hx]) k (by omega)
theorem read_l1 (s : ByteArray) (hs : s.size ≤ 140737488351232) (x : List ByteArray) (m : Nat) (hm : m ≤ 8) : ∀ (d i a : Nat) (y : List S98), i + d = m → y.length = i → a ≤ s.size → ∀ k, d + 50 ≤ k →
    (∃ r b, propsP 12 s d a = some (r, b) ∧ b ≤ s.size ∧ elem_read.l1 k x y (m : Int) (i : Int) s (a : Int) 0 true = some (x, y ++ r, s, (b : Int), 0, true)) ∨
    (propsP 12 s d a = none ∧ ∃ (y' : List S98) (p e : Int), e ≠ 0 ∧ elem_read.l1 k x y (m : Int) (i : Int) s (a : Int) 0 true = some (x, y', s, p, e, true))
  | 0, i, a, y, hi, hy, ha, k, hk => by
    obtain ⟨k, rfl⟩ : ∃ m, k = m + 1 := ⟨k - 1, by omega⟩
    rw [elem_read.l1, if_neg (by omega)]
    exact Or.inl ⟨[], a, rfl, ha, by simp⟩
  | d + 1, i, a, y, hi, hy, ha, k, hk => by
    obtain ⟨k, rfl⟩ : ∃ m, k = m + 1 := ⟨k - 1, by omega⟩
    rw [elem_read.l1, if_pos (by omega), show (12 : Int) = ((12 : Nat) : Int) from rfl, propsP, propP]
    rcases Text_both k (by omega) s hs a ha 12 (by omega) with ⟨t, c, h1, hc, h2, h3⟩ | ⟨h1, p, e, he, h3⟩
    · rw [h3, h1, Option.bind_some, Option.bind_some]
      dsimp only
      rcases Read_both k (by omega) s hs c hc with ⟨u, v, w, b, g1, g2, g3⟩ | ⟨g1, p, e, he, g3⟩
      · rw [g3, g1, Option.bind_some, Option.bind_some, Option.bind_some]
        dsimp only
        rw [if_pos (by omega), w64 (by omega) (by omega), show (i : Int) + 1 = ((i + 1 : Nat) : Int) by omega]
        rcases read_l1 s hs x m hm d (i + 1) b (y ++ [⟨t, ⟨u, v, w⟩⟩]) (by omega) (by simp [hy]) g2 k (by omega) with ⟨r, b', f1, f2, f3⟩ | ⟨f1, y', p, e, he, f3⟩
        · left
          refine ⟨⟨t, ⟨u, v, w⟩⟩ :: r, b', ?_, f2, ?_⟩
          · rw [f1]; rfl
          · rw [f3]; simp
        · right
          exact ⟨by rw [f1]; rfl, y', p, e, he, f3⟩
      · rw [g3, g1, Option.bind_some]
        dsimp only
        rw [if_pos (by omega), w64 (by omega) (by omega), show (i : Int) + 1 = ((i + 1 : Nat) : Int) by omega]
        obtain ⟨y', h⟩ := read_l1_err s x m hm p e he d (i + 1) (y ++ [⟨t, ⟨0, 0, ⟨#[]⟩⟩⟩]) (by omega) (by simp [hy]) k (by omega)
        exact Or.inr ⟨rfl, y', p, e, he, h⟩
    · rw [h3, h1, Option.bind_some]
      dsimp only
      rw [Read_err k (by omega) s p e he, Option.bind_some]
      dsimp only
      rw [if_pos (by omega), w64 (by omega) (by omega), show (i : Int) + 1 = ((i + 1 : Nat) : Int) by omega]
      obtain ⟨y', h⟩ := read_l1_err s x m hm p e he d (i + 1) (y ++ [⟨⟨#[]⟩, ⟨0, 0, ⟨#[]⟩⟩⟩]) (by omega) (by simp [hy]) k (by omega)
      exact Or.inr ⟨rfl, y', p, e, he, h⟩
theorem read_l0 (s : ByteArray) (hs : s.size ≤ 140737488351232) (n : Nat) (hn : n ≤ 8) : ∀ (d i a : Nat) (x : List ByteArray), i + d = n → x.length = i → a ≤ s.size → ∀ k, d + 100 ≤ k →
    (∃ u v b, tailP 12 s x d a = some ((u, v), b) ∧ b ≤ s.size ∧ elem_read.l0 k x (n : Int) (i : Int) s (a : Int) 0 true = some (u, v, s, (b : Int), 0, true)) ∨
    (tailP 12 s x d a = none ∧ ∃ (u : List ByteArray) (v : List S98) (p e : Int), e ≠ 0 ∧ elem_read.l0 k x (n : Int) (i : Int) s (a : Int) 0 true = some (u, v, s, p, e, true))
  | 0, i, a, x, hi, hx, ha, k, hk => by
    obtain ⟨k, rfl⟩ : ∃ m, k = m + 1 := ⟨k - 1, by omega⟩
    rw [elem_read.l0, if_neg (by omega), show (8 : Int) = ((8 : Nat) : Int) from rfl]
    unfold tailP textsP
    rw [Option.bind_some]
    rcases Num_both k (by omega) s hs a ha 8 (by omega) with ⟨m, c, h1, h2⟩ | ⟨h1, e, he, h2⟩
    · obtain ⟨hm, hc⟩ := numP_le ha h1
      rw [h2, h1, Option.bind_some, Option.bind_some]
      dsimp only
      rcases read_l1 s hs x m hm m 0 c [] (by omega) rfl hc k (by omega) with ⟨r, b, f1, f2, f3⟩ | ⟨f1, y', p, e, he, f3⟩
      · left
        refine ⟨x, r, b, ?_, f2, ?_⟩
        · rw [f1]; simp
        · exact f3
      · right
        exact ⟨by rw [f1]; rfl, x, y', p, e, he, f3⟩
    · rw [h2, h1, Option.bind_some]
      dsimp only
      obtain ⟨y', h⟩ := read_l1_err s x 0 (by omega) (a : Int) e he 0 0 [] rfl rfl k (by omega)
      exact Or.inr ⟨rfl, x, y', _, e, he, h⟩
  | d + 1, i, a, x, hi, hx, ha, k, hk => by
    obtain ⟨k, rfl⟩ : ∃ m, k = m + 1 := ⟨k - 1, by omega⟩
    rw [elem_read.l0, if_pos (by omega), show (12 : Int) = ((12 : Nat) : Int) from rfl, tailP_succ]
    rcases Text_both k (by omega) s hs a ha 12 (by omega) with ⟨t, c, h1, hc, h2, h3⟩ | ⟨h1, p, e, he, h3⟩
    · rw [h3, h1, Option.bind_some, Option.bind_some]
      dsimp only
      rw [if_pos (by omega), w64 (by omega) (by omega), show (i : Int) + 1 = ((i + 1 : Nat) : Int) by omega]
      exact read_l0 s hs n hn d (i + 1) c (x ++ [t]) (by omega) (by simp [hx]) hc k (by omega)
    · rw [h3, h1, Option.bind_some]
      dsimp only
      rw [if_pos (by omega), w64 (by omega) (by omega), show (i : Int) + 1 = ((i + 1 : Nat) : Int) by omega]
      obtain ⟨x', y', h⟩ := read_l0_err s n hn p e he d (i + 1) (x ++ [⟨#[]⟩]) (by omega) (by simp [hx]) k (by omega)
      exact Or.inr ⟨rfl, x', y', p, e, he, h⟩
theorem read_both (k : Nat) (hk : 1000 ≤ k) (s : ByteArray) (hs : s.size ≤ 140737488351232) (a : Nat) (ha : a ≤ s.size) :
    (∃ u v b, readP 12 s a = some ((u, v), b) ∧ b ≤ s.size ∧ elem_read.f k s (a : Int) 0 true = some (u, v, s, (b : Int), 0, true)) ∨
    (readP 12 s a = none ∧ ∃ (u : List ByteArray) (v : List S98) (p e : Int), e ≠ 0 ∧ elem_read.f k s (a : Int) 0 true = some (u, v, s, p, e, true)) := by
  unfold elem_read.f readP
  rw [show (8 : Int) = ((8 : Nat) : Int) from rfl]
  rcases Num_both k (by omega) s hs a ha 8 (by omega) with ⟨n, c, h1, h2⟩ | ⟨h1, e, he, h2⟩
  · obtain ⟨hn, hc⟩ := numP_le ha h1
    rw [h2, h1, Option.bind_some, Option.bind_some]
    dsimp only
    have := read_l0 s hs n hn n 0 c [] (by omega) rfl hc k (by omega)
    unfold tailP at this
    simp only [List.nil_append] at this
    exact this
  · rw [h2, h1, Option.bind_some]
    dsimp only
    obtain ⟨x', y', h⟩ := read_l0_err s 0 (by omega) (a : Int) e he 0 0 [] rfl rfl k (by omega)
    exact Or.inr ⟨rfl, x', y', _, e, he, h⟩
theorem read_err (k : Nat) (hk : 1000 ≤ k) (s : ByteArray) (p e : Int) (he : e ≠ 0) : ∃ u v, elem_read.f k s p e true = some (u, v, s, p, e, true) := by
  unfold elem_read.f
  rw [Num_err k s p e he, Option.bind_some]
  dsimp only
  obtain ⟨x', y', h⟩ := read_l0_err s 0 (by omega) p e he 0 0 [] rfl rfl k (by omega)
  exact ⟨x', y', h⟩
theorem rread_l1_err (s : ByteArray) (x : List ByteArray) (m : Nat) (hm : m ≤ 8) (p e : Int) (he : e ≠ 0) : ∀ (d i : Nat) (y : List S98), i + d = m → y.length = i → ∀ k, d + 40 ≤ k →
    ∃ y', pleachref25_read.l1 k x y (m : Int) (i : Int) s p e = some (s, p, e, x, y')
  | 0, i, y, hi, hy, k, hk => by
    obtain ⟨k, rfl⟩ : ∃ m, k = m + 1 := ⟨k - 1, by omega⟩
    rw [pleachref25_read.l1, if_neg (by omega)]
    exact ⟨y, rfl⟩
  | d + 1, i, y, hi, hy, k, hk => by
    obtain ⟨k, rfl⟩ : ∃ m, k = m + 1 := ⟨k - 1, by omega⟩
    rw [pleachref25_read.l1, if_pos (by omega), rText_err k s p e he, Option.bind_some]
    dsimp only
    rw [rRead_err k (by omega) s p e he, Option.bind_some]
    dsimp only
    rw [if_pos (by omega), w64 (by omega) (by omega), show (i : Int) + 1 = ((i + 1 : Nat) : Int) by omega]
    exact rread_l1_err s x m hm p e he d (i + 1) _ (by omega) (by simp [hy]) k (by omega)
theorem rread_l0_err (s : ByteArray) (n : Nat) (hn : n ≤ 8) (p e : Int) (he : e ≠ 0) : ∀ (d i : Nat) (x : List ByteArray), i + d = n → x.length = i → ∀ k, d + 60 ≤ k →
    ∃ x' y', pleachref25_read.l0 k x (n : Int) (i : Int) s p e = some (s, p, e, x', y')
  | 0, i, x, hi, hx, k, hk => by
    obtain ⟨k, rfl⟩ : ∃ m, k = m + 1 := ⟨k - 1, by omega⟩
    rw [pleachref25_read.l0, if_neg (by omega), rNum_err k s p e he, Option.bind_some]
    dsimp only
    obtain ⟨y', h⟩ := rread_l1_err s x 0 (by omega) p e he 0 0 [] rfl rfl k (by omega)
    exact ⟨x, y', h⟩
  | d + 1, i, x, hi, hx, k, hk => by
    obtain ⟨k, rfl⟩ : ∃ m, k = m + 1 := ⟨k - 1, by omega⟩
    rw [pleachref25_read.l0, if_pos (by omega), rText_err k s p e he, Option.bind_some]
    dsimp only
    rw [if_pos (by omega), w64 (by omega) (by omega), show (i : Int) + 1 = ((i + 1 : Nat) : Int) by omega]
    exact rread_l0_err s n hn p e he d (i + 1) _ (by omega) (by simp [hx]) k (by omega)
theorem rread_l1 (s : ByteArray) (hs : s.size ≤ 140737488351232) (x : List ByteArray) (m : Nat) (hm : m ≤ 8) : ∀ (d i a : Nat) (y : List S98), i + d = m → y.length = i → a ≤ s.size → ∀ k, d + 2000000000000001 ≤ k →
    (∃ r b, propsP 100 s d a = some (r, b) ∧ b ≤ s.size ∧ pleachref25_read.l1 k x y (m : Int) (i : Int) s (a : Int) 0 = some (s, (b : Int), 0, x, y ++ r)) ∨
    (propsP 100 s d a = none ∧ ∃ (y' : List S98) (p e : Int), e ≠ 0 ∧ pleachref25_read.l1 k x y (m : Int) (i : Int) s (a : Int) 0 = some (s, p, e, x, y'))
  | 0, i, a, y, hi, hy, ha, k, hk => by
    obtain ⟨k, rfl⟩ : ∃ m, k = m + 1 := ⟨k - 1, by omega⟩
    rw [pleachref25_read.l1, if_neg (by omega)]
    exact Or.inl ⟨[], a, rfl, ha, by simp⟩
  | d + 1, i, a, y, hi, hy, ha, k, hk => by
    obtain ⟨k, rfl⟩ : ∃ m, k = m + 1 := ⟨k - 1, by omega⟩
    rw [pleachref25_read.l1, if_pos (by omega), show (100 : Int) = ((100 : Nat) : Int) from rfl, propsP, propP]
    rcases rText_both k (by omega) s hs a ha 100 (by omega) with ⟨t, c, h1, hc, h2, h3⟩ | ⟨h1, p, e, he, h3⟩
    · rw [h3, h1, Option.bind_some, Option.bind_some]
      dsimp only
      rcases rRead_both k (by omega) s hs c hc with ⟨u, v, w, b, g1, g2, g3⟩ | ⟨g1, p, e, he, g3⟩
      · rw [g3, g1, Option.bind_some, Option.bind_some, Option.bind_some]
        dsimp only
        rw [if_pos (by omega), w64 (by omega) (by omega), show (i : Int) + 1 = ((i + 1 : Nat) : Int) by omega]
        rcases rread_l1 s hs x m hm d (i + 1) b (y ++ [⟨t, ⟨u, v, w⟩⟩]) (by omega) (by simp [hy]) g2 k (by omega) with ⟨r, b', f1, f2, f3⟩ | ⟨f1, y', p, e, he, f3⟩
        · left
          refine ⟨⟨t, ⟨u, v, w⟩⟩ :: r, b', ?_, f2, ?_⟩
          · rw [f1]; rfl
          · rw [f3]; simp
        · right
          exact ⟨by rw [f1]; rfl, y', p, e, he, f3⟩
      · rw [g3, g1, Option.bind_some]
        dsimp only
        rw [if_pos (by omega), w64 (by omega) (by omega), show (i : Int) + 1 = ((i + 1 : Nat) : Int) by omega]
        obtain ⟨y', h⟩ := rread_l1_err s x m hm p e he d (i + 1) (y ++ [⟨t, ⟨0, 0, ⟨#[]⟩⟩⟩]) (by omega) (by simp [hy]) k (by omega)
        exact Or.inr ⟨rfl, y', p, e, he, h⟩
    · rw [h3, h1, Option.bind_some]
      dsimp only
      rw [rRead_err k (by omega) s p e he, Option.bind_some]
      dsimp only
      rw [if_pos (by omega), w64 (by omega) (by omega), show (i : Int) + 1 = ((i + 1 : Nat) : Int) by omega]
      obtain ⟨y', h⟩ := rread_l1_err s x m hm p e he d (i + 1) (y ++ [⟨⟨#[]⟩, ⟨0, 0, ⟨#[]⟩⟩⟩]) (by omega) (by simp [hy]) k (by omega)
      exact Or.inr ⟨rfl, y', p, e, he, h⟩
theorem rread_l0 (s : ByteArray) (hs : s.size ≤ 140737488351232) (n : Nat) (hn : n ≤ 8) : ∀ (d i a : Nat) (x : List ByteArray), i + d = n → x.length = i → a ≤ s.size → ∀ k, d + 2000000000000100 ≤ k →
    (∃ u v b, tailP 100 s x d a = some ((u, v), b) ∧ b ≤ s.size ∧ pleachref25_read.l0 k x (n : Int) (i : Int) s (a : Int) 0 = some (s, (b : Int), 0, u, v)) ∨
    (tailP 100 s x d a = none ∧ ∃ (u : List ByteArray) (v : List S98) (p e : Int), e ≠ 0 ∧ pleachref25_read.l0 k x (n : Int) (i : Int) s (a : Int) 0 = some (s, p, e, u, v))
  | 0, i, a, x, hi, hx, ha, k, hk => by
    obtain ⟨k, rfl⟩ : ∃ m, k = m + 1 := ⟨k - 1, by omega⟩
    rw [pleachref25_read.l0, if_neg (by omega), show (8 : Int) = ((8 : Nat) : Int) from rfl]
    unfold tailP textsP
    rw [Option.bind_some]
    rcases rNum_both k (by omega) s hs a ha 8 (by omega) with ⟨m, c, h1, h2⟩ | ⟨h1, e, he, h2⟩
    · obtain ⟨hm, hc⟩ := numP_le ha h1
      rw [h2, h1, Option.bind_some, Option.bind_some]
      dsimp only
      rcases rread_l1 s hs x m hm m 0 c [] (by omega) rfl hc k (by omega) with ⟨r, b, f1, f2, f3⟩ | ⟨f1, y', p, e, he, f3⟩
      · left
        refine ⟨x, r, b, ?_, f2, ?_⟩
        · rw [f1]; simp
        · exact f3
      · right
        exact ⟨by rw [f1]; rfl, x, y', p, e, he, f3⟩
    · rw [h2, h1, Option.bind_some]
      dsimp only
      obtain ⟨y', h⟩ := rread_l1_err s x 0 (by omega) (a : Int) e he 0 0 [] rfl rfl k (by omega)
      exact Or.inr ⟨rfl, x, y', _, e, he, h⟩
  | d + 1, i, a, x, hi, hx, ha, k, hk => by
    obtain ⟨k, rfl⟩ : ∃ m, k = m + 1 := ⟨k - 1, by omega⟩
    rw [pleachref25_read.l0, if_pos (by omega), show (100 : Int) = ((100 : Nat) : Int) from rfl, tailP_succ]
    rcases rText_both k (by omega) s hs a ha 100 (by omega) with ⟨t, c, h1, hc, h2, h3⟩ | ⟨h1, p, e, he, h3⟩
    · rw [h3, h1, Option.bind_some, Option.bind_some]
      dsimp only
      rw [if_pos (by omega), w64 (by omega) (by omega), show (i : Int) + 1 = ((i + 1 : Nat) : Int) by omega]
      exact rread_l0 s hs n hn d (i + 1) c (x ++ [t]) (by omega) (by simp [hx]) hc k (by omega)
    · rw [h3, h1, Option.bind_some]
      dsimp only
      rw [if_pos (by omega), w64 (by omega) (by omega), show (i : Int) + 1 = ((i + 1 : Nat) : Int) by omega]
      obtain ⟨x', y', h⟩ := rread_l0_err s n hn p e he d (i + 1) (x ++ [⟨#[]⟩]) (by omega) (by simp [hx]) k (by omega)
      exact Or.inr ⟨rfl, x', y', p, e, he, h⟩
theorem rread_both (k : Nat) (hk : 3000000000000000 ≤ k) (s : ByteArray) (hs : s.size ≤ 140737488351232) (a : Nat) (ha : a ≤ s.size) :
    (∃ u v b, readP 100 s a = some ((u, v), b) ∧ b ≤ s.size ∧ pleachref25_read.f k s (a : Int) 0 = some (s, (b : Int), 0, u, v)) ∨
    (readP 100 s a = none ∧ ∃ (u : List ByteArray) (v : List S98) (p e : Int), e ≠ 0 ∧ pleachref25_read.f k s (a : Int) 0 = some (s, p, e, u, v)) := by
  unfold pleachref25_read.f readP
  rw [show (8 : Int) = ((8 : Nat) : Int) from rfl]
  rcases rNum_both k (by omega) s hs a ha 8 (by omega) with ⟨n, c, h1, h2⟩ | ⟨h1, e, he, h2⟩
  · obtain ⟨hn, hc⟩ := numP_le ha h1
    rw [h2, h1, Option.bind_some, Option.bind_some]
    dsimp only
    have := rread_l0 s hs n hn n 0 c [] (by omega) rfl hc k (by omega)
    unfold tailP at this
    simp only [List.nil_append] at this
    exact this
  · rw [h2, h1, Option.bind_some]
    dsimp only
    obtain ⟨x', y', h⟩ := rread_l0_err s 0 (by omega) (a : Int) e he 0 0 [] rfl rfl k (by omega)
    exact Or.inr ⟨rfl, x', y', _, e, he, h⟩
theorem rread_err (k : Nat) (hk : 1000 ≤ k) (s : ByteArray) (p e : Int) (he : e ≠ 0) : ∃ u v, pleachref25_read.f k s p e = some (s, p, e, u, v) := by
  unfold pleachref25_read.f
  rw [rNum_err k s p e he, Option.bind_some]
  dsimp only
  obtain ⟨x', y', h⟩ := rread_l0_err s 0 (by omega) p e he 0 0 [] rfl rfl k (by omega)
  exact ⟨x', y', h⟩
theorem readP_most (s : ByteArray) (a : Nat) (ha : a ≤ s.size) (m1 m2 : Nat) (h12 : m1 ≤ m2) (h2 : m2 < 18446744073709551616) (x : List ByteArray) (y : List S98) (b : Nat) (h : readP m1 s a = some ((x, y), b)) : readP m2 s a = some ((x, y), b) := by
  obtain ⟨g1, g2, g3⟩ := (readP_iff m1 (by omega) s a x y b ha).1 h
  exact (readP_iff m2 h2 s a x y b ha).2 ⟨⟨g1.na, g1.nl, fun t ht => Nat.le_trans (g1.ta t ht) h12, fun p hp => ⟨Nat.le_trans (g1.tl p hp).1 h12, (g1.tl p hp).2⟩⟩, g2, g3⟩
end Go.Proofs.Ytmnadajjgnniaaa.Q
end
section
namespace Go.Proofs.Ytmnadajjgnniaaa.Q
open Go.RowKit Go.Proofs.YtmnadajjgnniaaaW.PrintWords Go.Proofs.Ytmnadajjgnniaaa.MA Go.Proofs.Ytmnadajjgnniaaa.HOpen

def Ranged (y : List S98) : Prop := ∀ p ∈ y, -9223372036854775808 ≤ p.f1.f1 ∧ p.f1.f1 ≤ 9223372036854775807
theorem valueB_kind {a b : Int} {t : ByteArray} (h : valueB a b t = true) : 1 ≤ a ∧ a ≤ 3 := by
  unfold valueB at h
  simp only [Bool.or_eq_true, Bool.and_eq_true, beq_iff_eq, decide_eq_true_eq] at h
  omega
theorem valueB_size {a b : Int} {t : ByteArray} (h : valueB a b t = true) : t.size ≤ 64 := by
  unfold valueB at h
  simp only [Bool.or_eq_true, Bool.and_eq_true, beq_iff_eq, decide_eq_true_eq] at h
  omega
theorem i64_min : IntKind.i64.min = -9223372036854775808 := by decide
theorem i64_max : IntKind.i64.max = 9223372036854775807 := by decide
theorem GProp_of {p : S98} (h0 : p.f0.size ≤ 140737488351232) (h : valOk p = true) (hr : -9223372036854775808 ≤ p.f1.f1 ∧ p.f1.f1 ≤ 9223372036854775807) : G98 p := by
  have h1 := valueB_kind h
  have h2 := valueB_size h
  refine ⟨h0, ?_, ?_, by omega⟩
  · simp [Lit.wf, i64_min, i64_max]
    omega
  · simp [Lit.wf, i64_min, i64_max]
    omega
theorem Fine.texts {m : Nat} (hm : m ≤ 100) {x : List ByteArray} {y : List S98} (h : Fine m x y) : okTexts x := ⟨by have := h.na; omega, fun t ht => by have := h.ta t ht; omega⟩
theorem Fine.props {m : Nat} (hm : m ≤ 100) {x : List ByteArray} {y : List S98} (h : Fine m x y) : okProps y := ⟨by have := h.nl; omega, fun p hp => GProp_of (by have := (h.tl p hp).1; omega) (h.tl p hp).2.1 (h.tl p hp).2.2⟩
theorem Fine.ranged {m : Nat} {x : List ByteArray} {y : List S98} (h : Fine m x y) : Ranged y := fun p hp => (h.tl p hp).2.2
theorem textAt_get (l : List ByteArray) (i : Nat) (hi : i < l.length) : textAt l i = l[i] := by simp [textAt, List.getD_eq_getElem?_getD, List.getElem?_eq_getElem hi]
theorem propAt_get (l : List S98) (i : Nat) (hi : i < l.length) : propAt l i = l[i] := by simp [propAt, List.getD_eq_getElem?_getD, List.getElem?_eq_getElem hi]
theorem fine_rest {x : List ByteArray} {y : List S98} (h : restN x y = 0) (hr : Ranged y) : Fine 12 x y := by
  obtain ⟨h1, h2, h3⟩ := restN_zero h
  refine ⟨h1, propsN_len h3, ?_, ?_⟩
  · intro t ht
    obtain ⟨i, hi, rfl⟩ := List.mem_iff_getElem.1 ht
    have := nameB_size (rowN_zero h2 hi).1
    rw [textAt_get x i hi] at this
    omega
  · intro p hp
    have hr' := hr p hp
    obtain ⟨i, hi, rfl⟩ := List.mem_iff_getElem.1 hp
    have g := propsN_zero h3 hi
    rw [propAt_get y i hi] at g
    have := nameB_size g.1
    exact ⟨by omega, g.2.1, hr'⟩
theorem nodeN_rest {id : ByteArray} {x : List ByteArray} {y : List S98} (h : nodeN id x y = 0) : nameB id = true ∧ restN x y = 0 := by
  unfold nodeN at h
  split at h
  · rename_i g; exact ⟨g, h⟩
  · omega
def takeN (id s : ByteArray) : Option (List ByteArray × List S98) := (readP 12 s 0).bind fun r => if nodeN id r.1.1 r.1.2 = 0 ∧ r.2 = s.size then some r.1 else none
theorem takeN_iff (id s : ByteArray) (x : List ByteArray) (y : List S98) : takeN id s = some (x, y) ↔ nodeN id x y = 0 ∧ Ranged y ∧ s = putB x y := by
  unfold takeN
  rw [Option.bind_eq_some_iff]
  constructor
  · rintro ⟨⟨⟨u, v⟩, b⟩, h1, h2⟩
    split at h2
    · rename_i h3
      simp only [Option.some.injEq, Prod.mk.injEq] at h2
      obtain ⟨rfl, rfl⟩ := h2
      obtain ⟨g1, g2, g3⟩ := (readP_iff 12 (by omega) s 0 u v b (by omega)).1 h1
      have h5 := h3.2
      simp only at h5 g2
      exact ⟨h3.1, g1.ranged, (at_all g3 (by omega)).symm⟩
    · cases h2
  · rintro ⟨h1, h2, rfl⟩
    refine ⟨((x, y), (putB x y).size), (readP_iff 12 (by omega) _ 0 x y _ (by omega)).2 ⟨fine_rest (nodeN_rest h1).2 h2, by omega, at_whole _⟩, ?_⟩
    rw [if_pos ⟨h1, rfl⟩]
theorem TakeNode_both (k : Nat) (hk : 1000000000000000 ≤ k) (id s : ByteArray) (hi : id.size ≤ 140737488351232) (hs : s.size ≤ 140737488351232) :
    (∃ x y, takeN id s = some (x, y) ∧ okTexts x ∧ okProps y ∧ elem_TakeNode.f k id s = some (id, x, y, 0)) ∨
    (takeN id s = none ∧ elem_TakeNode.f k id s = some (⟨#[]⟩, [], [], 3)) := by
  unfold elem_TakeNode.f takeN scan_New.f
  rw [Option.bind_some]
  dsimp only
  rcases read_both k (by omega) s hs 0 (by omega) with ⟨u, v, b, h1, hb, h2⟩ | ⟨h1, u, v, p, e, he, h2⟩
  · rw [show ((0 : Nat) : Int) = 0 from rfl] at h2
    rw [h2, h1, Option.bind_some, Option.bind_some]
    dsimp only
    have hF := ((readP_iff 12 (by omega) s 0 u v b (by omega)).1 h1).1
    unfold scan_Scan_End.f
    rw [if_pos rfl, if_pos rfl]
    by_cases hb' : b = s.size
    · rw [if_neg (show ¬ ((b : Int) < (s.size : Int)) by omega), Option.bind_some]
      dsimp only
      rw [if_pos rfl, CheckNode_ev id u v hi (hF.texts (by omega)) (hF.props (by omega)) k hk, Option.bind_some]
      by_cases hn : nodeN id u v = 0
      · left
        refine ⟨u, v, ?_, hF.texts (by omega), hF.props (by omega), ?_⟩
        · rw [if_pos ⟨hn, hb'⟩]
        · rw [if_pos hn]
      · right
        refine ⟨?_, ?_⟩
        · rw [if_neg (fun h => hn h.1)]
        · rw [if_neg hn]
    · rw [if_pos (show ((b : Int) < (s.size : Int)) by omega), Option.bind_some]
      dsimp only
      rw [if_neg (show ¬ ((3 : Int) = 0) by decide)]
      exact Or.inr ⟨by rw [if_neg (fun h => hb' h.2)], rfl⟩
  · rw [show ((0 : Nat) : Int) = 0 from rfl] at h2
    rw [h2, h1, Option.bind_some]
    dsimp only
    unfold scan_Scan_End.f
    rw [if_pos rfl, if_neg he, Option.bind_some]
    dsimp only
    rw [if_neg he]
    exact Or.inr ⟨rfl, rfl⟩
theorem refTakeNode_both (k : Nat) (hk : 3000000000000000 ≤ k) (id s : ByteArray) (hi : id.size ≤ 140737488351232) (hs : s.size ≤ 140737488351232) :
    (∃ x y, takeN id s = some (x, y) ∧ okTexts x ∧ okProps y ∧ pleachref25_TakeNode.f k id s = some (id, x, y, true)) ∨
    (takeN id s = none ∧ pleachref25_TakeNode.f k id s = some (⟨#[]⟩, [], [], false)) := by
  unfold pleachref25_TakeNode.f
  rcases rread_both k (by omega) s hs 0 (by omega) with ⟨u, v, b, h1, hb, h2⟩ | ⟨h1, u, v, p, e, he, h2⟩
  · rw [show ((0 : Nat) : Int) = 0 from rfl] at h2
    rw [h2, Option.bind_some]
    dsimp only
    obtain ⟨hF, g2, g3⟩ := (readP_iff 100 (by omega) s 0 u v b (by omega)).1 h1
    rw [if_pos rfl, refNode_ev id u v hi (hF.texts (by omega)) (hF.props (by omega)) k (by omega), Option.bind_some]
    have uniq : ∀ x y, takeN id s = some (x, y) → x = u ∧ y = v := by
      intro x y h
      obtain ⟨f1, f2, f3⟩ := (takeN_iff id s x y).1 h
      have e1 := (readP_iff 12 (by omega) s 0 x y (putB x y).size (by omega)).2 ⟨fine_rest (nodeN_rest f1).2 f2, by omega, by rw [← f3]; exact at_whole s⟩
      have e2 := readP_most s 0 (by omega) 12 100 (by omega) (by omega) x y _ e1
      rw [h1] at e2
      simp only [Option.some.injEq, Prod.mk.injEq] at e2
      exact ⟨e2.1.1.symm, e2.1.2.symm⟩
    have no (hx : ¬ (nodeN id u v = 0 ∧ putB u v = s)) : takeN id s = none := by
      cases ht : takeN id s with
      | none => rfl
      | some r =>
        obtain ⟨x, y⟩ := r
        obtain ⟨rfl, rfl⟩ := uniq x y ht
        obtain ⟨f1, f2, f3⟩ := (takeN_iff id s x y).1 ht
        exact absurd ⟨f1, f3.symm⟩ hx
    by_cases hn : nodeN id u v = 0
    · rw [if_pos hn, refPutNode_ev id u v hi (hF.texts (by omega)) (hF.props (by omega)) k (by omega), Option.bind_some]
      have hB : nodeB id u v = putB u v := by unfold nodeB; rw [if_pos hn]
      rw [hB]
      by_cases hp : putB u v = s
      · left
        refine ⟨u, v, (takeN_iff id s u v).2 ⟨hn, hF.ranged, hp.symm⟩, hF.texts (by omega), hF.props (by omega), ?_⟩
        rw [if_pos (by rw [hp])]
      · right
        refine ⟨no (fun h => hp h.2), ?_⟩
        rw [if_neg (fun h => hp (bytes_ext h))]
    · right
      exact ⟨no (fun h => hn h.1), by rw [if_neg hn]⟩
  · rw [show ((0 : Nat) : Int) = 0 from rfl] at h2
    rw [h2, Option.bind_some]
    dsimp only
    rw [if_neg he]
    refine Or.inr ⟨?_, rfl⟩
    cases ht : takeN id s with
    | none => rfl
    | some r =>
      obtain ⟨x, y⟩ := r
      obtain ⟨f1, f2, f3⟩ := (takeN_iff id s x y).1 ht
      have e1 := (readP_iff 12 (by omega) s 0 x y (putB x y).size (by omega)).2 ⟨fine_rest (nodeN_rest f1).2 f2, by omega, by rw [← f3]; exact at_whole s⟩
      have e2 := readP_most s 0 (by omega) 12 100 (by omega) (by omega) x y _ e1
      rw [h1] at e2
      cases e2
def edgeP (most : Nat) (s : ByteArray) : Option ((ByteArray × ByteArray × List ByteArray × List S98) × Nat) :=
  (textP most s 0).bind fun f => (textP most s f.2).bind fun t => (readP most s t.2).bind fun r => some ((f.1, t.1, r.1.1, r.1.2), r.2)
theorem edgeP_iff (most : Nat) (hm : most < 18446744073709551616) (s f t : ByteArray) (x : List ByteArray) (y : List S98) (b : Nat) :
    edgeP most s = some ((f, t, x, y), b) ↔ (f.size ≤ most ∧ t.size ≤ most ∧ Fine most x y) ∧ b = ((textB f ++ textB t) ++ putB x y).size ∧ At s 0 ((textB f ++ textB t) ++ putB x y) := by
  unfold edgeP
  rw [at_append, at_append, ByteArray.size_append, ByteArray.size_append, Option.bind_eq_some_iff]
  constructor
  · rintro ⟨⟨f', c⟩, h1, h2⟩
    obtain ⟨⟨t', d⟩, h3, h4⟩ := Option.bind_eq_some_iff.1 h2
    obtain ⟨⟨⟨x', y'⟩, e⟩, h5, h6⟩ := Option.bind_eq_some_iff.1 h4
    simp only [Option.some.injEq, Prod.mk.injEq] at h6
    obtain ⟨⟨rfl, rfl, rfl, rfl⟩, rfl⟩ := h6
    obtain ⟨a1, a2, a3⟩ := (textP_iff most hm s 0 f' c (by omega)).1 h1
    have hc : c ≤ s.size := by have := a3.1; omega
    obtain ⟨b1, b2, b3⟩ := (textP_iff most hm s c t' d hc).1 h3
    have hd : d ≤ s.size := by have := b3.1; omega
    obtain ⟨c1, c2, c3⟩ := (readP_iff most hm s d x' y' e hd).1 h5
    subst a2
    subst b2
    rw [Nat.zero_add] at b3
    rw [Nat.zero_add] at c3
    exact ⟨⟨a1, b1, c1⟩, by omega, ⟨a3, by rw [Nat.zero_add]; exact b3⟩, by rw [Nat.zero_add]; exact c3⟩
  · rintro ⟨⟨h1, h2, h3⟩, h4, ⟨h5, h6⟩, h7⟩
    have q1 := h5.1
    have q2 := h6.1
    rw [Nat.zero_add] at h6 h7
    refine ⟨(f, _), (textP_iff most hm s 0 f _ (by omega)).2 ⟨h1, rfl, h5⟩, Option.bind_eq_some_iff.2 ⟨(t, _), (textP_iff most hm s _ t _ (by simp only; omega)).2 ⟨h2, rfl, by simpa using h6⟩, Option.bind_eq_some_iff.2 ⟨((x, y), b), (readP_iff most hm s _ x y b (by simp only; omega)).2 ⟨h3, by simp only; omega, by simpa using h7⟩, rfl⟩⟩⟩
theorem edgeP_most (s : ByteArray) (m1 m2 : Nat) (h12 : m1 ≤ m2) (h2 : m2 < 18446744073709551616) (f t : ByteArray) (x : List ByteArray) (y : List S98) (b : Nat) (h : edgeP m1 s = some ((f, t, x, y), b)) : edgeP m2 s = some ((f, t, x, y), b) := by
  obtain ⟨⟨q1, q2, g1⟩, g2, g3⟩ := (edgeP_iff m1 (by omega) s f t x y b).1 h
  exact (edgeP_iff m2 h2 s f t x y b).2 ⟨⟨by omega, by omega, ⟨g1.na, g1.nl, fun t ht => Nat.le_trans (g1.ta t ht) h12, fun p hp => ⟨Nat.le_trans (g1.tl p hp).1 h12, (g1.tl p hp).2⟩⟩⟩, g2, g3⟩
def takeE (id s : ByteArray) : Option (ByteArray × ByteArray × List ByteArray × List S98) := (edgeP 12 s).bind fun r => if edgeN id r.1.1 r.1.2.1 r.1.2.2.1 r.1.2.2.2 = 0 ∧ r.2 = s.size then some r.1 else none
theorem takeE_iff (id s f t : ByteArray) (x : List ByteArray) (y : List S98) : takeE id s = some (f, t, x, y) ↔ edgeN id f t x y = 0 ∧ Ranged y ∧ s = (textB f ++ textB t) ++ putB x y := by
  unfold takeE
  rw [Option.bind_eq_some_iff]
  constructor
  · rintro ⟨⟨⟨f', t', u, v⟩, b⟩, h1, h2⟩
    split at h2
    · rename_i h3
      simp only [Option.some.injEq, Prod.mk.injEq] at h2
      obtain ⟨rfl, rfl, rfl, rfl⟩ := h2
      obtain ⟨⟨_, _, g1⟩, g2, g3⟩ := (edgeP_iff 12 (by omega) s f' t' u v b).1 h1
      have h5 := h3.2
      simp only at h5
      exact ⟨h3.1, g1.ranged, (at_all g3 (by omega)).symm⟩
    · cases h2
  · rintro ⟨h1, h2, rfl⟩
    have hz := edgeN_zero h1
    have e1 := nameB_size hz.2.1
    have e2 := nameB_size hz.2.2.1
    refine ⟨((f, t, x, y), ((textB f ++ textB t) ++ putB x y).size), (edgeP_iff 12 (by omega) _ f t x y _).2 ⟨⟨by omega, by omega, fine_rest hz.2.2.2 h2⟩, rfl, at_whole _⟩, ?_⟩
    rw [if_pos ⟨h1, rfl⟩]
theorem TakeEdge_both (k : Nat) (hk : 1000000000000000 ≤ k) (id s : ByteArray) (hi : id.size ≤ 140737488351232) (hs : s.size ≤ 140737488351232) :
    (∃ f t x y, takeE id s = some (f, t, x, y) ∧ f.size ≤ 12 ∧ t.size ≤ 12 ∧ okTexts x ∧ okProps y ∧ elem_TakeEdge.f k id s = some (id, f, t, x, y, 0)) ∨
    (takeE id s = none ∧ elem_TakeEdge.f k id s = some (⟨#[]⟩, ⟨#[]⟩, ⟨#[]⟩, [], [], 3)) := by
  unfold elem_TakeEdge.f takeE edgeP scan_New.f
  rw [Option.bind_some]
  dsimp only
  have bad : ∀ (f t : ByteArray) (u : List ByteArray) (v : List S98) (p e : Int), e ≠ 0 → ((scan_Scan_End.f s p e true).bind fun bt118 => (if bt118.1 = 0 then ((elem_CheckEdge.f k id f t u v).bind fun t133 => (if t133 = 0 then (some (id, f, t, u, v, (0 : Int))) else (some ((⟨#[]⟩ : ByteArray), (⟨#[]⟩ : ByteArray), (⟨#[]⟩ : ByteArray), ([] : List ByteArray), ([] : List S98), 3)))) else (some ((⟨#[]⟩ : ByteArray), (⟨#[]⟩ : ByteArray), (⟨#[]⟩ : ByteArray), ([] : List ByteArray), ([] : List S98), 3)))) = some (⟨#[]⟩, ⟨#[]⟩, ⟨#[]⟩, [], [], 3) := by
    intro f t u v p e he
    unfold scan_Scan_End.f
    rw [if_pos rfl, if_neg he, Option.bind_some]
    dsimp only
    rw [if_neg he]
  rcases Text_both k (by omega) s hs 0 (by omega) 12 (by omega) with ⟨f, c, h1, hc, hf, h3⟩ | ⟨h1, p, e, he, h3⟩
  · rw [show ((0 : Nat) : Int) = 0 from rfl, show ((12 : Nat) : Int) = 12 from rfl] at h3
    rw [h3, h1, Option.bind_some, Option.bind_some]
    dsimp only
    rcases Text_both k (by omega) s hs c hc 12 (by omega) with ⟨t, d, g1, hd, ht, g3⟩ | ⟨g1, p, e, he, g3⟩
    · rw [show ((12 : Nat) : Int) = 12 from rfl] at g3
      rw [g3, g1, Option.bind_some, Option.bind_some]
      dsimp only
      rcases read_both k (by omega) s hs d hd with ⟨u, v, b, k1, hb, k2⟩ | ⟨k1, u, v, p, e, he, k2⟩
      · rw [k2, k1, Option.bind_some, Option.bind_some, Option.bind_some]
        dsimp only
        have hF := ((readP_iff 12 (by omega) s d u v b hd).1 k1).1
        unfold scan_Scan_End.f
        rw [if_pos rfl, if_pos rfl]
        by_cases hb' : b = s.size
        · rw [if_neg (show ¬ ((b : Int) < (s.size : Int)) by omega), Option.bind_some]
          dsimp only
          rw [if_pos rfl, CheckEdge_ev id f t u v hi (by omega) (by omega) (hF.texts (by omega)) (hF.props (by omega)) k hk, Option.bind_some]
          by_cases hn : edgeN id f t u v = 0
          · left
            refine ⟨f, t, u, v, ?_, hf, ht, hF.texts (by omega), hF.props (by omega), ?_⟩
            · rw [if_pos ⟨hn, hb'⟩]
            · rw [if_pos hn]
          · right
            refine ⟨?_, ?_⟩
            · rw [if_neg (fun h => hn h.1)]
            · rw [if_neg hn]
        · rw [if_pos (show ((b : Int) < (s.size : Int)) by omega), Option.bind_some]
          dsimp only
          rw [if_neg (show ¬ ((3 : Int) = 0) by decide)]
          exact Or.inr ⟨by rw [if_neg (fun h => hb' h.2)], rfl⟩
      · rw [k2, k1, Option.bind_some]
        exact Or.inr ⟨rfl, bad _ _ _ _ _ _ he⟩
    · rw [show ((12 : Nat) : Int) = 12 from rfl] at g3
      rw [g3, g1, Option.bind_some]
      dsimp only
      obtain ⟨u, v, q⟩ := read_err k (by omega) s p e he
      rw [q, Option.bind_some]
      exact Or.inr ⟨rfl, bad _ _ _ _ _ _ he⟩
  · rw [show ((0 : Nat) : Int) = 0 from rfl, show ((12 : Nat) : Int) = 12 from rfl] at h3
    rw [h3, h1, Option.bind_some]
    dsimp only
    rw [Text_err k s p e he, Option.bind_some]
    dsimp only
    obtain ⟨u, v, q⟩ := read_err k (by omega) s p e he
    rw [q, Option.bind_some]
    exact Or.inr ⟨rfl, bad _ _ _ _ _ _ he⟩
theorem refTakeEdge_both (k : Nat) (hk : 3000000000000000 ≤ k) (id s : ByteArray) (hi : id.size ≤ 140737488351232) (hs : s.size ≤ 140737488351232) :
    (∃ f t x y, takeE id s = some (f, t, x, y) ∧ f.size ≤ 12 ∧ t.size ≤ 12 ∧ okTexts x ∧ okProps y ∧ pleachref25_TakeEdge.f k id s = some (id, f, t, x, y, true)) ∨
    (takeE id s = none ∧ pleachref25_TakeEdge.f k id s = some (⟨#[]⟩, ⟨#[]⟩, ⟨#[]⟩, [], [], false)) := by
  have none_of (h1 : edgeP 100 s = none) : takeE id s = none := by
    cases ht : takeE id s with
    | none => rfl
    | some r =>
      obtain ⟨f, t, x, y⟩ := r
      obtain ⟨f1, f2, f3⟩ := (takeE_iff id s f t x y).1 ht
      have hz := edgeN_zero f1
      have z1 := nameB_size hz.2.1
      have z2 := nameB_size hz.2.2.1
      have e1 := (edgeP_iff 12 (by omega) s f t x y _).2 ⟨⟨by omega, by omega, fine_rest hz.2.2.2 f2⟩, rfl, by rw [← f3]; exact at_whole s⟩
      have e2 := edgeP_most s 12 100 (by omega) (by omega) f t x y _ e1
      rw [h1] at e2
      cases e2
  unfold pleachref25_TakeEdge.f
  rcases rText_both k (by omega) s hs 0 (by omega) 100 (by omega) with ⟨f, c, h1, hc, hf, h3⟩ | ⟨h1, p, e, he, h3⟩
  · rw [show ((0 : Nat) : Int) = 0 from rfl, show ((100 : Nat) : Int) = 100 from rfl] at h3
    rw [h3, Option.bind_some]
    dsimp only
    rcases rText_both k (by omega) s hs c hc 100 (by omega) with ⟨t, d, g1, hd, ht, g3⟩ | ⟨g1, p, e, he, g3⟩
    · rw [show ((100 : Nat) : Int) = 100 from rfl] at g3
      rw [g3, Option.bind_some]
      dsimp only
      rcases rread_both k (by omega) s hs d hd with ⟨u, v, b, k1, hb, k2⟩ | ⟨k1, u, v, p, e, he, k2⟩
      · rw [k2, Option.bind_some]
        dsimp only
        have hP : edgeP 100 s = some ((f, t, u, v), b) := by unfold edgeP; rw [h1, Option.bind_some, g1, Option.bind_some, k1]; rfl
        have hF := ((readP_iff 100 (by omega) s d u v b hd).1 k1).1
        have o1 := hF.texts (by omega)
        have o2 := hF.props (by omega)
        rw [if_pos rfl, refEdge_ev id f t u v hi (by omega) (by omega) o1 o2 k (by omega), Option.bind_some]
        have no (hx : ¬ (edgeN id f t u v = 0 ∧ (textB f ++ textB t) ++ putB u v = s)) : takeE id s = none := by
          cases ht : takeE id s with
          | none => rfl
          | some r =>
            obtain ⟨f', t', x, y⟩ := r
            obtain ⟨f1, f2, f3⟩ := (takeE_iff id s f' t' x y).1 ht
            have hz := edgeN_zero f1
            have z1 := nameB_size hz.2.1
            have z2 := nameB_size hz.2.2.1
            have e1 := (edgeP_iff 12 (by omega) s f' t' x y _).2 ⟨⟨by omega, by omega, fine_rest hz.2.2.2 f2⟩, rfl, by rw [← f3]; exact at_whole s⟩
            have e2 := edgeP_most s 12 100 (by omega) (by omega) f' t' x y _ e1
            rw [hP] at e2
            simp only [Option.some.injEq, Prod.mk.injEq] at e2
            obtain ⟨⟨rfl, rfl, rfl, rfl⟩, _⟩ := e2
            exact absurd ⟨f1, f3.symm⟩ hx
        by_cases hn : edgeN id f t u v = 0
        · rw [if_pos hn, refPutEdge_ev id f t u v hi (by omega) (by omega) o1 o2 k (by omega), Option.bind_some]
          have hB : edgeB id f t u v = (textB f ++ textB t) ++ putB u v := by unfold edgeB; rw [if_pos hn]
          rw [hB]
          by_cases hp : (textB f ++ textB t) ++ putB u v = s
          · left
            have hz := edgeN_zero hn
            have z1 := nameB_size hz.2.1
            have z2 := nameB_size hz.2.2.1
            refine ⟨f, t, u, v, (takeE_iff id s f t u v).2 ⟨hn, hF.ranged, hp.symm⟩, by omega, by omega, o1, o2, ?_⟩
            rw [if_pos (by rw [hp])]
          · right
            refine ⟨no (fun h => hp h.2), ?_⟩
            rw [if_neg (fun h => hp (bytes_ext h))]
        · right
          exact ⟨no (fun h => hn h.1), by rw [if_neg hn]⟩
      · rw [k2, Option.bind_some]
        dsimp only
        rw [if_neg he]
        exact Or.inr ⟨none_of (by unfold edgeP; rw [h1, Option.bind_some, g1, Option.bind_some, k1]; rfl), rfl⟩
    · rw [show ((100 : Nat) : Int) = 100 from rfl] at g3
      rw [g3, Option.bind_some]
      dsimp only
      obtain ⟨u, v, q⟩ := rread_err k (by omega) s p e he
      rw [q, Option.bind_some]
      dsimp only
      rw [if_neg he]
      exact Or.inr ⟨none_of (by unfold edgeP; rw [h1, Option.bind_some, g1]; rfl), rfl⟩
  · rw [show ((0 : Nat) : Int) = 0 from rfl, show ((100 : Nat) : Int) = 100 from rfl] at h3
    rw [h3, Option.bind_some]
    dsimp only
    rw [rText_err k s p e he, Option.bind_some]
    dsimp only
    obtain ⟨u, v, q⟩ := rread_err k (by omega) s p e he
    rw [q, Option.bind_some]
    dsimp only
    rw [if_neg he]
    exact Or.inr ⟨none_of (by unfold edgeP; rw [h1]; rfl), rfl⟩
theorem SameTexts_l0 (a : List ByteArray) (ha : a.length ≤ 140737488351232) : ∀ (d i : Nat), i + d = a.length → ∀ k, d + 1 ≤ k → pleachref25_SameTexts.l0 k a a (i : Int) = some true
  | 0, i, hi, k, hk => by
    obtain ⟨k, rfl⟩ : ∃ m, k = m + 1 := ⟨k - 1, by omega⟩
    rw [pleachref25_SameTexts.l0, if_neg (by omega)]
  | d + 1, i, hi, k, hk => by
    obtain ⟨k, rfl⟩ : ∃ m, k = m + 1 := ⟨k - 1, by omega⟩
    rw [pleachref25_SameTexts.l0, if_pos (by omega), if_pos (by omega), if_pos (by omega), if_pos rfl, w64 (by omega) (by omega), show (i : Int) + 1 = ((i + 1 : Nat) : Int) by omega]
    exact SameTexts_l0 a ha d (i + 1) (by omega) k (by omega)
theorem SameTexts_refl (a : List ByteArray) (ha : a.length ≤ 140737488351232) (k : Nat) (hk : 1000000000000000 ≤ k) : pleachref25_SameTexts.f k a a = some true := by
  unfold pleachref25_SameTexts.f
  rw [if_pos rfl]
  exact SameTexts_l0 a ha a.length 0 (by omega) k (by omega)
theorem SameProps_l0 (a : List S98) (ha : a.length ≤ 140737488351232) : ∀ (d i : Nat), i + d = a.length → ∀ k, d + 1 ≤ k → pleachref25_SameProps.l0 k a a (i : Int) = some true
  | 0, i, hi, k, hk => by
    obtain ⟨k, rfl⟩ : ∃ m, k = m + 1 := ⟨k - 1, by omega⟩
    rw [pleachref25_SameProps.l0, if_neg (by omega)]
  | d + 1, i, hi, k, hk => by
    obtain ⟨k, rfl⟩ : ∃ m, k = m + 1 := ⟨k - 1, by omega⟩
    rw [pleachref25_SameProps.l0, if_pos (by omega), if_pos (by omega), if_pos (by omega), if_neg (by simp), w64 (by omega) (by omega), show (i : Int) + 1 = ((i + 1 : Nat) : Int) by omega]
    exact SameProps_l0 a ha d (i + 1) (by omega) k (by omega)
theorem SameProps_refl (a : List S98) (ha : a.length ≤ 140737488351232) (k : Nat) (hk : 1000000000000000 ≤ k) : pleachref25_SameProps.f k a a = some true := by
  unfold pleachref25_SameProps.f
  rw [if_pos rfl]
  exact SameProps_l0 a ha a.length 0 (by omega) k (by omega)
theorem SameNode_refl (id : ByteArray) (x : List ByteArray) (y : List S98) (hx : okTexts x) (hy : okProps y) (k : Nat) (hk : 1000000000000000 ≤ k) : pleachref25_SameNode.f k id x y id x y = some true := by
  unfold pleachref25_SameNode.f
  rw [if_pos rfl, SameTexts_refl x hx.1 k hk, SameProps_refl y hy.1 k hk]
  rfl
theorem SameEdge_refl (id f t : ByteArray) (x : List ByteArray) (y : List S98) (hx : okTexts x) (hy : okProps y) (k : Nat) (hk : 1000000000000000 ≤ k) : pleachref25_SameEdge.f k id f t x y id f t x y = some true := by
  unfold pleachref25_SameEdge.f
  rw [if_pos rfl, if_pos rfl, if_pos rfl, SameTexts_refl x hx.1 k hk, SameProps_refl y hy.1 k hk]
  rfl
end Go.Proofs.Ytmnadajjgnniaaa.Q
end
section
namespace Go.Proofs.Ytmnadajjgnniaaa.Pure
open Go.RowKit Go.Proofs.Ytmnadajjgnniaaa.MA Go.Proofs.Ytmnadajjgnniaaa.HOpen Go.Proofs.YtmnadajjgnniaaaW.PrintWords Go.Proofs.Ytmnadajjgnniaaa.Q

theorem takes_j0 (k : Nat) (hk : 4000000000000001 ≤ k) (id s : ByteArray) (b : Bool) (hi : id.size ≤ 140737488351232) (hs : s.size ≤ 140737488351232) : pleachlaw25_ElemTakes.j0 k id s b = some true := by
  obtain ⟨k, rfl⟩ : ∃ m, k = m + 1 := ⟨k - 1, by omega⟩
  have hk2 : 1000000000000000 ≤ k := by omega
  rw [pleachlaw25_ElemTakes.j0]
  have o0 : okTexts [] := ⟨by simp, by simp⟩
  have o1 : okProps [] := ⟨by simp, by simp⟩
  cases b with
  | true => rw [if_pos rfl, awake_ev k hk2]; rfl
  | false =>
    rw [if_neg (by decide)]
    have node : (∃ (i : ByteArray) (x : List ByteArray) (y : List S98), okTexts x ∧ okProps y ∧ elem_TakeNode.f k id s = some (i, x, y, 0) ∧ pleachref25_TakeNode.f k id s = some (i, x, y, true)) ∨ (elem_TakeNode.f k id s = some (⟨#[]⟩, [], [], 3) ∧ pleachref25_TakeNode.f k id s = some (⟨#[]⟩, [], [], false)) := by
      rcases TakeNode_both k hk2 id s hi hs with ⟨x, y, h1, h2, h3, h4⟩ | ⟨h1, h4⟩ <;> rcases refTakeNode_both k (by omega) id s hi hs with ⟨x', y', g1, g2, g3, g4⟩ | ⟨g1, g4⟩
      · rw [h1] at g1
        simp only [Option.some.injEq, Prod.mk.injEq] at g1
        obtain ⟨rfl, rfl⟩ := g1
        exact Or.inl ⟨id, x, y, h2, h3, h4, g4⟩
      · rw [h1] at g1; cases g1
      · rw [h1] at g1; cases g1
      · exact Or.inr ⟨h4, g4⟩
    have edge : (∃ (i f t : ByteArray) (x : List ByteArray) (y : List S98), okTexts x ∧ okProps y ∧ elem_TakeEdge.f k id s = some (i, f, t, x, y, 0) ∧ pleachref25_TakeEdge.f k id s = some (i, f, t, x, y, true)) ∨ (elem_TakeEdge.f k id s = some (⟨#[]⟩, ⟨#[]⟩, ⟨#[]⟩, [], [], 3) ∧ pleachref25_TakeEdge.f k id s = some (⟨#[]⟩, ⟨#[]⟩, ⟨#[]⟩, [], [], false)) := by
      rcases TakeEdge_both k hk2 id s hi hs with ⟨f, t, x, y, h1, _, _, h2, h3, h4⟩ | ⟨h1, h4⟩ <;> rcases refTakeEdge_both k (by omega) id s hi hs with ⟨f', t', x', y', g1, _, _, g2, g3, g4⟩ | ⟨g1, g4⟩
      · rw [h1] at g1
        simp only [Option.some.injEq, Prod.mk.injEq] at g1
        obtain ⟨rfl, rfl, rfl, rfl⟩ := g1
        exact Or.inl ⟨id, f, t, x, y, h2, h3, h4, g4⟩
      · rw [h1] at g1; cases g1
      · rw [h1] at g1; cases g1
      · exact Or.inr ⟨h4, g4⟩
    rcases node with ⟨i, x, y, h2, h3, h4, g4⟩ | ⟨h4, g4⟩ <;> rcases edge with ⟨i', f, t, x', y', k2, k3, k4, l4⟩ | ⟨k4, l4⟩
    · rw [h4, g4, k4, l4]
      simp only [Option.bind_some]
      rw [SameNode_refl i x y h2 h3 k hk2, SameEdge_refl i' f t x' y' k2 k3 k hk2, awake_ev k hk2]
      rfl
    · rw [h4, g4, k4, l4]
      simp only [Option.bind_some]
      rw [SameNode_refl i x y h2 h3 k hk2, SameEdge_refl _ _ _ _ _ o0 o1 k hk2, awake_ev k hk2]
      rfl
    · rw [h4, g4, k4, l4]
      simp only [Option.bind_some]
      rw [SameNode_refl _ _ _ o0 o1 k hk2, SameEdge_refl i' f t x' y' k2 k3 k hk2, awake_ev k hk2]
      rfl
    · rw [h4, g4, k4, l4]
      simp only [Option.bind_some]
      rw [SameNode_refl _ _ _ o0 o1 k hk2, SameEdge_refl _ _ _ _ _ o0 o1 k hk2, awake_ev k hk2]
      rfl
theorem ElemTakes : pleachlaw25_ElemTakes.Pure := by
  intro id s hi hs
  obtain ⟨k, hk⟩ : ∃ k, 4000000000000001 ≤ k := ⟨_, Nat.le_refl _⟩
  refine ⟨k, ?_⟩
  unfold pleachlaw25_ElemTakes.f
  rw [takes_j0 k hk id s _ hi hs, takes_j0 k hk id s _ hi hs]
  simp
end Go.Proofs.Ytmnadajjgnniaaa.Pure
end
