/- Written by xprint.py, a program of this session: Go functions that the laws reach, each as a plain Lean function, and the proof that the Go code comes to what it says. No condition but those that each theorem names. -/
import Derived.Test.YtalibiaplhmfhaaPAx0
import Derived.Test.YtalibiaplhmfhaaPAx4
import Derived.Test.YtalibiaplhmfhaaPAx8
import Derived.Test.YtalibiaplhmfhaaPAx9
import Derived.Test.YtalibiaplhmfhaaPAx10
import Derived.WalkSpells
import Derived.WalkLawsBesides
import Derived.Laws.IdiomStrings
import Derived.Laws.BytesArg
import Derived.Test.YtalibiaplhmfhaaXAux
namespace Go.Proofs.Ytalibiaplhmfhaa.PA
open Go.RowKit Go.Proofs.YtalibiaplhmfhaaW.PrintWords Go.Proofs.YtalibiaplhmfhaaW.PrintLast Go.Proofs.YtalibiaplhmfhaaW.PrintMore
attribute [local go_sem] max2_int min2_int max_two min_two max_three min_three max_four min_four   -- for this text's walks alone
set_option linter.unusedVariables false
set_option linter.unusedSimpArgs false

/-! ### record_Get: function 27 -/
def record_Get.j0 : Nat → Int → Int → Int → Bool → ByteArray → Bool → Option (Int × Int × Int × Int × Int × ByteArray × Bool)
 | 0, _, _, _, _, _, _ => none
 | k + 1, x5, x7, x8, x32, x173000, x173001 => if x32 = true then (some (0, 0, 0, 0, 0, (⟨#[]⟩ : ByteArray), false)) else (if 0 ≤ 6 then (if 6 ≤ (x173000.size : Int) then ((addr_Get.f k (x173000.extract 0 6)).bind fun bt179 => (if bt179.2.2 = true then ((record_Right.f (wrap64 (x5)) (wrap64 (x7)) ((x8) % 4294967296) bt179.1 bt179.2.1).bind fun t182 => (if t182 = true then (some (wrap64 (x5), wrap64 (x7), (x8) % 4294967296, bt179.1, bt179.2.1, x173000.extract 6 x173000.size, true)) else (some (0, 0, 0, 0, 0, (⟨#[]⟩ : ByteArray), false)))) else (some (0, 0, 0, 0, 0, (⟨#[]⟩ : ByteArray), false)))) else (none)) else (none))
def record_Get.f (k : Nat) (a0 : ByteArray) : Option (Int × Int × Int × Int × Int × ByteArray × Bool) := (pack_Read.f a0).bind fun bt167 => ((pack_Reader_Number.f k bt167.1 bt167.2 1).bind fun bt169 => ((pack_Reader_Number.f k bt169.2.1 bt169.2.2 1).bind fun bt173 => ((pack_Reader_Number.f k bt173.2.1 bt173.2.2 4).bind fun bt176 => (if bt176.2.2 = true then (record_Get.j0 k bt169.1 bt173.1 bt176.1 true bt176.2.1 true) else (record_Get.j0 k bt169.1 bt173.1 bt176.1 (decide ((bt176.2.1.size : Int) < 6)) bt176.2.1 false)))))
theorem record_Get.mono_l : ∀ k, (∀ y0 y1 y2 y3 y4 y5, LeO (record_Get.j0 k y0 y1 y2 y3 y4 y5) (record_Get.j0 (k + 1) y0 y1 y2 y3 y4 y5))
 | 0 => fun _ _ _ _ _ _ r h => by simp [record_Get.j0] at h
 | k + 1 => by
  have ih0 := record_Get.mono_l k
  ·intro y0 y1 y2 y3 y4 y5
   unfold record_Get.j0
   repeat' first
   | (with_reducible exact ih0 _ _ _ _ _ _)
   | (with_reducible exact addr_Get.mono _ _)
   | (with_reducible exact pack_Reader_Number.mono _ _ _ _)
   | (with_reducible exact LeO.refl _)
   | (with_reducible exact LeO.none _)
   | (with_reducible refine LeO.ite ?_ ?_)
   | (with_reducible refine LeO.bind ?_ (fun _ => ?_))
   | exact ih0 _ _ _ _ _ _
   | exact addr_Get.mono _ _
   | exact pack_Reader_Number.mono _ _ _ _
   | exact LeO.none _
   | refine LeO.ite ?_ ?_
   | refine LeO.bind ?_ (fun _ => ?_)
theorem record_Get.mono : ∀ a0 k, LeO (record_Get.f k a0) (record_Get.f (k + 1) a0) := by
 intro a0 k
 have ih0 := record_Get.mono_l k
 unfold record_Get.f
 repeat' first
   | (with_reducible exact ih0 _ _ _ _ _ _)
   | (with_reducible exact addr_Get.mono _ _)
   | (with_reducible exact pack_Reader_Number.mono _ _ _ _)
   | (with_reducible exact LeO.refl _)
   | (with_reducible exact LeO.none _)
   | (with_reducible refine LeO.ite ?_ ?_)
   | (with_reducible refine LeO.bind ?_ (fun _ => ?_))
   | exact ih0 _ _ _ _ _ _
   | exact addr_Get.mono _ _
   | exact pack_Reader_Number.mono _ _ _ _
   | exact LeO.none _
   | refine LeO.ite ?_ ?_
   | refine LeO.bind ?_ (fun _ => ?_)
set_option maxHeartbeats 8000000 in
set_option maxRecDepth 100000 in
theorem record_Get.calls (k : Nat) (a0 : ByteArray) (r1 : Int) (r2 : Int) (r3 : Int) (r4 : Int) (r5 : Int) (r6 : ByteArray) (r7 : Bool) (w : World) (h : record_Get.f k a0 = some (r1, r2, r3, r4, r5, r6, r7)) :
  Calls Try.prog 27 #[.string a0] w fun e w' => e = .returned (.tuple #[.agg #[.int .i64 r1, .int .i64 r2, .int .u32 r3, .int .u32 r4, .int .u16 r5], .string r6, .bool r7]) ∧ Below w.heap.size w w' := by
 have hu27 := Try.underlying27
 have hu71 := Try.underlying71
 have hu25 := Try.underlying25
 have HB := Aside0.mk (Below.refl w.heap.size w)
 have H : ((pack_Read.f a0).bind fun bt167 => ((pack_Reader_Number.f k bt167.1 bt167.2 1).bind fun bt169 => ((pack_Reader_Number.f k bt169.2.1 bt169.2.2 1).bind fun bt173 => ((pack_Reader_Number.f k bt173.2.1 bt173.2.2 4).bind fun bt176 => (if bt176.2.2 = true then (record_Get.j0 k bt169.1 bt173.1 bt176.1 true bt176.2.1 true) else (record_Get.j0 k bt169.1 bt173.1 bt176.1 (decide ((bt176.2.1.size : Int) < 6)) bt176.2.1 false)))))) = some (r1, r2, r3, r4, r5, r6, r7) := h
 clear h
 replace H := Option.bind_eq_some_iff.mp H
 obtain ⟨⟨t167, t168⟩, A20, H⟩ := H
 replace H : ((pack_Reader_Number.f k t167 t168 1).bind fun bt169 => ((pack_Reader_Number.f k bt169.2.1 bt169.2.2 1).bind fun bt173 => ((pack_Reader_Number.f k bt173.2.1 bt173.2.2 4).bind fun bt176 => (if bt176.2.2 = true then (record_Get.j0 k bt169.1 bt173.1 bt176.1 true bt176.2.1 true) else (record_Get.j0 k bt169.1 bt173.1 bt176.1 (decide ((bt176.2.1.size : Int) < 6)) bt176.2.1 false))))) = some (r1, r2, r3, r4, r5, r6, r7) := H
 have A2 := Aside0.mk A20
 clear A20
 replace H := Option.bind_eq_some_iff.mp H
 obtain ⟨⟨t169, t170, t171⟩, A30, H⟩ := H
 replace H : ((pack_Reader_Number.f k t170 t171 1).bind fun bt173 => ((pack_Reader_Number.f k bt173.2.1 bt173.2.2 4).bind fun bt176 => (if bt176.2.2 = true then (record_Get.j0 k t169 bt173.1 bt176.1 true bt176.2.1 true) else (record_Get.j0 k t169 bt173.1 bt176.1 (decide ((bt176.2.1.size : Int) < 6)) bt176.2.1 false)))) = some (r1, r2, r3, r4, r5, r6, r7) := H
 have A3 := Aside0.mk A30
 clear A30
 replace H := Option.bind_eq_some_iff.mp H
 obtain ⟨⟨t173, t174, t175⟩, A40, H⟩ := H
 replace H : ((pack_Reader_Number.f k t174 t175 4).bind fun bt176 => (if bt176.2.2 = true then (record_Get.j0 k t169 t173 bt176.1 true bt176.2.1 true) else (record_Get.j0 k t169 t173 bt176.1 (decide ((bt176.2.1.size : Int) < 6)) bt176.2.1 false))) = some (r1, r2, r3, r4, r5, r6, r7) := H
 have A4 := Aside0.mk A40
 clear A40
 replace H := Option.bind_eq_some_iff.mp H
 obtain ⟨⟨t176, t177, t178⟩, A50, H⟩ := H
 replace H : (if t178 = true then (record_Get.j0 k t169 t173 t176 true t177 true) else (record_Get.j0 k t169 t173 t176 (decide ((t177.size : Int) < 6)) t177 false)) = some (r1, r2, r3, r4, r5, r6, r7) := H
 have A5 := Aside0.mk A50
 clear A50
 have HC6 := Aside0.mk H
 clear H
 go_enter Try.func27, Try.ntmps27
 go_upto_region 4 with (first | (refine Go.Proofs.YtalibiaplhmfhaaX.wp_scope_k ?_; intro Jg hJg; have HJg := Aside0.mk hJg; clear hJg) | (refine wp_label (l := 0) ?_; go_step; (first | (show Code.wp _ _ _ _ _) | go_step)) | (refine wp_goto (l := 0) ?_; refine HJg.out _ _ _ _ rfl ?_; refine Go.Proofs.YtalibiaplhmfhaaX.wp_skip_seq ?_) | ((with_reducible refine gate_dst (N := 2) rfl ?_); (try (refine gate_guard (by rfl) ?_; dsimp only)); refine box_event ?hg (N := 2) ?hd (cs := #[.int .i64 0, .int .i64 0, .int .u32 0, .int .u32 0, .int .u16 0]) (t := 27) ?hr ?_; (case hd => rfl); (case hg => rfl); (case hr => first | (go_simp; done) | (go_simp; rfl)); intro gb166 hg w7 hbox hb; have n0_ := Aside0.mk (below_step (by repeat (first | (with_reducible first | exact HB.out | apply below_alloc | apply pw_below_drewN | apply below_drew1) | exact HB.out)) hb); have n1_ := Aside0.mk (hbox); have n2_ := Aside0.mk ((by rw [hg]; exact (below_size (by repeat (first | (with_reducible first | exact HB.out | apply below_alloc | apply pw_below_drewN | apply below_drew1) | exact HB.out))) : w.heap.size ≤ gb166)); have n3_ := Aside0.mk ((by rw [hg]; exact (below_size (by repeat (first | (with_reducible first | exact HB.out | apply below_alloc | apply pw_below_drewN | apply below_drew1) | exact HB.out))) : w.heap.size ≤ gb166)); clear HB; have HB := n0_; have BK166 := n1_; have GW166 := n2_; have GE166 := n3_; clear n0_ n1_ n2_ n3_; clear hb hbox hg) | ((with_reducible refine gate_callee (f := 40) rfl ?_); refine goesL_ (some 11) rfl rfl Try.func40 (by kernel_rfl) rfl #[.string a0] rfl (by (try simp only [List.map_toArray, List.map_cons, List.map_nil]); first | done | rfl | (simp only [List.length_drop, List.length_take]; rfl)) ?_; (with_reducible refine (pack_Read.calls a0 t167 t168 _ A2.out).mono ?_); rintro e w8 ⟨rfl, hb⟩; refine ⟨_, rfl, ?_⟩; have n0_ := Aside0.mk (blk_below (g := gb166) (o := .cells #[.int .i64 0, .int .i64 0, .int .u32 0, .int .u32 0, .int .u16 0] 27 (0, 0)) (by (with_reducible repeat (first | refine blk_drewN ?_ _ | refine blk_drew ?_ | refine blk_alloc ?_ _)); exact BK166.out) hb); have n1_ := Aside0.mk (below_step (by repeat (first | (with_reducible first | exact HB.out | apply below_alloc | apply pw_below_drewN | apply below_drew1 | refine below_set ?_ GE166.out) | exact HB.out)) hb); clear BK166; clear HB; have BK166 := n0_; have HB := n1_; clear n0_ n1_; (try clear hb); (try clear hb2); (try clear hk); (try clear hi)) | ((with_reducible refine gate_callee (f := 41) rfl ?_); refine goesL_ (some 12) rfl rfl Try.func41 (by kernel_rfl) rfl #[.agg #[.string t167, .bool t168], .int .i64 1] rfl (by (try simp only [List.map_toArray, List.map_cons, List.map_nil]); first | done | rfl | (simp only [List.length_drop, List.length_take]; rfl)) ?_; (with_reducible refine (pack_Reader_Number.calls k t167 t168 1 t169 t170 t171 _ A3.out).mono ?_); rintro e w9 ⟨rfl, hb⟩; refine ⟨_, rfl, ?_⟩; have n0_ := Aside0.mk (blk_below (g := gb166) (o := .cells #[.int .i64 0, .int .i64 0, .int .u32 0, .int .u32 0, .int .u16 0] 27 (0, 0)) (by (with_reducible repeat (first | refine blk_drewN ?_ _ | refine blk_drew ?_ | refine blk_alloc ?_ _)); exact BK166.out) hb); have n1_ := Aside0.mk (below_step (by repeat (first | (with_reducible first | exact HB.out | apply below_alloc | apply pw_below_drewN | apply below_drew1 | refine below_set ?_ GE166.out) | exact HB.out)) hb); clear BK166; clear HB; have BK166 := n0_; have HB := n1_; clear n0_ n1_; (try clear hb); (try clear hb2); (try clear hk); (try clear hi)) | ((with_reducible refine gate_dst (N := 6) rfl ?_); (try (refine gate_guard (by rfl) ?_; dsimp only)); refine box_event ?hg (N := 6) ?hd (cs := #[.string (⟨#[]⟩ : ByteArray), .bool false]) (t := 71) ?hr ?_; (case hd => rfl); (case hg => rfl); (case hr => first | (go_simp; done) | (go_simp; rfl)); intro gb172 hg w10 hbox hb; have n0_ := Aside0.mk (blk_below (g := gb166) (o := .cells #[.int .i64 0, .int .i64 0, .int .u32 0, .int .u32 0, .int .u16 0] 27 (0, 0)) (by (with_reducible repeat (first | refine blk_drewN ?_ _ | refine blk_drew ?_ | refine blk_alloc ?_ _)); exact BK166.out) hb); have n1_ := Aside0.mk (below_step (by repeat (first | (with_reducible first | exact HB.out | apply below_alloc | apply pw_below_drewN | apply below_drew1 | refine below_set ?_ GE166.out) | exact HB.out)) hb); have n2_ := Aside0.mk (hbox); have n3_ := Aside0.mk ((by rw [hg]; exact (below_size (by repeat (first | (with_reducible first | exact HB.out | apply below_alloc | apply pw_below_drewN | apply below_drew1 | refine below_set ?_ GE166.out) | exact HB.out))) : w.heap.size ≤ gb172)); have n4_ := Aside0.mk ((by rw [hg]; exact (below_size (by repeat (first | (with_reducible first | exact HB.out | apply below_alloc | apply pw_below_drewN | apply below_drew1 | refine below_set ?_ GE166.out) | exact HB.out))) : w.heap.size ≤ gb172)); have n5_ := Aside0.mk ((by rw [hg]; exact Nat.ne_of_lt (blk_lt (g := gb166) (o := .cells #[.int .i64 0, .int .i64 0, .int .u32 0, .int .u32 0, .int .u16 0] 27 (0, 0)) (by (with_reducible repeat (first | refine blk_drewN ?_ _ | refine blk_drew ?_ | refine blk_alloc ?_ _)); exact BK166.out)) : gb166 ≠ gb172)); have n6_ := Aside0.mk ((by rw [hg]; exact Nat.ne_of_gt (blk_lt (g := gb166) (o := .cells #[.int .i64 0, .int .i64 0, .int .u32 0, .int .u32 0, .int .u16 0] 27 (0, 0)) (by (with_reducible repeat (first | refine blk_drewN ?_ _ | refine blk_drew ?_ | refine blk_alloc ?_ _)); exact BK166.out)) : gb172 ≠ gb166)); clear BK166; clear HB; have BK166 := n0_; have HB := n1_; have BK172 := n2_; have GW172 := n3_; have GE172 := n4_; have NB166_172 := n5_; have NB172_166 := n6_; clear n0_ n1_ n2_ n3_ n4_ n5_ n6_; clear hb hbox hg; have hnb11 := NB172_166.out; have hnc11 := NB166_172.out; have hcz12_0 : w10.cell? ⟨gb172, 0, none⟩ = some (.string (⟨#[]⟩ : ByteArray)) := (blk_cell BK172.out 0).trans rfl; have hcz12_1 : w10.cell? ⟨gb172, 1, none⟩ = some (.bool false) := (blk_cell BK172.out 1).trans rfl; have hfz12_0 := blk_frozen BK172.out 0; have hfz12_1 := blk_frozen BK172.out 1) | ((with_reducible refine gate_callee (f := 41) rfl ?_); refine goesL_ (some 17) rfl rfl Try.func41 (by kernel_rfl) rfl #[.agg #[.string t170, .bool t171], .int .i64 1] rfl (by (try simp only [List.map_toArray, List.map_cons, List.map_nil]); first | done | rfl | (simp only [List.length_drop, List.length_take]; rfl)) ?_; (with_reducible refine (pack_Reader_Number.calls k t170 t171 1 t173 t174 t175 _ A4.out).mono ?_); rintro e w13 ⟨rfl, hb⟩; refine ⟨_, rfl, ?_⟩; have n0_ := Aside0.mk (blk_below (g := gb166) (o := .cells #[.int .i64 0, .int .i64 0, .int .u32 0, .int .u32 0, .int .u16 0] 27 (0, 0)) (by (with_reducible repeat (first | refine blk_drewN ?_ _ | refine blk_drew ?_ | refine blk_alloc ?_ _)); refine blk_far ?_ NB166_172.out _; (with_reducible repeat (first | refine blk_drewN ?_ _ | refine blk_drew ?_ | refine blk_alloc ?_ _)); refine blk_far ?_ NB166_172.out _; (with_reducible repeat (first | refine blk_drewN ?_ _ | refine blk_drew ?_ | refine blk_alloc ?_ _)); exact BK166.out) hb); have n1_ := Aside0.mk (blk_below (g := gb172) (o := .cells #[.string t170, .bool t171] 71 (0, 0)) (by (with_reducible repeat (first | refine blk_drewN ?_ _ | refine blk_drew ?_ | refine blk_alloc ?_ _)); refine blk_put (cs := #[.string t170, .bool false]) ?_ 1 _ rfl; (with_reducible repeat (first | refine blk_drewN ?_ _ | refine blk_drew ?_ | refine blk_alloc ?_ _)); refine blk_put (cs := #[.string (⟨#[]⟩ : ByteArray), .bool false]) ?_ 0 _ rfl; (with_reducible repeat (first | refine blk_drewN ?_ _ | refine blk_drew ?_ | refine blk_alloc ?_ _)); exact BK172.out) hb); have n2_ := Aside0.mk (below_step (by repeat (first | (with_reducible first | exact HB.out | apply below_alloc | apply pw_below_drewN | apply below_drew1 | refine below_set ?_ GE166.out | refine below_set ?_ GE172.out) | exact HB.out)) hb); clear BK166; clear BK172; clear HB; have BK166 := n0_; have BK172 := n1_; have HB := n2_; clear n0_ n1_ n2_; (try clear hb); (try clear hb2); (try clear hk); (try clear hi); have hcz14_0 : w13.cell? ⟨gb172, 0, none⟩ = some (.string t170) := (blk_cell BK172.out 0).trans rfl; have hcz14_1 : w13.cell? ⟨gb172, 1, none⟩ = some (.bool t171) := (blk_cell BK172.out 1).trans rfl; have hfz14_0 := blk_frozen BK172.out 0; have hfz14_1 := blk_frozen BK172.out 1) | ((with_reducible refine gate_callee (f := 41) rfl ?_); refine goesL_ (some 22) rfl rfl Try.func41 (by kernel_rfl) rfl #[.agg #[.string t174, .bool t175], .int .i64 4] rfl (by (try simp only [List.map_toArray, List.map_cons, List.map_nil]); first | done | rfl | (simp only [List.length_drop, List.length_take]; rfl)) ?_; (with_reducible refine (pack_Reader_Number.calls k t174 t175 4 t176 t177 t178 _ A5.out).mono ?_); rintro e w15 ⟨rfl, hb⟩; refine ⟨_, rfl, ?_⟩; have n0_ := Aside0.mk (blk_below (g := gb166) (o := .cells #[.int .i64 0, .int .i64 0, .int .u32 0, .int .u32 0, .int .u16 0] 27 (0, 0)) (by (with_reducible repeat (first | refine blk_drewN ?_ _ | refine blk_drew ?_ | refine blk_alloc ?_ _)); refine blk_far ?_ NB166_172.out _; (with_reducible repeat (first | refine blk_drewN ?_ _ | refine blk_drew ?_ | refine blk_alloc ?_ _)); refine blk_far ?_ NB166_172.out _; (with_reducible repeat (first | refine blk_drewN ?_ _ | refine blk_drew ?_ | refine blk_alloc ?_ _)); exact BK166.out) hb); have n1_ := Aside0.mk (blk_below (g := gb172) (o := .cells #[.string t174, .bool t175] 71 (0, 0)) (by (with_reducible repeat (first | refine blk_drewN ?_ _ | refine blk_drew ?_ | refine blk_alloc ?_ _)); refine blk_put (cs := #[.string t174, .bool t171]) ?_ 1 _ rfl; (with_reducible repeat (first | refine blk_drewN ?_ _ | refine blk_drew ?_ | refine blk_alloc ?_ _)); refine blk_put (cs := #[.string t170, .bool t171]) ?_ 0 _ rfl; (with_reducible repeat (first | refine blk_drewN ?_ _ | refine blk_drew ?_ | refine blk_alloc ?_ _)); exact BK172.out) hb); have n2_ := Aside0.mk (below_step (by repeat (first | (with_reducible first | exact HB.out | apply below_alloc | apply pw_below_drewN | apply below_drew1 | refine below_set ?_ GE166.out | refine below_set ?_ GE172.out) | exact HB.out)) hb); clear BK166; clear BK172; clear HB; have BK166 := n0_; have BK172 := n1_; have HB := n2_; clear n0_ n1_ n2_; (try clear hb); (try clear hb2); (try clear hk); (try clear hi); have hcz16_0 : w15.cell? ⟨gb172, 0, none⟩ = some (.string t174) := (blk_cell BK172.out 0).trans rfl; have hcz16_1 : w15.cell? ⟨gb172, 1, none⟩ = some (.bool t175) := (blk_cell BK172.out 1).trans rfl; have hfz16_0 := blk_frozen BK172.out 0; have hfz16_1 := blk_frozen BK172.out 1))
 (try simp only [Act.put, List.setIfInBounds_toArray, List.set_cons_zero, List.set_cons_succ])
 go_cut [32] (fun v32 wc => ∃ (kq : Nat) (x32_5 : Bool), v32 = .bool x32_5 ∧ Aside0 (record_Get.j0 kq t169 t173 t176 x32_5 t177 t178 = some (r1, r2, r3, r4, r5, r6, r7)) ∧ Aside0 (kq ≤ k) ∧ Aside0 (wc.heap[gb166]? = some (.cells #[.int .i64 0, .int .i64 0, .int .u32 0, .int .u32 0, .int .u16 0] 27 (0, 0))) ∧ Aside0 (wc.heap[gb172]? = some (.cells #[.string t177, .bool t178] 71 (0, 0))) ∧ Aside0 (Below w.heap.size w wc))
 case first =>
  have H := HC6.out
  clear HC6
  by_cases c17 : t178 = true
  ·(first | subst c17 | clear c17)
   have H1 : (record_Get.j0 k t169 t173 t176 true t177 true) = some (r1, r2, r3, r4, r5, r6, r7) := by first | (rw [if_pos rfl] at H; exact H) | (rw [if_pos trivial] at H; exact H)
   clear H
   have H := H1
   clear H1
   have H' := Aside0.mk H
   clear H
   have hnb18 := NB172_166.out
   have hnc18 := NB166_172.out
   have hcz19_0 : w15.cell? ⟨gb172, 0, none⟩ = some (.string t174) := (blk_cell BK172.out 0).trans rfl
   have hcz19_1 : w15.cell? ⟨gb172, 1, none⟩ = some (.bool t175) := (blk_cell BK172.out 1).trans rfl
   have hfz19_0 := blk_frozen BK172.out 0
   have hfz19_1 := blk_frozen BK172.out 1
   go_wp2_with (first | (refine Go.Proofs.YtalibiaplhmfhaaX.wp_scope_k ?_; intro Jg hJg; have HJg := Aside0.mk hJg; clear hJg) | (refine wp_label (l := 0) ?_; go_step; (first | (show Code.wp _ _ _ _ _) | go_step)) | (refine wp_goto (l := 0) ?_; refine HJg.out _ _ _ _ rfl ?_; refine Go.Proofs.YtalibiaplhmfhaaX.wp_skip_seq ?_))
   go_meet
   case rel => exact ⟨_, (true), (by first | rfl | (simp; done) | (simp [*]; done)), H', ⟨by first | omega | exact Nat.le_refl _⟩, ⟨by (with_reducible repeat (first | refine blk_drewN ?_ _ | refine blk_drew ?_ | refine blk_alloc ?_ _)); refine blk_far ?_ NB166_172.out _; (with_reducible repeat (first | refine blk_drewN ?_ _ | refine blk_drew ?_ | refine blk_alloc ?_ _)); refine blk_far ?_ NB166_172.out _; (with_reducible repeat (first | refine blk_drewN ?_ _ | refine blk_drew ?_ | refine blk_alloc ?_ _)); exact BK166.out⟩, ⟨by (with_reducible repeat (first | refine blk_drewN ?_ _ | refine blk_drew ?_ | refine blk_alloc ?_ _)); refine blk_put (cs := #[.string t177, .bool t175]) ?_ 1 _ rfl; (with_reducible repeat (first | refine blk_drewN ?_ _ | refine blk_drew ?_ | refine blk_alloc ?_ _)); refine blk_put (cs := #[.string t174, .bool t175]) ?_ 0 _ rfl; (with_reducible repeat (first | refine blk_drewN ?_ _ | refine blk_drew ?_ | refine blk_alloc ?_ _)); exact BK172.out⟩, ⟨by repeat (first | (with_reducible first | exact HB.out | apply below_alloc | apply pw_below_drewN | apply below_drew1 | refine below_set ?_ GE166.out | refine below_set ?_ GE172.out) | exact HB.out)⟩⟩
  ·replace c17 := Bool.eq_false_iff.mpr c17
   (first | subst c17 | clear c17)
   have H1 : (record_Get.j0 k t169 t173 t176 (decide ((t177.size : Int) < 6)) t177 false) = some (r1, r2, r3, r4, r5, r6, r7) := by rw [if_neg (show ¬ (false = true) by decide)] at H; exact H
   clear H
   have H := H1
   clear H1
   have H' := Aside0.mk H
   clear H
   have hnb20 := NB172_166.out
   have hnc20 := NB166_172.out
   have hcz21_0 : w15.cell? ⟨gb172, 0, none⟩ = some (.string t174) := (blk_cell BK172.out 0).trans rfl
   have hcz21_1 : w15.cell? ⟨gb172, 1, none⟩ = some (.bool t175) := (blk_cell BK172.out 1).trans rfl
   have hfz21_0 := blk_frozen BK172.out 0
   have hfz21_1 := blk_frozen BK172.out 1
   go_wp2_with (first | (refine Go.Proofs.YtalibiaplhmfhaaX.wp_scope_k ?_; intro Jg hJg; have HJg := Aside0.mk hJg; clear hJg) | (refine wp_label (l := 0) ?_; go_step; (first | (show Code.wp _ _ _ _ _) | go_step)) | (refine wp_goto (l := 0) ?_; refine HJg.out _ _ _ _ rfl ?_; refine Go.Proofs.YtalibiaplhmfhaaX.wp_skip_seq ?_))
   go_meet
   case rel => exact ⟨_, (decide ((t177.size : Int) < 6)), (by first | rfl | (simp; done) | (simp [*]; done)), H', ⟨by first | omega | exact Nat.le_refl _⟩, ⟨by (with_reducible repeat (first | refine blk_drewN ?_ _ | refine blk_drew ?_ | refine blk_alloc ?_ _)); refine blk_far ?_ NB166_172.out _; (with_reducible repeat (first | refine blk_drewN ?_ _ | refine blk_drew ?_ | refine blk_alloc ?_ _)); refine blk_far ?_ NB166_172.out _; (with_reducible repeat (first | refine blk_drewN ?_ _ | refine blk_drew ?_ | refine blk_alloc ?_ _)); exact BK166.out⟩, ⟨by (with_reducible repeat (first | refine blk_drewN ?_ _ | refine blk_drew ?_ | refine blk_alloc ?_ _)); refine blk_put (cs := #[.string t177, .bool t175]) ?_ 1 _ rfl; (with_reducible repeat (first | refine blk_drewN ?_ _ | refine blk_drew ?_ | refine blk_alloc ?_ _)); refine blk_put (cs := #[.string t174, .bool t175]) ?_ 0 _ rfl; (with_reducible repeat (first | refine blk_drewN ?_ _ | refine blk_drew ?_ | refine blk_alloc ?_ _)); exact BK172.out⟩, ⟨by repeat (first | (with_reducible first | exact HB.out | apply below_alloc | apply pw_below_drewN | apply below_drew1 | refine below_set ?_ GE166.out | refine below_set ?_ GE172.out) | exact HB.out)⟩⟩
 case rest =>
  clear HC6
  try clear c1
  try clear c2
  try clear p2
  try clear c4
  try clear c11
  try clear c17
  try clear c18
  try clear c20
  try clear hcz12_0
  try clear hcz12_1
  try clear hcz14_0
  try clear hcz14_1
  try clear hcz16_0
  try clear hcz16_1
  try clear hcz19_0
  try clear hcz19_1
  try clear hcz21_0
  try clear hcz21_1
  try clear hfz12_0
  try clear hfz12_1
  try clear hfz14_0
  try clear hfz14_1
  try clear hfz16_0
  try clear hfz16_1
  try clear hfz19_0
  try clear hfz19_1
  try clear hfz21_0
  try clear hfz21_1
  obtain ⟨kq, x32_5, rfl, HA, HJ5, BK166, BK172, HB⟩ := hcut
  cases kq with
  | zero => exact absurd HA.out (by simp [record_Get.j0])
  | succ kj5 =>
   have H := HA.out
   clear HA
   simp only [record_Get.j0] at H
   by_cases c22 : x32_5 = true
   ·(first | subst c22 | clear c22)
    have H1 : (some (0, 0, 0, 0, 0, (⟨#[]⟩ : ByteArray), false)) = some (r1, r2, r3, r4, r5, r6, r7) := by first | (rw [if_pos rfl] at H; exact H) | (rw [if_pos trivial] at H; exact H)
    clear H
    have H := H1
    clear H1
    simp only [Option.some.injEq, Prod.mk.injEq] at H
    obtain ⟨rfl, rfl, rfl, rfl, rfl, rfl, rfl⟩ := H
    have hnb23 := NB166_172.out
    have hnc23 := NB172_166.out
    have hcz24_0 : wc.cell? ⟨gb166, 0, none⟩ = some (.int .i64 0) := (blk_cell BK166.out 0).trans rfl
    have hcz24_1 : wc.cell? ⟨gb166, 1, none⟩ = some (.int .i64 0) := (blk_cell BK166.out 1).trans rfl
    have hcz24_2 : wc.cell? ⟨gb166, 2, none⟩ = some (.int .u32 0) := (blk_cell BK166.out 2).trans rfl
    have hcz24_3 : wc.cell? ⟨gb166, 3, none⟩ = some (.int .u32 0) := (blk_cell BK166.out 3).trans rfl
    have hcz24_4 : wc.cell? ⟨gb166, 4, none⟩ = some (.int .u16 0) := (blk_cell BK166.out 4).trans rfl
    have hfz24_0 := blk_frozen BK166.out 0
    have hfz24_1 := blk_frozen BK166.out 1
    have hfz24_2 := blk_frozen BK166.out 2
    have hfz24_3 := blk_frozen BK166.out 3
    have hfz24_4 := blk_frozen BK166.out 4
    go_wp2_with (first | (refine Go.Proofs.YtalibiaplhmfhaaX.wp_scope_k ?_; intro Jg hJg; have HJg := Aside0.mk hJg; clear hJg) | (refine wp_label (l := 0) ?_; go_step; (first | (show Code.wp _ _ _ _ _) | go_step)) | (refine wp_goto (l := 0) ?_; refine HJg.out _ _ _ _ rfl ?_; refine Go.Proofs.YtalibiaplhmfhaaX.wp_skip_seq ?_))
    (try rw [Go.Proofs.YtalibiaplhmfhaaX.jumps_ret])
    refine bodyPost_ret (results_ctt rfl _ _ gb166 27 #[.int .i64 0, .int .i64 0, .int .u32 0, .int .u32 0, .int .u16 0] (0, 0) _ rfl (by (with_reducible repeat (first | refine blk_drewN ?_ _ | refine blk_drew ?_ | refine blk_alloc ?_ _)); refine blk_put (cs := #[.int .i64 0, .int .i64 0, .int .u32 0, .int .u32 0, .int .u16 0]) ?_ 4 _ rfl; (with_reducible repeat (first | refine blk_drewN ?_ _ | refine blk_drew ?_ | refine blk_alloc ?_ _)); refine blk_put (cs := #[.int .i64 0, .int .i64 0, .int .u32 0, .int .u32 0, .int .u16 0]) ?_ 3 _ rfl; (with_reducible repeat (first | refine blk_drewN ?_ _ | refine blk_drew ?_ | refine blk_alloc ?_ _)); refine blk_put (cs := #[.int .i64 0, .int .i64 0, .int .u32 0, .int .u32 0, .int .u16 0]) ?_ 2 _ rfl; (with_reducible repeat (first | refine blk_drewN ?_ _ | refine blk_drew ?_ | refine blk_alloc ?_ _)); refine blk_put (cs := #[.int .i64 0, .int .i64 0, .int .u32 0, .int .u32 0, .int .u16 0]) ?_ 1 _ rfl; (with_reducible repeat (first | refine blk_drewN ?_ _ | refine blk_drew ?_ | refine blk_alloc ?_ _)); refine blk_put (cs := #[.int .i64 0, .int .i64 0, .int .u32 0, .int .u32 0, .int .u16 0]) ?_ 0 _ rfl; (with_reducible repeat (first | refine blk_drewN ?_ _ | refine blk_drew ?_ | refine blk_alloc ?_ _)); exact BK166.out) Try.underlying27 rfl (by kernel_rfl)) rfl ?_
    exact ⟨by first | rfl | (simp only [Go.Proofs.YtalibiaplhmfhaaX.ne_nil, Go.Proofs.YtalibiaplhmfhaaX.eq_nil]; rfl) | (simp [Go.Proofs.YtalibiaplhmfhaaX.ne_nil, Go.Proofs.YtalibiaplhmfhaaX.eq_nil]; done) | (simp [errW_none, errW_some] <;> rfl) | (simp [*, errW_none, errW_some] <;> rfl), by repeat (first | (with_reducible first | exact HB.out | apply below_alloc | apply pw_below_drewN | apply below_drew1 | refine below_set ?_ GE166.out | refine below_set ?_ GE172.out) | exact HB.out)⟩
   ·replace c22 := Bool.eq_false_iff.mpr c22
    (first | subst c22 | clear c22)
    have H1 : (if 0 ≤ 6 then (if 6 ≤ (t177.size : Int) then ((addr_Get.f kj5 (t177.extract 0 6)).bind fun bt179 => (if bt179.2.2 = true then ((record_Right.f (wrap64 (t169)) (wrap64 (t173)) ((t176) % 4294967296) bt179.1 bt179.2.1).bind fun t182 => (if t182 = true then (some (wrap64 (t169), wrap64 (t173), (t176) % 4294967296, bt179.1, bt179.2.1, t177.extract 6 t177.size, true)) else (some (0, 0, 0, 0, 0, (⟨#[]⟩ : ByteArray), false)))) else (some (0, 0, 0, 0, 0, (⟨#[]⟩ : ByteArray), false)))) else (none)) else (none)) = some (r1, r2, r3, r4, r5, r6, r7) := by rw [if_neg (show ¬ (false = true) by decide)] at H; exact H
    clear H
    have H := H1
    clear H1
    by_cases c25 : 0 ≤ 6
    ·rw [if_pos c25] at H
     have c25b0 := eq_true c25
     have c25b1 : decide (0 ≤ 6) = true := decide_eq_true c25
     clear c25
     by_cases c26 : 6 ≤ (t177.size : Int)
     ·rw [if_pos c26] at H
      have c26b0 := eq_true c26
      have c26b1 : decide (6 ≤ (t177.size : Int)) = true := decide_eq_true c26
      clear c26
      replace H := Option.bind_eq_some_iff.mp H
      obtain ⟨⟨t179, t180, t181⟩, A270, H⟩ := H
      replace H : (if t181 = true then ((record_Right.f (wrap64 (t169)) (wrap64 (t173)) ((t176) % 4294967296) t179 t180).bind fun t182 => (if t182 = true then (some (wrap64 (t169), wrap64 (t173), (t176) % 4294967296, t179, t180, t177.extract 6 t177.size, true)) else (some (0, 0, 0, 0, 0, (⟨#[]⟩ : ByteArray), false)))) else (some (0, 0, 0, 0, 0, (⟨#[]⟩ : ByteArray), false))) = some (r1, r2, r3, r4, r5, r6, r7) := H
      have A27 := Aside0.mk A270
      clear A270
      by_cases c28 : t181 = true
      ·(first | subst c28 | clear c28)
       have H1 : ((record_Right.f (wrap64 (t169)) (wrap64 (t173)) ((t176) % 4294967296) t179 t180).bind fun t182 => (if t182 = true then (some (wrap64 (t169), wrap64 (t173), (t176) % 4294967296, t179, t180, t177.extract 6 t177.size, true)) else (some (0, 0, 0, 0, 0, (⟨#[]⟩ : ByteArray), false)))) = some (r1, r2, r3, r4, r5, r6, r7) := by first | (rw [if_pos rfl] at H; exact H) | (rw [if_pos trivial] at H; exact H)
       clear H
       have H := H1
       clear H1
       replace H := Option.bind_eq_some_iff.mp H
       obtain ⟨t182, A290, H⟩ := H
       replace H : (if t182 = true then (some (wrap64 (t169), wrap64 (t173), (t176) % 4294967296, t179, t180, t177.extract 6 t177.size, true)) else (some (0, 0, 0, 0, 0, (⟨#[]⟩ : ByteArray), false))) = some (r1, r2, r3, r4, r5, r6, r7) := H
       have A29 := Aside0.mk A290
       clear A290
       by_cases c30 : t182 = true
       ·(first | subst c30 | clear c30)
        have H1 : (some (wrap64 (t169), wrap64 (t173), (t176) % 4294967296, t179, t180, t177.extract 6 t177.size, true)) = some (r1, r2, r3, r4, r5, r6, r7) := by first | (rw [if_pos rfl] at H; exact H) | (rw [if_pos trivial] at H; exact H)
        clear H
        have H := H1
        clear H1
        have c31b0 := eq_true (of_decide_eq_true (by first | (with_reducible assumption) | assumption) : 6 ≤ (t177.size : Int))
        simp only [Option.some.injEq, Prod.mk.injEq] at H
        obtain ⟨rfl, rfl, rfl, rfl, rfl, rfl, rfl⟩ := H
        have hnb32 := NB172_166.out
        have hnc32 := NB166_172.out
        have hcz33_0 : wc.cell? ⟨gb172, 0, none⟩ = some (.string t177) := (blk_cell BK172.out 0).trans rfl
        have hcz33_1 : wc.cell? ⟨gb172, 1, none⟩ = some (.bool t178) := (blk_cell BK172.out 1).trans rfl
        have hfz33_0 := blk_frozen BK172.out 0
        have hfz33_1 := blk_frozen BK172.out 1
        try go_wp2_with (first | (refine Go.Proofs.YtalibiaplhmfhaaX.wp_scope_k ?_; intro Jg hJg; have HJg := Aside0.mk hJg; clear hJg) | (refine wp_label (l := 0) ?_; go_step; (first | (show Code.wp _ _ _ _ _) | go_step)) | (refine wp_goto (l := 0) ?_; refine HJg.out _ _ _ _ rfl ?_; refine Go.Proofs.YtalibiaplhmfhaaX.wp_skip_seq ?_) | ((with_reducible refine gate_callee (f := 42) rfl ?_); refine goesL_ (some 37) rfl rfl Try.func42 (by kernel_rfl) rfl #[.string (t177.extract 0 6)] rfl (by (try simp only [List.map_toArray, List.map_cons, List.map_nil]); first | done | rfl | (simp only [List.length_drop, List.length_take]; rfl)) ?_; (with_reducible refine (addr_Get.calls kj5 (t177.extract 0 6) t179 t180 true _ A27.out).mono ?_); rintro e w34 ⟨rfl, hb⟩; refine ⟨_, rfl, ?_⟩; have n0_ := Aside0.mk (blk_below (g := gb166) (o := .cells #[.int .i64 0, .int .i64 0, .int .u32 0, .int .u32 0, .int .u16 0] 27 (0, 0)) (by (with_reducible repeat (first | refine blk_drewN ?_ _ | refine blk_drew ?_ | refine blk_alloc ?_ _)); exact BK166.out) hb); have n1_ := Aside0.mk (blk_below (g := gb172) (o := .cells #[.string t177, .bool t178] 71 (0, 0)) (by (with_reducible repeat (first | refine blk_drewN ?_ _ | refine blk_drew ?_ | refine blk_alloc ?_ _)); exact BK172.out) hb); have n2_ := Aside0.mk (below_step (by repeat (first | (with_reducible first | exact HB.out | apply below_alloc | apply pw_below_drewN | apply below_drew1 | refine below_set ?_ GE166.out | refine below_set ?_ GE172.out) | exact HB.out)) hb); clear BK166; clear BK172; clear HB; have BK166 := n0_; have BK172 := n1_; have HB := n2_; clear n0_ n1_ n2_; (try clear hb); (try clear hb2); (try clear hk); (try clear hi); have hcz35_0 : w34.cell? ⟨gb166, 0, none⟩ = some (.int .i64 0) := (blk_cell BK166.out 0).trans rfl; have hcz35_1 : w34.cell? ⟨gb166, 1, none⟩ = some (.int .i64 0) := (blk_cell BK166.out 1).trans rfl; have hcz35_2 : w34.cell? ⟨gb166, 2, none⟩ = some (.int .u32 0) := (blk_cell BK166.out 2).trans rfl; have hcz35_3 : w34.cell? ⟨gb166, 3, none⟩ = some (.int .u32 0) := (blk_cell BK166.out 3).trans rfl; have hcz35_4 : w34.cell? ⟨gb166, 4, none⟩ = some (.int .u16 0) := (blk_cell BK166.out 4).trans rfl; have hfz35_0 := blk_frozen BK166.out 0; have hfz35_1 := blk_frozen BK166.out 1; have hfz35_2 := blk_frozen BK166.out 2; have hfz35_3 := blk_frozen BK166.out 3; have hfz35_4 := blk_frozen BK166.out 4) | (go_at_call 14; (with_reducible refine (record_Right.calls (wrap64 (t169)) (wrap64 (t173)) ((t176) % 4294967296) t179 t180 true _ A29.out).mono ?_); rintro e w36 ⟨rfl, hb⟩; have n0_ := Aside0.mk (blk_below (g := gb166) (o := .cells #[.int .i64 (wrap64 (t169)), .int .i64 (wrap64 (t173)), .int .u32 ((t176) % 4294967296), .int .u32 t179, .int .u16 t180] 27 (0, 0)) (by (with_reducible repeat (first | refine blk_drewN ?_ _ | refine blk_drew ?_ | refine blk_alloc ?_ _)); refine blk_put (cs := #[.int .i64 (wrap64 (t169)), .int .i64 (wrap64 (t173)), .int .u32 0, .int .u32 t179, .int .u16 t180]) ?_ 2 _ rfl; (with_reducible repeat (first | refine blk_drewN ?_ _ | refine blk_drew ?_ | refine blk_alloc ?_ _)); refine blk_put (cs := #[.int .i64 (wrap64 (t169)), .int .i64 0, .int .u32 0, .int .u32 t179, .int .u16 t180]) ?_ 1 _ rfl; (with_reducible repeat (first | refine blk_drewN ?_ _ | refine blk_drew ?_ | refine blk_alloc ?_ _)); refine blk_put (cs := #[.int .i64 0, .int .i64 0, .int .u32 0, .int .u32 t179, .int .u16 t180]) ?_ 0 _ rfl; (with_reducible repeat (first | refine blk_drewN ?_ _ | refine blk_drew ?_ | refine blk_alloc ?_ _)); refine blk_put (cs := #[.int .i64 0, .int .i64 0, .int .u32 0, .int .u32 t179, .int .u16 0]) ?_ 4 _ rfl; (with_reducible repeat (first | refine blk_drewN ?_ _ | refine blk_drew ?_ | refine blk_alloc ?_ _)); refine blk_put (cs := #[.int .i64 0, .int .i64 0, .int .u32 0, .int .u32 0, .int .u16 0]) ?_ 3 _ rfl; (with_reducible repeat (first | refine blk_drewN ?_ _ | refine blk_drew ?_ | refine blk_alloc ?_ _)); exact BK166.out) hb); have n1_ := Aside0.mk (blk_below (g := gb172) (o := .cells #[.string t177, .bool t178] 71 (0, 0)) (by (with_reducible repeat (first | refine blk_drewN ?_ _ | refine blk_drew ?_ | refine blk_alloc ?_ _)); refine blk_far ?_ NB172_166.out _; (with_reducible repeat (first | refine blk_drewN ?_ _ | refine blk_drew ?_ | refine blk_alloc ?_ _)); refine blk_far ?_ NB172_166.out _; (with_reducible repeat (first | refine blk_drewN ?_ _ | refine blk_drew ?_ | refine blk_alloc ?_ _)); refine blk_far ?_ NB172_166.out _; (with_reducible repeat (first | refine blk_drewN ?_ _ | refine blk_drew ?_ | refine blk_alloc ?_ _)); refine blk_far ?_ NB172_166.out _; (with_reducible repeat (first | refine blk_drewN ?_ _ | refine blk_drew ?_ | refine blk_alloc ?_ _)); refine blk_far ?_ NB172_166.out _; (with_reducible repeat (first | refine blk_drewN ?_ _ | refine blk_drew ?_ | refine blk_alloc ?_ _)); exact BK172.out) hb); have n2_ := Aside0.mk (below_step (by repeat (first | (with_reducible first | exact HB.out | apply below_alloc | apply pw_below_drewN | apply below_drew1 | refine below_set ?_ GE166.out | refine below_set ?_ GE172.out) | exact HB.out)) hb); clear BK166; clear BK172; clear HB; have BK166 := n0_; have BK172 := n1_; have HB := n2_; clear n0_ n1_ n2_; (try clear hb); (try clear hb2); (try clear hk); (try clear hi)))
        have n0_ := Aside0.mk (blk_drew BK166.out)
        have n1_ := Aside0.mk (blk_drew BK172.out)
        have n2_ := Aside0.mk (below_drew1 HB.out)
        clear BK166
        clear BK172
        clear HB
        have BK166 := n0_
        have BK172 := n1_
        have HB := n2_
        clear n0_ n1_ n2_
        refine start_ (n := 7) (S := fun w' => w'.cell? ⟨gb166, 0, none⟩ = some (.int .i64 (wrap64 (t169))) ∧ w'.cell? ⟨gb166, 1, none⟩ = some (.int .i64 (wrap64 (t173))) ∧ w'.cell? ⟨gb166, 2, none⟩ = some (.int .u32 ((t176) % 4294967296)) ∧ w'.cell? ⟨gb166, 3, none⟩ = some (.int .u32 t179) ∧ w'.cell? ⟨gb166, 4, none⟩ = some (.int .u16 t180) ∧ w'.cell? ⟨gb172, 0, none⟩ = some (.string t177) ∧ w'.cell? ⟨gb172, 1, none⟩ = some (.bool t178)) (ds := []) #[false, false, false, false, false, false, false] (by kernel_rfl) rfl rfl ⟨(blk_cell BK166.out 0).trans rfl, (blk_cell BK166.out 1).trans rfl, (blk_cell BK166.out 2).trans rfl, (blk_cell BK166.out 3).trans rfl, (blk_cell BK166.out 4).trans rfl, (blk_cell BK172.out 0).trans rfl, (blk_cell BK172.out 1).trans rfl⟩ (fun hHeld => ?_)
        generalize w36.drew = w37 at BK166 BK172 HB hHeld ⊢
        refine pure_ (i := 1) (N := some 56) (v := ?_) (a' := ?_) #[false, true, false, false, false, false, false] rfl rfl (by kernel_rfl) (fun _ _ _ h => h) (Or.inl ⟨by rfl, ?_⟩) ?_ ?_
        rotate_left
        ·intro w'
         go_simp
         with_reducible rfl
        rotate_left
        ·simp only [Act.put, List.setIfInBounds_toArray, List.set_cons_zero, List.set_cons_succ, i64_w, i32_w]
         rfl
        refine take_ (i := 0) (N := some 55) (v := ?_) (a' := ?_) #[true, true, false, false, false, false, false] rfl rfl (by kernel_rfl) (fun _ _ _ h => h) (Or.inl ⟨by rfl, ?_⟩) hHeld ?_ ?_
        rotate_left
        ·rintro w' ⟨s0, s1, s2, s3, s4, s5, s6⟩
         go_simp
         with_reducible rfl
        rotate_left
        ·simp only [Act.put, List.setIfInBounds_toArray, List.set_cons_zero, List.set_cons_succ, i64_w, i32_w]
         rfl
        refine take_ (i := 2) (N := some 57) (v := ?_) (a' := ?_) #[true, true, true, false, false, false, false] rfl rfl (by kernel_rfl) (fun _ _ _ h => h) (Or.inl ⟨by rfl, ?_⟩) hHeld ?_ ?_
        rotate_left
        ·rintro w' ⟨s0, s1, s2, s3, s4, s5, s6⟩
         go_simp
         with_reducible rfl
        rotate_left
        ·simp only [Act.put, List.setIfInBounds_toArray, List.set_cons_zero, List.set_cons_succ, i64_w, i32_w]
         rfl
        refine pure_ (i := 3) (N := some 58) (v := ?_) (a' := ?_) #[true, true, true, true, false, false, false] rfl rfl (by kernel_rfl) (fun _ _ _ h => h) (Or.inl ⟨by rfl, ?_⟩) ?_ ?_
        rotate_left
        ·intro w'
         go_simp
         with_reducible rfl
        rotate_left
        ·simp only [Act.put, List.setIfInBounds_toArray, List.set_cons_zero, List.set_cons_succ, i64_w, i32_w]
         rfl
        refine one_ (i := 4) (N := none) #[true, true, true, true, true, false, false] rfl rfl (by kernel_rfl) (by decide) (fun K hK => ?_)
        have hs38 : w37.cell? ⟨gb166, 0, none⟩ = some (.int .i64 (wrap64 (t169))) := (blk_cell BK166.out 0).trans rfl
        have hfs38 := blk_frozen BK166.out 0
        have hns38_1 := NB172_166.out
        have hms38_1 := NB166_172.out
        have hs39 : w37.cell? ⟨gb166, 1, none⟩ = some (.int .i64 (wrap64 (t173))) := (blk_cell BK166.out 1).trans rfl
        have hfs39 := blk_frozen BK166.out 1
        have hns39_1 := NB172_166.out
        have hms39_1 := NB166_172.out
        have hs40 : w37.cell? ⟨gb166, 2, none⟩ = some (.int .u32 ((t176) % 4294967296)) := (blk_cell BK166.out 2).trans rfl
        have hfs40 := blk_frozen BK166.out 2
        have hns40_1 := NB172_166.out
        have hms40_1 := NB166_172.out
        have hs41 : w37.cell? ⟨gb166, 3, none⟩ = some (.int .u32 t179) := (blk_cell BK166.out 3).trans rfl
        have hfs41 := blk_frozen BK166.out 3
        have hns41_1 := NB172_166.out
        have hms41_1 := NB166_172.out
        have hs42 : w37.cell? ⟨gb166, 4, none⟩ = some (.int .u16 t180) := (blk_cell BK166.out 4).trans rfl
        have hfs42 := blk_frozen BK166.out 4
        have hns42_1 := NB172_166.out
        have hms42_1 := NB166_172.out
        refine skip_ (w1 := ?_) (by rfl) rfl ?_ ?_
        rotate_left
        ·go_simp
         rfl
        refine hK.out _ _ ⟨(Go.Proofs.YtalibiaplhmfhaaX.cell_keep ((Go.Proofs.YtalibiaplhmfhaaX.cell_keep ((Go.Proofs.YtalibiaplhmfhaaX.cell_keep ((Go.Proofs.YtalibiaplhmfhaaX.cell_keep ((Go.Proofs.YtalibiaplhmfhaaX.cell_keep (hHeld.1) (by first | exact Or.inr rfl | (left; intro e_; injection e_ with _ e_ _; exact absurd e_ (by decide))))) (by first | exact Or.inr rfl | (left; intro e_; injection e_ with _ e_ _; exact absurd e_ (by decide))))) (by first | exact Or.inr rfl | (left; intro e_; injection e_ with _ e_ _; exact absurd e_ (by decide))))) (by first | exact Or.inr rfl | (left; intro e_; injection e_ with _ e_ _; exact absurd e_ (by decide))))) (by first | exact Or.inr rfl | (left; intro e_; injection e_ with _ e_ _; exact absurd e_ (by decide)))), (Go.Proofs.YtalibiaplhmfhaaX.cell_keep ((Go.Proofs.YtalibiaplhmfhaaX.cell_keep ((Go.Proofs.YtalibiaplhmfhaaX.cell_keep ((Go.Proofs.YtalibiaplhmfhaaX.cell_keep ((Go.Proofs.YtalibiaplhmfhaaX.cell_keep (hHeld.2.1) (by first | exact Or.inr rfl | (left; intro e_; injection e_ with _ e_ _; exact absurd e_ (by decide))))) (by first | exact Or.inr rfl | (left; intro e_; injection e_ with _ e_ _; exact absurd e_ (by decide))))) (by first | exact Or.inr rfl | (left; intro e_; injection e_ with _ e_ _; exact absurd e_ (by decide))))) (by first | exact Or.inr rfl | (left; intro e_; injection e_ with _ e_ _; exact absurd e_ (by decide))))) (by first | exact Or.inr rfl | (left; intro e_; injection e_ with _ e_ _; exact absurd e_ (by decide)))), (Go.Proofs.YtalibiaplhmfhaaX.cell_keep ((Go.Proofs.YtalibiaplhmfhaaX.cell_keep ((Go.Proofs.YtalibiaplhmfhaaX.cell_keep ((Go.Proofs.YtalibiaplhmfhaaX.cell_keep ((Go.Proofs.YtalibiaplhmfhaaX.cell_keep (hHeld.2.2.1) (by first | exact Or.inr rfl | (left; intro e_; injection e_ with _ e_ _; exact absurd e_ (by decide))))) (by first | exact Or.inr rfl | (left; intro e_; injection e_ with _ e_ _; exact absurd e_ (by decide))))) (by first | exact Or.inr rfl | (left; intro e_; injection e_ with _ e_ _; exact absurd e_ (by decide))))) (by first | exact Or.inr rfl | (left; intro e_; injection e_ with _ e_ _; exact absurd e_ (by decide))))) (by first | exact Or.inr rfl | (left; intro e_; injection e_ with _ e_ _; exact absurd e_ (by decide)))), (Go.Proofs.YtalibiaplhmfhaaX.cell_keep ((Go.Proofs.YtalibiaplhmfhaaX.cell_keep ((Go.Proofs.YtalibiaplhmfhaaX.cell_keep ((Go.Proofs.YtalibiaplhmfhaaX.cell_keep ((Go.Proofs.YtalibiaplhmfhaaX.cell_keep (hHeld.2.2.2.1) (by first | exact Or.inr rfl | (left; intro e_; injection e_ with _ e_ _; exact absurd e_ (by decide))))) (by first | exact Or.inr rfl | (left; intro e_; injection e_ with _ e_ _; exact absurd e_ (by decide))))) (by first | exact Or.inr rfl | (left; intro e_; injection e_ with _ e_ _; exact absurd e_ (by decide))))) (by first | exact Or.inr rfl | (left; intro e_; injection e_ with _ e_ _; exact absurd e_ (by decide))))) (by first | exact Or.inr rfl | (left; intro e_; injection e_ with _ e_ _; exact absurd e_ (by decide)))), (Go.Proofs.YtalibiaplhmfhaaX.cell_keep ((Go.Proofs.YtalibiaplhmfhaaX.cell_keep ((Go.Proofs.YtalibiaplhmfhaaX.cell_keep ((Go.Proofs.YtalibiaplhmfhaaX.cell_keep ((Go.Proofs.YtalibiaplhmfhaaX.cell_keep (hHeld.2.2.2.2.1) (by first | exact Or.inr rfl | (left; intro e_; injection e_ with _ e_ _; exact absurd e_ (by decide))))) (by first | exact Or.inr rfl | (left; intro e_; injection e_ with _ e_ _; exact absurd e_ (by decide))))) (by first | exact Or.inr rfl | (left; intro e_; injection e_ with _ e_ _; exact absurd e_ (by decide))))) (by first | exact Or.inr rfl | (left; intro e_; injection e_ with _ e_ _; exact absurd e_ (by decide))))) (by first | exact Or.inr rfl | (left; intro e_; injection e_ with _ e_ _; exact absurd e_ (by decide)))), ((cell_far (p := ⟨gb166, _, none⟩) NB172_166.out _).trans (((cell_far (p := ⟨gb166, _, none⟩) NB172_166.out _).trans (((cell_far (p := ⟨gb166, _, none⟩) NB172_166.out _).trans (((cell_far (p := ⟨gb166, _, none⟩) NB172_166.out _).trans (((cell_far (p := ⟨gb166, _, none⟩) NB172_166.out _).trans (hHeld.2.2.2.2.2.1)))))))))), ((cell_far (p := ⟨gb166, _, none⟩) NB172_166.out _).trans (((cell_far (p := ⟨gb166, _, none⟩) NB172_166.out _).trans (((cell_far (p := ⟨gb166, _, none⟩) NB172_166.out _).trans (((cell_far (p := ⟨gb166, _, none⟩) NB172_166.out _).trans (((cell_far (p := ⟨gb166, _, none⟩) NB172_166.out _).trans (hHeld.2.2.2.2.2.2))))))))))⟩ (fun hHeld => ?_)
        clear hK K
        refine pure_ (i := 5) (N := some 3) (v := ?_) (a' := ?_) #[true, true, true, true, true, true, false] rfl rfl (by kernel_rfl) (fun _ _ _ h => h) (Or.inl ⟨by rfl, ?_⟩) ?_ ?_
        rotate_left
        ·intro w'
         go_simp
         with_reducible rfl
        rotate_left
        ·simp only [Act.put, List.setIfInBounds_toArray, List.set_cons_zero, List.set_cons_succ, i64_w, i32_w]
         rfl
        refine pure_ (i := 6) (N := some 4) (v := ?_) (a' := ?_) #[true, true, true, true, true, true, true] rfl rfl (by kernel_rfl) (fun _ _ _ h => h) (Or.inl ⟨by rfl, ?_⟩) ?_ ?_
        rotate_left
        ·intro w'
         go_simp
         with_reducible rfl
        rotate_left
        ·simp only [Act.put, List.setIfInBounds_toArray, List.set_cons_zero, List.set_cons_succ, i64_w, i32_w]
         rfl
        refine done_ (by kernel_rfl) ?_
        try go_wp2_with (first | (refine Go.Proofs.YtalibiaplhmfhaaX.wp_scope_k ?_; intro Jg hJg; have HJg := Aside0.mk hJg; clear hJg) | (refine wp_label (l := 0) ?_; go_step; (first | (show Code.wp _ _ _ _ _) | go_step)) | (refine wp_goto (l := 0) ?_; refine HJg.out _ _ _ _ rfl ?_; refine Go.Proofs.YtalibiaplhmfhaaX.wp_skip_seq ?_))
        (try rw [Go.Proofs.YtalibiaplhmfhaaX.jumps_ret])
        refine bodyPost_ret (results_ctt rfl _ _ gb166 27 #[.int .i64 (wrap64 (t169)), .int .i64 (wrap64 (t173)), .int .u32 ((t176) % 4294967296), .int .u32 t179, .int .u16 t180] (0, 0) _ rfl (by (with_reducible repeat (first | refine blk_drewN ?_ _ | refine blk_drew ?_ | refine blk_alloc ?_ _)); refine blk_put (cs := #[.int .i64 (wrap64 (t169)), .int .i64 (wrap64 (t173)), .int .u32 ((t176) % 4294967296), .int .u32 t179, .int .u16 t180]) ?_ 4 _ rfl; (with_reducible repeat (first | refine blk_drewN ?_ _ | refine blk_drew ?_ | refine blk_alloc ?_ _)); refine blk_put (cs := #[.int .i64 (wrap64 (t169)), .int .i64 (wrap64 (t173)), .int .u32 ((t176) % 4294967296), .int .u32 t179, .int .u16 t180]) ?_ 3 _ rfl; (with_reducible repeat (first | refine blk_drewN ?_ _ | refine blk_drew ?_ | refine blk_alloc ?_ _)); refine blk_put (cs := #[.int .i64 (wrap64 (t169)), .int .i64 (wrap64 (t173)), .int .u32 ((t176) % 4294967296), .int .u32 t179, .int .u16 t180]) ?_ 2 _ rfl; (with_reducible repeat (first | refine blk_drewN ?_ _ | refine blk_drew ?_ | refine blk_alloc ?_ _)); refine blk_put (cs := #[.int .i64 (wrap64 (t169)), .int .i64 (wrap64 (t173)), .int .u32 ((t176) % 4294967296), .int .u32 t179, .int .u16 t180]) ?_ 1 _ rfl; (with_reducible repeat (first | refine blk_drewN ?_ _ | refine blk_drew ?_ | refine blk_alloc ?_ _)); refine blk_put (cs := #[.int .i64 (wrap64 (t169)), .int .i64 (wrap64 (t173)), .int .u32 ((t176) % 4294967296), .int .u32 t179, .int .u16 t180]) ?_ 0 _ rfl; (with_reducible repeat (first | refine blk_drewN ?_ _ | refine blk_drew ?_ | refine blk_alloc ?_ _)); exact BK166.out) Try.underlying27 rfl (by kernel_rfl)) rfl ?_
        exact ⟨by first | rfl | (simp only [Go.Proofs.YtalibiaplhmfhaaX.ne_nil, Go.Proofs.YtalibiaplhmfhaaX.eq_nil]; rfl) | (simp [Go.Proofs.YtalibiaplhmfhaaX.ne_nil, Go.Proofs.YtalibiaplhmfhaaX.eq_nil]; done) | (simp [errW_none, errW_some] <;> rfl) | (simp [*, errW_none, errW_some] <;> rfl), by repeat (first | (with_reducible first | exact HB.out | apply below_alloc | apply pw_below_drewN | apply below_drew1 | refine below_set ?_ GE166.out | refine below_set ?_ GE172.out) | exact HB.out)⟩
       ·replace c30 := Bool.eq_false_iff.mpr c30
        (first | subst c30 | clear c30)
        have H1 : (some (0, 0, 0, 0, 0, (⟨#[]⟩ : ByteArray), false)) = some (r1, r2, r3, r4, r5, r6, r7) := by rw [if_neg (show ¬ (false = true) by decide)] at H; exact H
        clear H
        have H := H1
        clear H1
        simp only [Option.some.injEq, Prod.mk.injEq] at H
        obtain ⟨rfl, rfl, rfl, rfl, rfl, rfl, rfl⟩ := H
        have hnb43 := NB172_166.out
        have hnc43 := NB166_172.out
        have hcz44_0 : wc.cell? ⟨gb172, 0, none⟩ = some (.string t177) := (blk_cell BK172.out 0).trans rfl
        have hcz44_1 : wc.cell? ⟨gb172, 1, none⟩ = some (.bool t178) := (blk_cell BK172.out 1).trans rfl
        have hfz44_0 := blk_frozen BK172.out 0
        have hfz44_1 := blk_frozen BK172.out 1
        go_wp2_with (first | (refine Go.Proofs.YtalibiaplhmfhaaX.wp_scope_k ?_; intro Jg hJg; have HJg := Aside0.mk hJg; clear hJg) | (refine wp_label (l := 0) ?_; go_step; (first | (show Code.wp _ _ _ _ _) | go_step)) | (refine wp_goto (l := 0) ?_; refine HJg.out _ _ _ _ rfl ?_; refine Go.Proofs.YtalibiaplhmfhaaX.wp_skip_seq ?_) | ((with_reducible refine gate_callee (f := 42) rfl ?_); refine goesL_ (some 37) rfl rfl Try.func42 (by kernel_rfl) rfl #[.string (t177.extract 0 6)] rfl (by (try simp only [List.map_toArray, List.map_cons, List.map_nil]); first | done | rfl | (simp only [List.length_drop, List.length_take]; rfl)) ?_; (with_reducible refine (addr_Get.calls kj5 (t177.extract 0 6) t179 t180 true _ A27.out).mono ?_); rintro e w45 ⟨rfl, hb⟩; refine ⟨_, rfl, ?_⟩; have n0_ := Aside0.mk (blk_below (g := gb166) (o := .cells #[.int .i64 0, .int .i64 0, .int .u32 0, .int .u32 0, .int .u16 0] 27 (0, 0)) (by (with_reducible repeat (first | refine blk_drewN ?_ _ | refine blk_drew ?_ | refine blk_alloc ?_ _)); exact BK166.out) hb); have n1_ := Aside0.mk (blk_below (g := gb172) (o := .cells #[.string t177, .bool t178] 71 (0, 0)) (by (with_reducible repeat (first | refine blk_drewN ?_ _ | refine blk_drew ?_ | refine blk_alloc ?_ _)); exact BK172.out) hb); have n2_ := Aside0.mk (below_step (by repeat (first | (with_reducible first | exact HB.out | apply below_alloc | apply pw_below_drewN | apply below_drew1 | refine below_set ?_ GE166.out | refine below_set ?_ GE172.out) | exact HB.out)) hb); clear BK166; clear BK172; clear HB; have BK166 := n0_; have BK172 := n1_; have HB := n2_; clear n0_ n1_ n2_; (try clear hb); (try clear hb2); (try clear hk); (try clear hi); have hcz46_0 : w45.cell? ⟨gb166, 0, none⟩ = some (.int .i64 0) := (blk_cell BK166.out 0).trans rfl; have hcz46_1 : w45.cell? ⟨gb166, 1, none⟩ = some (.int .i64 0) := (blk_cell BK166.out 1).trans rfl; have hcz46_2 : w45.cell? ⟨gb166, 2, none⟩ = some (.int .u32 0) := (blk_cell BK166.out 2).trans rfl; have hcz46_3 : w45.cell? ⟨gb166, 3, none⟩ = some (.int .u32 0) := (blk_cell BK166.out 3).trans rfl; have hcz46_4 : w45.cell? ⟨gb166, 4, none⟩ = some (.int .u16 0) := (blk_cell BK166.out 4).trans rfl; have hfz46_0 := blk_frozen BK166.out 0; have hfz46_1 := blk_frozen BK166.out 1; have hfz46_2 := blk_frozen BK166.out 2; have hfz46_3 := blk_frozen BK166.out 3; have hfz46_4 := blk_frozen BK166.out 4) | (go_at_call 14; (with_reducible refine (record_Right.calls (wrap64 (t169)) (wrap64 (t173)) ((t176) % 4294967296) t179 t180 false _ A29.out).mono ?_); rintro e w47 ⟨rfl, hb⟩; have n0_ := Aside0.mk (blk_below (g := gb166) (o := .cells #[.int .i64 (wrap64 (t169)), .int .i64 (wrap64 (t173)), .int .u32 ((t176) % 4294967296), .int .u32 t179, .int .u16 t180] 27 (0, 0)) (by (with_reducible repeat (first | refine blk_drewN ?_ _ | refine blk_drew ?_ | refine blk_alloc ?_ _)); refine blk_put (cs := #[.int .i64 (wrap64 (t169)), .int .i64 (wrap64 (t173)), .int .u32 0, .int .u32 t179, .int .u16 t180]) ?_ 2 _ rfl; (with_reducible repeat (first | refine blk_drewN ?_ _ | refine blk_drew ?_ | refine blk_alloc ?_ _)); refine blk_put (cs := #[.int .i64 (wrap64 (t169)), .int .i64 0, .int .u32 0, .int .u32 t179, .int .u16 t180]) ?_ 1 _ rfl; (with_reducible repeat (first | refine blk_drewN ?_ _ | refine blk_drew ?_ | refine blk_alloc ?_ _)); refine blk_put (cs := #[.int .i64 0, .int .i64 0, .int .u32 0, .int .u32 t179, .int .u16 t180]) ?_ 0 _ rfl; (with_reducible repeat (first | refine blk_drewN ?_ _ | refine blk_drew ?_ | refine blk_alloc ?_ _)); refine blk_put (cs := #[.int .i64 0, .int .i64 0, .int .u32 0, .int .u32 t179, .int .u16 0]) ?_ 4 _ rfl; (with_reducible repeat (first | refine blk_drewN ?_ _ | refine blk_drew ?_ | refine blk_alloc ?_ _)); refine blk_put (cs := #[.int .i64 0, .int .i64 0, .int .u32 0, .int .u32 0, .int .u16 0]) ?_ 3 _ rfl; (with_reducible repeat (first | refine blk_drewN ?_ _ | refine blk_drew ?_ | refine blk_alloc ?_ _)); exact BK166.out) hb); have n1_ := Aside0.mk (blk_below (g := gb172) (o := .cells #[.string t177, .bool t178] 71 (0, 0)) (by (with_reducible repeat (first | refine blk_drewN ?_ _ | refine blk_drew ?_ | refine blk_alloc ?_ _)); refine blk_far ?_ NB172_166.out _; (with_reducible repeat (first | refine blk_drewN ?_ _ | refine blk_drew ?_ | refine blk_alloc ?_ _)); refine blk_far ?_ NB172_166.out _; (with_reducible repeat (first | refine blk_drewN ?_ _ | refine blk_drew ?_ | refine blk_alloc ?_ _)); refine blk_far ?_ NB172_166.out _; (with_reducible repeat (first | refine blk_drewN ?_ _ | refine blk_drew ?_ | refine blk_alloc ?_ _)); refine blk_far ?_ NB172_166.out _; (with_reducible repeat (first | refine blk_drewN ?_ _ | refine blk_drew ?_ | refine blk_alloc ?_ _)); refine blk_far ?_ NB172_166.out _; (with_reducible repeat (first | refine blk_drewN ?_ _ | refine blk_drew ?_ | refine blk_alloc ?_ _)); exact BK172.out) hb); have n2_ := Aside0.mk (below_step (by repeat (first | (with_reducible first | exact HB.out | apply below_alloc | apply pw_below_drewN | apply below_drew1 | refine below_set ?_ GE166.out | refine below_set ?_ GE172.out) | exact HB.out)) hb); clear BK166; clear BK172; clear HB; have BK166 := n0_; have BK172 := n1_; have HB := n2_; clear n0_ n1_ n2_; (try clear hb); (try clear hb2); (try clear hk); (try clear hi); have hcz48_0 : w47.cell? ⟨gb166, 0, none⟩ = some (.int .i64 (wrap64 (t169))) := (blk_cell BK166.out 0).trans rfl; have hcz48_1 : w47.cell? ⟨gb166, 1, none⟩ = some (.int .i64 (wrap64 (t173))) := (blk_cell BK166.out 1).trans rfl; have hcz48_2 : w47.cell? ⟨gb166, 2, none⟩ = some (.int .u32 ((t176) % 4294967296)) := (blk_cell BK166.out 2).trans rfl; have hcz48_3 : w47.cell? ⟨gb166, 3, none⟩ = some (.int .u32 t179) := (blk_cell BK166.out 3).trans rfl; have hcz48_4 : w47.cell? ⟨gb166, 4, none⟩ = some (.int .u16 t180) := (blk_cell BK166.out 4).trans rfl; have hfz48_0 := blk_frozen BK166.out 0; have hfz48_1 := blk_frozen BK166.out 1; have hfz48_2 := blk_frozen BK166.out 2; have hfz48_3 := blk_frozen BK166.out 3; have hfz48_4 := blk_frozen BK166.out 4))
        (try rw [Go.Proofs.YtalibiaplhmfhaaX.jumps_ret])
        refine bodyPost_ret (results_ctt rfl _ _ gb166 27 #[.int .i64 0, .int .i64 0, .int .u32 0, .int .u32 0, .int .u16 0] (0, 0) _ rfl (by (with_reducible repeat (first | refine blk_drewN ?_ _ | refine blk_drew ?_ | refine blk_alloc ?_ _)); refine blk_put (cs := #[.int .i64 0, .int .i64 0, .int .u32 0, .int .u32 0, .int .u16 t180]) ?_ 4 _ rfl; (with_reducible repeat (first | refine blk_drewN ?_ _ | refine blk_drew ?_ | refine blk_alloc ?_ _)); refine blk_put (cs := #[.int .i64 0, .int .i64 0, .int .u32 0, .int .u32 t179, .int .u16 t180]) ?_ 3 _ rfl; (with_reducible repeat (first | refine blk_drewN ?_ _ | refine blk_drew ?_ | refine blk_alloc ?_ _)); refine blk_put (cs := #[.int .i64 0, .int .i64 0, .int .u32 ((t176) % 4294967296), .int .u32 t179, .int .u16 t180]) ?_ 2 _ rfl; (with_reducible repeat (first | refine blk_drewN ?_ _ | refine blk_drew ?_ | refine blk_alloc ?_ _)); refine blk_put (cs := #[.int .i64 0, .int .i64 (wrap64 (t173)), .int .u32 ((t176) % 4294967296), .int .u32 t179, .int .u16 t180]) ?_ 1 _ rfl; (with_reducible repeat (first | refine blk_drewN ?_ _ | refine blk_drew ?_ | refine blk_alloc ?_ _)); refine blk_put (cs := #[.int .i64 (wrap64 (t169)), .int .i64 (wrap64 (t173)), .int .u32 ((t176) % 4294967296), .int .u32 t179, .int .u16 t180]) ?_ 0 _ rfl; (with_reducible repeat (first | refine blk_drewN ?_ _ | refine blk_drew ?_ | refine blk_alloc ?_ _)); exact BK166.out) Try.underlying27 rfl (by kernel_rfl)) rfl ?_
        exact ⟨by first | rfl | (simp only [Go.Proofs.YtalibiaplhmfhaaX.ne_nil, Go.Proofs.YtalibiaplhmfhaaX.eq_nil]; rfl) | (simp [Go.Proofs.YtalibiaplhmfhaaX.ne_nil, Go.Proofs.YtalibiaplhmfhaaX.eq_nil]; done) | (simp [errW_none, errW_some] <;> rfl) | (simp [*, errW_none, errW_some] <;> rfl), by repeat (first | (with_reducible first | exact HB.out | apply below_alloc | apply pw_below_drewN | apply below_drew1 | refine below_set ?_ GE166.out | refine below_set ?_ GE172.out) | exact HB.out)⟩
      ·replace c28 := Bool.eq_false_iff.mpr c28
       (first | subst c28 | clear c28)
       have H1 : (some (0, 0, 0, 0, 0, (⟨#[]⟩ : ByteArray), false)) = some (r1, r2, r3, r4, r5, r6, r7) := by rw [if_neg (show ¬ (false = true) by decide)] at H; exact H
       clear H
       have H := H1
       clear H1
       simp only [Option.some.injEq, Prod.mk.injEq] at H
       obtain ⟨rfl, rfl, rfl, rfl, rfl, rfl, rfl⟩ := H
       have hnb49 := NB172_166.out
       have hnc49 := NB166_172.out
       have hcz50_0 : wc.cell? ⟨gb172, 0, none⟩ = some (.string t177) := (blk_cell BK172.out 0).trans rfl
       have hcz50_1 : wc.cell? ⟨gb172, 1, none⟩ = some (.bool t178) := (blk_cell BK172.out 1).trans rfl
       have hfz50_0 := blk_frozen BK172.out 0
       have hfz50_1 := blk_frozen BK172.out 1
       go_wp2_with (first | (refine Go.Proofs.YtalibiaplhmfhaaX.wp_scope_k ?_; intro Jg hJg; have HJg := Aside0.mk hJg; clear hJg) | (refine wp_label (l := 0) ?_; go_step; (first | (show Code.wp _ _ _ _ _) | go_step)) | (refine wp_goto (l := 0) ?_; refine HJg.out _ _ _ _ rfl ?_; refine Go.Proofs.YtalibiaplhmfhaaX.wp_skip_seq ?_) | ((with_reducible refine gate_callee (f := 42) rfl ?_); refine goesL_ (some 37) rfl rfl Try.func42 (by kernel_rfl) rfl #[.string (t177.extract 0 6)] rfl (by (try simp only [List.map_toArray, List.map_cons, List.map_nil]); first | done | rfl | (simp only [List.length_drop, List.length_take]; rfl)) ?_; (with_reducible refine (addr_Get.calls kj5 (t177.extract 0 6) t179 t180 false _ A27.out).mono ?_); rintro e w51 ⟨rfl, hb⟩; refine ⟨_, rfl, ?_⟩; have n0_ := Aside0.mk (blk_below (g := gb166) (o := .cells #[.int .i64 0, .int .i64 0, .int .u32 0, .int .u32 0, .int .u16 0] 27 (0, 0)) (by (with_reducible repeat (first | refine blk_drewN ?_ _ | refine blk_drew ?_ | refine blk_alloc ?_ _)); exact BK166.out) hb); have n1_ := Aside0.mk (blk_below (g := gb172) (o := .cells #[.string t177, .bool t178] 71 (0, 0)) (by (with_reducible repeat (first | refine blk_drewN ?_ _ | refine blk_drew ?_ | refine blk_alloc ?_ _)); exact BK172.out) hb); have n2_ := Aside0.mk (below_step (by repeat (first | (with_reducible first | exact HB.out | apply below_alloc | apply pw_below_drewN | apply below_drew1 | refine below_set ?_ GE166.out | refine below_set ?_ GE172.out) | exact HB.out)) hb); clear BK166; clear BK172; clear HB; have BK166 := n0_; have BK172 := n1_; have HB := n2_; clear n0_ n1_ n2_; (try clear hb); (try clear hb2); (try clear hk); (try clear hi); have hcz52_0 : w51.cell? ⟨gb166, 0, none⟩ = some (.int .i64 0) := (blk_cell BK166.out 0).trans rfl; have hcz52_1 : w51.cell? ⟨gb166, 1, none⟩ = some (.int .i64 0) := (blk_cell BK166.out 1).trans rfl; have hcz52_2 : w51.cell? ⟨gb166, 2, none⟩ = some (.int .u32 0) := (blk_cell BK166.out 2).trans rfl; have hcz52_3 : w51.cell? ⟨gb166, 3, none⟩ = some (.int .u32 0) := (blk_cell BK166.out 3).trans rfl; have hcz52_4 : w51.cell? ⟨gb166, 4, none⟩ = some (.int .u16 0) := (blk_cell BK166.out 4).trans rfl; have hfz52_0 := blk_frozen BK166.out 0; have hfz52_1 := blk_frozen BK166.out 1; have hfz52_2 := blk_frozen BK166.out 2; have hfz52_3 := blk_frozen BK166.out 3; have hfz52_4 := blk_frozen BK166.out 4))
       (try rw [Go.Proofs.YtalibiaplhmfhaaX.jumps_ret])
       refine bodyPost_ret (results_ctt rfl _ _ gb166 27 #[.int .i64 0, .int .i64 0, .int .u32 0, .int .u32 0, .int .u16 0] (0, 0) _ rfl (by (with_reducible repeat (first | refine blk_drewN ?_ _ | refine blk_drew ?_ | refine blk_alloc ?_ _)); refine blk_put (cs := #[.int .i64 0, .int .i64 0, .int .u32 0, .int .u32 0, .int .u16 t180]) ?_ 4 _ rfl; (with_reducible repeat (first | refine blk_drewN ?_ _ | refine blk_drew ?_ | refine blk_alloc ?_ _)); refine blk_put (cs := #[.int .i64 0, .int .i64 0, .int .u32 0, .int .u32 t179, .int .u16 t180]) ?_ 3 _ rfl; (with_reducible repeat (first | refine blk_drewN ?_ _ | refine blk_drew ?_ | refine blk_alloc ?_ _)); refine blk_put (cs := #[.int .i64 0, .int .i64 0, .int .u32 ((t176) % 4294967296), .int .u32 t179, .int .u16 t180]) ?_ 2 _ rfl; (with_reducible repeat (first | refine blk_drewN ?_ _ | refine blk_drew ?_ | refine blk_alloc ?_ _)); refine blk_put (cs := #[.int .i64 0, .int .i64 (wrap64 (t173)), .int .u32 ((t176) % 4294967296), .int .u32 t179, .int .u16 t180]) ?_ 1 _ rfl; (with_reducible repeat (first | refine blk_drewN ?_ _ | refine blk_drew ?_ | refine blk_alloc ?_ _)); refine blk_put (cs := #[.int .i64 (wrap64 (t169)), .int .i64 (wrap64 (t173)), .int .u32 ((t176) % 4294967296), .int .u32 t179, .int .u16 t180]) ?_ 0 _ rfl; (with_reducible repeat (first | refine blk_drewN ?_ _ | refine blk_drew ?_ | refine blk_alloc ?_ _)); refine blk_put (cs := #[.int .i64 (wrap64 (t169)), .int .i64 (wrap64 (t173)), .int .u32 0, .int .u32 t179, .int .u16 t180]) ?_ 2 _ rfl; (with_reducible repeat (first | refine blk_drewN ?_ _ | refine blk_drew ?_ | refine blk_alloc ?_ _)); refine blk_put (cs := #[.int .i64 (wrap64 (t169)), .int .i64 0, .int .u32 0, .int .u32 t179, .int .u16 t180]) ?_ 1 _ rfl; (with_reducible repeat (first | refine blk_drewN ?_ _ | refine blk_drew ?_ | refine blk_alloc ?_ _)); refine blk_put (cs := #[.int .i64 0, .int .i64 0, .int .u32 0, .int .u32 t179, .int .u16 t180]) ?_ 0 _ rfl; (with_reducible repeat (first | refine blk_drewN ?_ _ | refine blk_drew ?_ | refine blk_alloc ?_ _)); refine blk_put (cs := #[.int .i64 0, .int .i64 0, .int .u32 0, .int .u32 t179, .int .u16 0]) ?_ 4 _ rfl; (with_reducible repeat (first | refine blk_drewN ?_ _ | refine blk_drew ?_ | refine blk_alloc ?_ _)); refine blk_put (cs := #[.int .i64 0, .int .i64 0, .int .u32 0, .int .u32 0, .int .u16 0]) ?_ 3 _ rfl; (with_reducible repeat (first | refine blk_drewN ?_ _ | refine blk_drew ?_ | refine blk_alloc ?_ _)); exact BK166.out) Try.underlying27 rfl (by kernel_rfl)) rfl ?_
       exact ⟨by first | rfl | (simp only [Go.Proofs.YtalibiaplhmfhaaX.ne_nil, Go.Proofs.YtalibiaplhmfhaaX.eq_nil]; rfl) | (simp [Go.Proofs.YtalibiaplhmfhaaX.ne_nil, Go.Proofs.YtalibiaplhmfhaaX.eq_nil]; done) | (simp [errW_none, errW_some] <;> rfl) | (simp [*, errW_none, errW_some] <;> rfl), by repeat (first | (with_reducible first | exact HB.out | apply below_alloc | apply pw_below_drewN | apply below_drew1 | refine below_set ?_ GE166.out | refine below_set ?_ GE172.out) | exact HB.out)⟩
     ·(first | rw [if_neg c26] at H | exact absurd rfl c26)
      exact absurd H (by simp)
    ·(first | rw [if_neg c25] at H | exact absurd rfl c25)
     exact absurd H (by simp)

end Go.Proofs.Ytalibiaplhmfhaa.PA
