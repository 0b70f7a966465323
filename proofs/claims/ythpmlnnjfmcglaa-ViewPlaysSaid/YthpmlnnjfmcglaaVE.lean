/- The view: Members. Conditions: those that each theorem names. -/
import Derived.Test.YthpmlnnjfmcglaaVD
import Derived.Deep.MidRow
namespace Go.Proofs.Ythpmlnnjfmcglaa.VW
set_option linter.unusedVariables false
set_option linter.unusedSimpArgs false
open Go Go.RowKit Go.Proofs.YthpmlnnjfmcglaaS Go.Proofs.YthpmlnnjfmcglaaS.Asn Go.Proofs.Ythpmlnnjfmcglaa.PA Go.Proofs.YthpmlnnjfmcglaaW.PrintWords Go.Proofs.YthpmlnnjfmcglaaW.PrintLast Go.Proofs.YthpmlnnjfmcglaaW.PrintMore
def recK : Kd Rec := Kd.iso (Kd.pair (Kd.int .i64) (Kd.pair (Kd.int .i64) (Kd.pair (Kd.int .u32) (Kd.pair (Kd.int .u32) (Kd.int .u16))))) (fun r : Rec => (r.id, r.st, r.inc, r.ip, r.po))
def z31 : Value := .agg #[.int .i64 0, .int .i64 0, .int .u32 0, .int .u32 0, .int .u16 0]
theorem info31 : (Try.prog.info? 31).map (fun i => (i.zero, i.size, i.bytes)) = some (some z31, 5, 32) := by kernel_rfl
def Rec.cells (r : Rec) : List Value := [.int .i64 r.id, .int .i64 r.st, .int .u32 r.inc, .int .u32 r.ip, .int .u16 r.po]
theorem recK_M (w : World) (base : Nat) (ok : Nat → Prop) (x : Rec) : recK.M w base ok x x.cells := ⟨[_], _, rfl, rfl, ⟨[_], _, rfl, rfl, ⟨[_], _, rfl, rfl, ⟨[_], _, rfl, rfl, rfl⟩⟩⟩⟩
theorem recK_open {w : World} {x : Rec} {cs : List Value} (h : recK.K w x cs) : cs = x.cells := by
  obtain ⟨_, _, rfl, rfl, ⟨_, _, rfl, rfl, ⟨_, _, rfl, rfl, ⟨_, _, rfl, rfl, rfl⟩⟩⟩⟩ := h
  rfl
theorem und79 : Try.prog.underlying 79 = some (.array 33 31) := by kernel_rfl
theorem info79 : (Try.prog.info? 79).map (·.size) = some 165 := by kernel_rfl
/-- The cells of what is known of all. -/
def cells165 (K : Nat → Rec) : List Value := (List.range 165).map (fun k => recCell (K (k / 5)) (k % 5))
theorem cells165_at (K : Nat → Rec) (i j : Nat) (hi : i < 33) (hj : j < 5) : (cells165 K)[i * 5 + j]? = some (recCell (K i) j) := by
  unfold cells165
  rw [List.getElem?_map, List.getElem?_range (by omega), Option.map_some, show (i * 5 + j) / 5 = i by omega, show (i * 5 + j) % 5 = j by omega]
theorem cells165_len (K : Nat → Rec) : (cells165 K).length = 165 := by simp [cells165]
theorem cells165_cut (K : Nat → Rec) (i : Nat) (hi : i < 33) : List.take 5 (List.drop (i * 5) (cells165 K)) = (K i).cells := by
  apply List.ext_getElem?
  intro j
  have hl := cells165_len K
  by_cases hj : j < 5
  · rw [List.getElem?_take_of_lt hj, List.getElem?_drop, cells165_at K i j hi hj]
    have h5 : j = 0 ∨ j = 1 ∨ j = 2 ∨ j = 3 ∨ j = 4 := by omega
    rcases h5 with rfl | rfl | rfl | rfl | rfl <;> rfl
  · rw [List.getElem?_eq_none (by rw [List.length_take]; omega), List.getElem?_eq_none (by show 5 ≤ j; omega)]
theorem agg31 (w : World) : (isAgg 31).run Try.prog w = .ok true w := by kernel_rfl
theorem size31 (w : World) : (sizeOf 31).run Try.prog w = .ok 5 w := by kernel_rfl
/-- What is known of i, out of all. -/
theorem index79 (K : Nat → Rec) (i : Nat) (hi : i < 33) (w : World) : (Instr.index 79 (.agg (cells165 K).toArray) (.int .i64 (i : Int))).run Try.prog w = .ok (.agg (K i).cells.toArray) w := by
  have h1 : (0 ≤ (i : Int) ∧ (i : Int) < ((33 : Nat) : Int)) := by omega
  simp only [Instr.index, asIntOf, Sem.run_bind, Sem.run_pure, Result.andThen_ok, run_underlying und79 w, size31, if_pos h1, part, agg31, Int.toNat_natCast]
  simp [agg31, size31, Sem.run_bind, cells165_cut K i hi]
section
variable {w0 w : World} {ok0 : Nat → Prop} {F : Asn} {p : Nat}
theorem view_range {K : Nat → Rec} {v : Value} {n : Nat} (h : Sep w0 ok0 (pt p (arrV 167 (vf K v n)) 81 ⋆ F) w) : w.rangeAt p 0 (cells165 K) := by
  intro j x hx
  obtain ⟨hj, -⟩ := List.getElem?_eq_some_iff.1 hx
  rw [cells165_len] at hj
  rw [Nat.zero_add, sep_cell h, arrV_get _ (by omega)]
  rw [cells165, List.getElem?_map, List.getElem?_range hj, Option.map_some] at hx
  rw [← hx]
  unfold vf
  rw [if_pos hj]
theorem view_load {K : Nat → Rec} {v : Value} {n : Nat} (h : Sep w0 ok0 (pt p (arrV 167 (vf K v n)) 81 ⋆ F) w) : (Instr.loadAt 79 (.pointer (some ⟨p, 0, none⟩))).run Try.prog w = .ok (.agg (cells165 K).toArray) w :=
  run_loadAt_mid w p 0 79 _ _ (view_range h) und79 rfl (by rw [info79, cells165_len])
end
def mem1 (s : VS) (i : Nat) : List Rec := ((List.range i).map s.K).filter (fun r => decide (0 < r.id))
theorem mem1_succ (s : VS) (i : Nat) : mem1 s (i + 1) = mem1 s i ++ if 0 < (s.K i).id then [s.K i] else [] := by
  unfold mem1
  rw [List.range_succ, List.map_append, List.filter_append]
  congr 1
  by_cases h : 0 < (s.K i).id
  · rw [if_pos h]; simp [h]
  · rw [if_neg h]; simp [h]
theorem mem1_len (s : VS) (i : Nat) : (mem1 s i).length ≤ i := by
  refine Nat.le_trans (List.length_filter_le _ _) ?_
  simp
set_option maxRecDepth 100000 in
set_option maxHeartbeats 1000000 in
theorem view_Members (p : Nat) (s : VS) (w : World) (ok : Nat → Prop) (h : (viewA p s ⋆ emp).H w ok) :
    Calls Try.prog 17 #[.pointer (some ⟨p, 0, none⟩)] w fun e w' => ∃ v, e = .returned v ∧ Sep w ok (row recK 31 v (members s) ⋆ viewA p s ⋆ emp) w' := by
  obtain ⟨v, hs⟩ := view_open (sep_begin h)
  have hix : ∀ (i : Nat) (hi : i < 33) (w : World), (Instr.index 79 (.agg (cells165 s.K).toArray) (.int .i64 (i : Int))).run Try.prog w = .ok (.agg (s.K i).cells.toArray) w := fun i hi w => index79 s.K i hi w
  have HS := Aside0.mk (sep_row_nil (d := recK) (e := 31) hs)
  clear hs h
  obtain ⟨cs, hcs⟩ : ∃ cs, (cells165 s.K).toArray = cs := ⟨_, rfl⟩
  rw [hcs] at hix
  have HCS := Aside0.mk hcs
  have HX := Aside0.mk hix
  clear hix hcs
  go_enter Try.func17, Try.ntmps17
  go_upto_region 2 with (fail)
  refine wp_region_lit ?_
  (refine wpList_plain rfl fun K hK => ?_; go_simp; refine hK _ _ ?_; clear hK K; (try simp only [Act.put, List.setIfInBounds_toArray, List.set_cons_zero, List.set_cons_succ]))
  (refine wpList_plain rfl fun K hK => ?_; go_simp; refine hK _ _ ?_; clear hK K; (try simp only [Act.put, List.setIfInBounds_toArray, List.set_cons_zero, List.set_cons_succ]))
  (refine wpList_plain rfl fun K hK => ?_; go_simp; refine hK _ _ ?_; clear hK K; (try simp only [Act.put, List.setIfInBounds_toArray, List.set_cons_zero, List.set_cons_succ]))
  refine wpList_load_mid rfl 79 (.tmp 8) rfl p 0 rfl (cells165 s.K) _ (view_range (sep_l1 HS.out)) und79 rfl (by rw [info79, cells165_len]) ?_
  rw [HCS.out]
  go_upto_region 3 with (fail)
  go_loopg [3, 10] 33 (fun gg v3 v10 wr => ∃ i : Nat, i ≤ 33 ∧ 33 - i ≤ gg ∧ v10 = .int .i64 (i : Int) ∧ Aside0 (Sep w ok (row recK 31 v3 (mem1 s i) ⋆ pt p (arrV 167 (vf s.K v s.seen)) 81 ⋆ que evK 46 v s.E ⋆ emp) wr))
  case atStart => exact ⟨0, by decide, by decide, rfl, HS⟩
  case round =>
    clear HS
    obtain ⟨i, hi, hgi, rfl, HS⟩ := hrel
    by_cases hlt : i < 33
    · have d1 : decide ((i : Int) < 33) = true := decide_eq_true (by omega)
      have d2 := eq_true (show (i : Int) < 33 by omega)
      have d3 := eq_true hlt
      have hix := HX.out i hlt
      have HI := Aside0.mk (And.intro hlt hgi)
      clear hlt hi hgi
      have hmem := mem1_succ s i
      have hmln := mem1_len s i
      obtain ⟨y, hy⟩ : ∃ y, s.K i = y := ⟨_, rfl⟩
      rw [hy] at hmem hix
      rw [show y.cells.toArray = #[.int .i64 y.id, .int .i64 y.st, .int .u32 y.inc, .int .u32 y.ip, .int .u16 y.po] from rfl] at hix
      have HM := Aside0.mk hmem
      have HML := Aside0.mk hmln
      clear hmem hmln hy
      go_upto_region 5 with (fail)
      clear hix
      have n_ := sep_alloc HS.out #[.int .i64 y.id, .int .i64 y.st, .int .u32 y.inc, .int .u32 y.ip, .int .u16 y.po] 31
      have n0_ := Aside0.mk n_; clear HS n_; have HS := n0_; clear n0_
      generalize wr.alloc (.cells #[.int .i64 y.id, .int .i64 y.st, .int .u32 y.inc, .int .u32 y.ip, .int .u16 y.po] 31) = wa at HS ⊢
      generalize wr.heap.size = g5 at HS ⊢
      obtain ⟨m1, m2, m3, m4, m5⟩ := facts5 HS.out
      have n_ := sep_drop HS.out
      have n0_ := Aside0.mk n_; clear HS n_; have HS := n0_; clear n0_
      by_cases h0 : 0 < y.id
      · have d4 : decide (y.id > 0) = true := decide_eq_true h0
        have d5 : decide (0 < y.id) = true := decide_eq_true h0
        have d6 := eq_true h0
        have hm := HM.out
        rw [if_pos h0] at hm
        clear HM h0
        have HM := Aside0.mk hm
        clear hm
        go_wp2_with ((with_reducible refine gate_builtin (b := .append) (xs := #[.tmp 16, .tmp 18]) rfl ?_); at_builtin; refine wp_append recK rfl (.tmp 16) (.tmp 18) 47 31 z31 32 rfl Try.underlying47 info31 rfl (by decide) (by decide) _ (mem1 s i) y y.cells (by rfl) (by rfl) (recK_M _ _ _ _) HS.out (by have := HML.out; have := HI.out; omega) ?_; intro v1_ w4 n_; rw [← HM.out] at n_; have n0_ := Aside0.mk n_; clear HS n_; have HS := n0_; clear n0_)
        go_roundg (33 - (i + 1))
        case measure => have := HI.out; omega
        case rel => exact ⟨i + 1, by have := HI.out; omega, Nat.le_refl _, congrArg (Value.int .i64) (by have := HI.out; unfold wrap64; omega), HS⟩
      · have d4 : decide (y.id > 0) = false := decide_eq_false h0
        have d5 : decide (0 < y.id) = false := decide_eq_false h0
        have d6 := eq_false h0
        have hm := HM.out
        rw [if_neg h0, List.append_nil] at hm
        rw [← hm] at HS
        clear HM h0 hm
        go_wp2
        go_roundg (33 - (i + 1))
        case measure => have := HI.out; omega
        case rel => exact ⟨i + 1, by have := HI.out; omega, Nat.le_refl _, congrArg (Value.int .i64) (by have := HI.out; unfold wrap64; omega), HS⟩
    · obtain rfl : i = 33 := by omega
      have d1 : decide (((33 : Nat) : Int) < 33) = false := by decide
      go_wp2
      go_ret
      refine ⟨_, rfl, sep_l1 (view_mk (sep_l2 (sep_l2 HS.out)))⟩
end Go.Proofs.Ythpmlnnjfmcglaa.VW
