/- The reference's bag (package scuttlebuttref09): New, Ready, cut, pick, Take. Conditions: those that each theorem names. -/
import Derived.Test.YtlpiodcklacdpaaBM
namespace Go.Proofs.Ytlpiodcklacdpaa.BG
set_option linter.unusedVariables false
set_option linter.unusedSimpArgs false
open Go Go.RowKit Go.Proofs.YtlpiodcklacdpaaS Go.Proofs.YtlpiodcklacdpaaS.Asn Go.Proofs.Ytlpiodcklacdpaa.PA Go.Proofs.YtlpiodcklacdpaaW.PrintWords Go.Proofs.YtlpiodcklacdpaaW.PrintLast Go.Proofs.YtlpiodcklacdpaaW.PrintMore
/-- The reference's bag at block p. -/
def refA (p : Nat) (l : List It) (room : Int) : Asn :=
  ex fun v : Value => pt p #[v, .int .i64 room] 69 ⋆ row itK 56 v l
section
variable {w0 w : World} {ok0 : Nat → Prop} {F : Asn} {p : Nat} {room : Int} {l : List It}
theorem ref_mk {v : Value} (h : Sep w0 ok0 (pt p #[v, .int .i64 room] 69 ⋆ row itK 56 v l ⋆ F) w) : Sep w0 ok0 (refA p l room ⋆ F) w :=
  sep_head (sep_fold h) (fun ok hh => ⟨v, hh⟩)
theorem ref_open (h : Sep w0 ok0 (refA p l room ⋆ F) w) : ∃ v, Sep w0 ok0 (pt p #[v, .int .i64 room] 69 ⋆ row itK 56 v l ⋆ F) w := by
  obtain ⟨v, h⟩ := sep_ex_star h
  exact ⟨v, sep_flat h⟩
end
theorem info56 : (Try.prog.info? 56).map (fun i => (i.zero, i.size, i.bytes)) = some (some z35, 6, 40) := by kernel_rfl
theorem rbag_New (room : Int) (w : World) (h1 : 1 ≤ room) (h2 : room ≤ 256) : Calls Try.prog 17 #[.int .i64 room] w fun e w' => ∃ p : Nat, e = .returned (.pointer (some ⟨p, 0, none⟩)) ∧ Sep w (fun _ => False) (refA p [] room ⋆ emp) w' := by
  have HS := Aside0.mk (sep_start w)
  have e1 : decide (room < 1) = false := decide_eq_false (by omega)
  have e2 : decide (256 < room) = false := decide_eq_false (by omega)
  go_enter Try.func17, Try.ntmps17
  go_wp2
  go_ret
  exact ⟨_, rfl, ref_mk (sep_alloc (sep_row_nil HS.out) #[.slice none 0 0, .int .i64 room] 69)⟩
theorem rbag_New_none (room : Int) (w : World) (h : room < 1 ∨ 256 < room) : Calls Try.prog 17 #[.int .i64 room] w fun e w' => e = .returned (.pointer none) ∧ Below w.heap.size w w' := by
  rcases h with h | h
  · have e1 : decide (room < 1) = true := decide_eq_true h
    go_enter Try.func17, Try.ntmps17
    go_wp2
    go_ret
    exact ⟨rfl, Below.refl _ _⟩
  · have e1 : decide (room < 1) = false := decide_eq_false (by omega)
    have e2 : decide (256 < room) = true := decide_eq_true h
    go_enter Try.func17, Try.ntmps17
    go_wp2
    go_ret
    exact ⟨rfl, Below.refl _ _⟩
set_option maxHeartbeats 1000000 in
theorem rbag_ReadyO (p : Nat) (l : List It) (room : Int) (u : Int) (v : Value) (w : World) (ok : Nat → Prop) (h : (pt p #[v, .int .i64 room] 69 ⋆ row itK 56 v l ⋆ emp).H w ok) :
    Calls Try.prog 27 #[.pointer (some ⟨p, 0, none⟩), .int .u64 u] w fun e w' => e = .returned (.int .i64 (rdy l u : Int)) ∧ Sep w ok (pt p #[v, .int .i64 room] 69 ⋆ row itK 56 v l ⋆ emp) w' := by
  have hs := sep_begin h
  obtain ⟨A, c, rfl, hc, hC⟩ := sep_row (sep_l1 hs)
  have hlen : l.length ≤ 9223372036854775807 := hC.2.1
  have HS := Aside0.mk hs
  clear hs hC hc h
  go_enter Try.func27, Try.ntmps27
  go_upto_region 3 with (fail)
  go_loopg [5, 6] l.length (fun gg v5 v6 wr => ∃ i : Nat, i ≤ l.length ∧ l.length - i ≤ gg ∧ v5 = .int .i64 (rdy (l.take i) u : Int) ∧ v6 = .int .i64 (i : Int) ∧ Aside0 (Sep w ok (pt p #[.slice A l.length c, .int .i64 room] 69 ⋆ row itK 56 (.slice A l.length c) l ⋆ emp) wr))
  case atStart => exact ⟨0, Nat.zero_le _, by omega, rfl, rfl, HS⟩
  case round =>
    clear HS
    obtain ⟨i, hi, hgi, rfl, rfl, HS⟩ := hrel
    obtain ⟨b1, b2, b3⟩ := facts2 HS.out
    by_cases hlt : i < l.length
    · have c1b : decide ((i : Int) < (l.length : Int)) = true := decide_eq_true (Int.ofNat_lt.2 hlt); have c1n : decide (i < l.length) = true := decide_eq_true hlt; have c1q : (i < l.length) = True := eq_true hlt; have p0_ := eq_true (Int.natCast_nonneg i)
      obtain ⟨x, hx⟩ : ∃ x, l[i]? = some x := ⟨_, List.getElem?_eq_getElem hlt⟩
      obtain ⟨ad, hA, k1, k2, k3, k4, k5, k6⟩ := it_at (sep_row' (sep_l1 HS.out)).2.2 i x hx
      subst hA
      have HI := Aside0.mk (And.intro hlt hgi)
      have hst : rdy (l.take (i + 1)) u = rdy (l.take i) u + (if x.t ≤ u then 1 else 0) := by
        rw [List.take_add_one, hx, rdy_append]; simp [rdy_cons, rdy_nil]
      have hle := rdy_le (l.take i) u
      rw [List.length_take] at hle
      have HK := Aside0.mk hle
      clear hle hlt hi hgi hx
      by_cases hxu : x.t ≤ u
      · have d1 : decide (x.t ≤ u) = true := decide_eq_true hxu
        rw [if_pos hxu] at hst
        have HT := Aside0.mk hst
        clear hxu hst
        go_wp2
        go_roundg (l.length - (i + 1))
        case measure => have := HI.out; omega
        case rel => exact ⟨i + 1, HI.out.1, Nat.le_refl _, congrArg (Value.int .i64) (by rw [HT.out]; have := HI.out; have := HK.out; unfold wrap64; omega), congrArg (Value.int .i64) (by have := HI.out; unfold wrap64; omega), HS⟩
      · have d1 : decide (x.t ≤ u) = false := decide_eq_false hxu
        rw [if_neg hxu] at hst
        have HT := Aside0.mk hst
        clear hxu hst
        go_wp2
        go_roundg (l.length - (i + 1))
        case measure => have := HI.out; omega
        case rel => exact ⟨i + 1, HI.out.1, Nat.le_refl _, congrArg (Value.int .i64) (by rw [HT.out]; rfl), congrArg (Value.int .i64) (by have := HI.out; unfold wrap64; omega), HS⟩
    · obtain rfl : i = l.length := by omega
      rw [List.take_length]
      have c2b : decide ((l.length : Int) < (l.length : Int)) = false := decide_eq_false (by omega)
      go_wp2
      go_ret
      exact ⟨rfl, HS.out⟩
theorem rbag_Ready (p : Nat) (l : List It) (room : Int) (u : Int) (w : World) (ok : Nat → Prop) (h : (refA p l room ⋆ emp).H w ok) :
    Calls Try.prog 27 #[.pointer (some ⟨p, 0, none⟩), .int .u64 u] w fun e w' => e = .returned (.int .i64 (rdy l u : Int)) ∧ Sep w ok (refA p l room ⋆ emp) w' := by
  obtain ⟨v, hs⟩ := ref_open (sep_begin h)
  obtain ⟨ok_, hp_, hk_⟩ := sep_use2 hs
  refine Calls.mono (rbag_ReadyO p l room u v _ ok_ hp_) ?_
  rintro e w' ⟨rfl, hq_⟩
  exact ⟨rfl, ref_mk (back2 hk_ hq_)⟩
/-! ## cut -/
theorem seqc (A : Option Addr) (l : List It) {w : World} (h : itK.C w A l.length l) (k : Nat) (hk : k ≤ l.length) : itK.C w A k (l.take k) := by
  have := Kd.C_take h hk
  rw [List.length_take, Nat.min_eq_left hk] at this
  exact this
set_option maxHeartbeats 1000000 in
theorem rbag_cut (p : Nat) (l : List It) (room : Int) (k : Nat) (x : It) (w : World) (ok : Nat → Prop) (hx : l[k]? = some x) (hm : l.length ≤ 100000) (h : (refA p l room ⋆ emp).H w ok) :
    Calls Try.prog 32 #[.pointer (some ⟨p, 0, none⟩), .int .i64 (k : Int)] w fun e w' => e = .returned x.val ∧ Sep w ok (refA p (l.eraseIdx k) room ⋆ emp) w' := by
  obtain ⟨v, hs⟩ := ref_open (sep_begin h)
  obtain ⟨A, c, rfl, hc, hC⟩ := sep_row (sep_l1 hs)
  have hkl : k < l.length := (List.getElem?_eq_some_iff.1 hx).1
  have HS := Aside0.mk hs
  have HM := Aside0.mk hm
  have HCC := Aside0.mk hc
  have HK := Aside0.mk (And.intro hkl hx)
  have c1b : decide ((k : Int) < (l.length : Int)) = true := decide_eq_true (Int.ofNat_lt.2 hkl); have c1n : decide (k < l.length) = true := decide_eq_true hkl; have c1q : (k < l.length) = True := eq_true hkl; have p0_ := eq_true (Int.natCast_nonneg k)
  have hlen : l.length ≤ 9223372036854775807 := hC.2.1
  have HLN := Aside0.mk hlen
  obtain ⟨ad, hA, m1, m2, m3, m4, m5, m6⟩ := it_at hC k x hx
  subst hA
  obtain ⟨b1, b2, b3⟩ := facts2 hs
  obtain ⟨i0, hi0, hz_⟩ := Option.map_eq_some_iff.1 info56
  have hsz0 : i0.size = 6 := by injection hz_ with _ h1; injection h1
  have hcutA : ∀ W : World, (Instr.slice 67 (.slice (some ad) l.length c) none (some (.int .i64 (k : Int))) none).run Try.prog W = .ok (.slice (some ad) k c) W := cut_to (P := Try.prog) 67 56 .i64 Try.underlying67 hi0 (some ad) l.length c (k : Int) (by omega) (by omega) hc
  obtain ⟨A2, hA2⟩ : ∃ A2, (if c = k + 1 then some ad else (some ad).map (·.add ((k + 1) * 6))) = A2 := ⟨_, rfl⟩
  have hw1 : wrap64 ((k : Int) + 1) = (k : Int) + 1 := by unfold wrap64; omega
  have hw2 : IntKind.i64.wrap ((k : Int) + 1) = (k : Int) + 1 := by rw [IntKind.wrap_i64]; omega
  have hcutB : ∀ W : World, (Instr.slice 67 (.slice (some ad) l.length c) (some (.int .i64 ((k : Int) + 1))) none none).run Try.prog W = .ok (.slice A2 (l.length - (k + 1)) (c - (k + 1))) W := by
    have := cut_from (P := Try.prog) 67 56 .i64 Try.underlying67 hi0 6 hsz0 (some ad) l.length c ((k : Int) + 1) (by omega) (by omega)
    rw [show ((k : Int) + 1).toNat = k + 1 by omega, hA2] at this
    exact this
  have HA2 := Aside0.mk hA2
  clear h hm hlen hz_ hsz0 hi0 hA2 hs hC hc hx hkl
  go_enter Try.func32, Try.ntmps32
  go_upto_region 1 with (fail)
  have n_ := sep_l2 (sep_l2 (sep_alloc HS.out #[.int .u32 0, .int .u16 0, .int .u32 0, .int .u16 0, .string ⟨#[]⟩, .int .u64 0] 56))
  have n0_ := Aside0.mk n_; clear HS n_; have HS := n0_; clear n0_
  generalize w.alloc (.cells #[.int .u32 0, .int .u16 0, .int .u32 0, .int .u16 0, .string ⟨#[]⟩, .int .u64 0] 56) = wa at HS ⊢
  generalize w.heap.size = g4 at HS ⊢
  clear m1 m2 m3 m4 m5 m6 b1 b2 b3
  obtain ⟨b1, b2, b3⟩ := facts2 HS.out
  obtain ⟨ad', hA', m1, m2, m3, m4, m5, m6⟩ := it_at (sep_row' (sep_l1 HS.out)).2.2 k x HK.out.2
  cases hA'
  go_upto_region 3 with (fail)
  have n_ := sep_alloc HS.out #[.int .u32 x.fi, .int .u16 x.fp, .int .u32 x.ti, .int .u16 x.tp, .string x.by_, .int .u64 x.t] 56
  replace n_ := sep_l2 (sep_l2 n_)
  replace n_ := sep_row_nil (d := itK) (e := 56) n_
  have n0_ := Aside0.mk n_; clear HS n_; have HS := n0_; clear n0_
  generalize wa.alloc (.cells #[.int .u32 x.fi, .int .u16 x.fp, .int .u32 x.ti, .int .u16 x.tp, .string x.by_, .int .u64 x.t] 56) = wb at HS ⊢
  generalize wa.heap.size = g5 at HS ⊢
  clear m1 m2 m3 m4 m5 m6 b1 b2 b3
  obtain ⟨b1, b2, b3⟩ := facts2 (sep_l1 HS.out)
  go_upto_region 4 with ((with_reducible refine gate_builtin (b := .append) (xs := #[.tmp 14, .tmp 20]) rfl ?_); at_builtin; refine wp_append_rows itK rfl (.tmp 14) (.tmp 20) 67 56 z35 40 rfl Try.underlying67 info56 rfl (by decide) (by decide) _ [] (l.take k) (some ad) k c (by rfl) (by rfl) HS.out (seqc _ l (sep_row' (sep_l2 HS.out)).2.2 k (Nat.le_of_lt HK.out.1)) (fun x cs hk => by rw [itK_open hk]; exact itK_M _ _ _ _) (by have := HK.out.1; have := HM.out; simp only [List.length_nil]; omega) ?_; intro v1 w1 n_; rw [List.nil_append] at n_; clear b1 b2 b3; have n0_ := Aside0.mk n_; clear HS n_; have HS := n0_; clear n0_; obtain ⟨b1, b2, b3⟩ := facts2 (sep_l1 HS.out))
  go_upto_region 5 with ((with_reducible refine gate_builtin (b := .append) (xs := #[.tmp 23, .tmp 30]) rfl ?_); at_builtin; refine wp_append_rows itK rfl (.tmp 23) (.tmp 30) 67 56 z35 40 rfl Try.underlying67 info56 rfl (by decide) (by decide) _ (l.take k) (l.drop (k + 1)) A2 (l.length - (k + 1)) (c - (k + 1)) (by rfl) (by rfl) HS.out (by have h := Kd.C_drop (m := k + 1) (sep_row' (sep_l2 HS.out)).2.2 HK.out.1 HCC.out; rw [List.length_drop] at h; rw [← HA2.out]; exact h) (fun x cs hk => by rw [itK_open hk]; exact itK_M _ _ _ _) (by have := HK.out.1; have := HM.out; rw [List.length_take]; omega) ?_; intro v1 w1 n_; rw [← List.eraseIdx_eq_take_drop_succ] at n_; clear b1 b2 b3; obtain ⟨A3, c3, rfl, -, -⟩ := sep_row n_; generalize hl2 : l.eraseIdx k = l2 at n_; have HL2 := Aside0.mk hl2; clear hl2; have n0_ := Aside0.mk n_; clear HS n_; have HS := n0_; clear n0_; obtain ⟨b1, b2, b3⟩ := facts2 (sep_l1 HS.out))
  have n_ := sep_drop (sep_l1 (ref_mk (sep_set (sep_l1 HS.out) 0 (.slice A3 l2.length c3))))
  have n0_ := Aside0.mk n_; clear HS n_; have HS := n0_; clear n0_
  generalize w1.setCell ⟨p, 0, none⟩ (.slice A3 l2.length c3) = wc at HS ⊢
  clear b1 b2 b3
  obtain ⟨k1, k2, k3, k4, k5, k6⟩ := facts6 (sep_l1 HS.out)
  obtain ⟨m1, m2, m3, m4, m5, m6⟩ := facts6 (sep_l2 HS.out)
  obtain ⟨q1, q2, q3, q4, q5, q6⟩ := facts6f (sep_l2 HS.out)
  go_wp2
  have n_ := sep_set6 (sep_l2 HS.out) (.int .u32 x.fi) (.int .u16 x.fp) (.int .u32 x.ti) (.int .u16 x.tp) (.string x.by_) (.int .u64 x.t)
  refine bodyPost_ret (results_cell_row rfl _ _ g4 56 #[.int .u32 x.fi, .int .u16 x.fp, .int .u32 x.ti, .int .u16 x.tp, .string x.by_, .int .u64 x.t] (0, 0) _ rfl (sep_pt n_) Try.underlying56 rfl (by kernel_rfl)) rfl ?_
  rw [HL2.out]
  exact ⟨rfl, sep_drop (sep_l1 (sep_drop n_))⟩
/-! ## pick, Take, Drop -/
def pickE (l : List It) (pick : Int) : Int × Int := if pick < 0 then (0, 1) else if l.length = 0 then (0, 5) else (((pick.toNat % l.length : Nat) : Int), 0)
theorem rbag_pick (p : Nat) (l : List It) (room pick : Int) (w : World) (ok : Nat → Prop) (h : (refA p l room ⋆ emp).H w ok) :
    Calls Try.prog 33 #[.pointer (some ⟨p, 0, none⟩), .int .i64 pick] w fun e w' => e = .returned (.tuple #[.int .i64 (pickE l pick).1, .int .i64 (pickE l pick).2]) ∧ Sep w ok (refA p l room ⋆ emp) w' := by
  obtain ⟨v, hs⟩ := ref_open (sep_begin h)
  obtain ⟨A, c, rfl, hc, hC⟩ := sep_row (sep_l1 hs)
  have HS := Aside0.mk hs
  obtain ⟨b1, b2, b3⟩ := facts2 hs
  obtain ⟨r, hr⟩ : ∃ r, pickE l pick = r := ⟨_, rfl⟩
  rw [hr]
  unfold pickE at hr
  have HR := Aside0.mk hr
  clear hr h hs hC hc
  by_cases h0 : pick < 0
  · have e1 : decide (pick < 0) = true := decide_eq_true h0
    go_enter Try.func33, Try.ntmps33
    go_wp2
    go_ret2
    have hr := HR.out
    rw [if_pos (by omega)] at hr
    subst hr
    exact ⟨rfl, ref_mk HS.out⟩
  · have e1 : decide (pick < 0) = false := decide_eq_false h0
    obtain ⟨k, rfl⟩ : ∃ k : Nat, pick = k := ⟨pick.toNat, by omega⟩
    by_cases h1 : l.length = 0
    · have e2 : ((l.length : Int) == 0) = true := by rw [h1]; rfl
      have e3 : decide ((l.length : Int) = 0) = true := by rw [h1]; rfl
      have e4 := eq_true h1
      go_enter Try.func33, Try.ntmps33
      go_wp2
      go_ret2
      have hr := HR.out
      rw [if_neg (by omega), if_pos h1] at hr
      subst hr
      exact ⟨rfl, ref_mk HS.out⟩
    · have e2 : ((l.length : Int) == 0) = false := by rw [beq_eq_false_iff_ne]; omega
      have e3 : decide ((l.length : Int) = 0) = false := decide_eq_false (by omega)
      have e4 := eq_false h1
      have e5 : ((l.length : Int) = 0) = False := eq_false (by omega)
      have e6 : (l = []) = False := eq_false (fun h => h1 (by rw [h]; rfl))
      obtain ⟨z, hz⟩ : ∃ z, k % l.length = z := ⟨_, rfl⟩
      have r1 : Int.tmod (k : Int) (l.length : Int) = (z : Int) := by rw [Int.tmod_eq_emod_of_nonneg (by omega), ← hz]; rfl
      have r2 : ((k : Int) % (l.length : Int)) = (z : Int) := by rw [← hz]; rfl
      have hr := HR.out
      rw [if_neg h0, if_neg h1, Int.toNat_natCast, hz] at hr
      clear HR hz
      go_enter Try.func33, Try.ntmps33
      go_wp2
      go_ret2
      subst hr
      exact ⟨rfl, ref_mk HS.out⟩
end Go.Proofs.Ytlpiodcklacdpaa.BG
