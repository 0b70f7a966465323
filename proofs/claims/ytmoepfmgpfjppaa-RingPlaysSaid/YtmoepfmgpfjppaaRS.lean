/- The ring (package ring), and the document's answer to it: what each of their functions does, told over separate blocks. Conditions: those that each theorem names. -/
import Derived.Test.YtmoepfmgpfjppaaRG
namespace Go.Proofs.Ytmoepfmgpfjppaa.RG
set_option linter.unusedVariables false
set_option linter.unusedSimpArgs false
open Go Go.RowKit Go.Proofs.YtmoepfmgpfjppaaS Go.Proofs.YtmoepfmgpfjppaaS.Asn Go.Proofs.Ytmoepfmgpfjppaa.PA Go.Proofs.Ytmoepfmgpfjppaa.MA Go.Proofs.YtmoepfmgpfjppaaW.PrintWords Go.Proofs.YtmoepfmgpfjppaaW.PrintLast Go.Proofs.YtmoepfmgpfjppaaW.PrintMore

theorem ring_Some (p : Nat) (s : Int) (left l : List Int) (A : Option Addr) (c : Nat) (k : Int) (w : World) (ok : Nat → Prop) (hc : l.length ≤ c) (hlm : l.length ≤ 1000000) (h : (ringA p s left ⋆ rdo (Kd.int .i64) A l ⋆ emp).H w ok) :
    Calls Try.prog 12 #[.pointer (some ⟨p, 0, none⟩), .slice A l.length c, .int .i64 k] w fun e w' => ∃ v, e = .returned v ∧ Sep w ok (row (Kd.int .i64) 3 v (som s l k).1 ⋆ ringA p (som s l k).2 left ⋆ rdo (Kd.int .i64) A l ⋆ emp) w' := by
  obtain ⟨A1, c1, hc1, h1⟩ := ring_open (sep_begin h)
  have HS1 := Aside0.mk h1
  have HC1 := Aside0.mk hc1
  have HC := Aside0.mk hc
  have HR := Aside0.mk (sep_rdo (sep_l2 h1))
  have k0 := sep_cell h1 0
  have kf := sep_frozen h1 0
  have HM : Aside0 (draw_Stream_Some.f (l.length + 10) s l k = some (som s l k)) := ⟨some_eq _ _ _ _ (by omega) (by omega)⟩
  clear h1 h hc hc1 hlm
  generalize som s l k = z at HM ⊢
  obtain ⟨m, s2⟩ := z
  go_enter Try.func12, Try.ntmps12
  go_wp2_with (first | (go_at_call 20; refine Calls.mono (draw_Stream_Some.calls (l.length + 10) s A c l k m s2 _ HR.out HC.out HM.out) ?_; rintro e w2 ⟨v, rfl, hr, hb⟩; have HS2 := Aside0.mk (sep_made HS1.out hr hb); clear HS1 HR k0 kf hr hb; have k0 := sep_cell (sep_l1 HS2.out) 0; have kf := sep_frozen (sep_l1 HS2.out) 0; have hp := blk_lt (sep_pt (sep_l1 HS2.out))))
  go_ret
  exact ⟨_, rfl, sep_l1 (ring_mk (sep_l1 (sep_l2 (sep_skip (sep_set (sep_l1 HS2.out) 0 (.int .u64 s2)) _))) HC1.out)⟩

/-! ## the document's answer -/
/-- Its ring at block p. -/
def refA (p : Nat) (s : Int) (left : List Int) : Asn :=
  ex fun q : Option Addr × Nat => fact (left.length ≤ q.2) ⋆ pt p #[.int .u64 s, .slice q.1 left.length q.2] 41 ⋆ rdo (Kd.int .i64) q.1 left
section
variable {w0 w : World} {ok0 : Nat → Prop} {F : Asn} {p : Nat} {s : Int} {left : List Int}
theorem ref_mk {A : Option Addr} {c : Nat} (h : Sep w0 ok0 (pt p #[.int .u64 s, .slice A left.length c] 41 ⋆ rdo (Kd.int .i64) A left ⋆ F) w) (hc : left.length ≤ c) : Sep w0 ok0 (refA p s left ⋆ F) w := by
  refine sep_head (sep_fold h) (fun ok hh => ⟨(A, c), fun _ => False, ok, hc, hh, fun _ h => h.elim, fun _ h => h.elim, fun _ h => h⟩)
theorem ref_open (h : Sep w0 ok0 (refA p s left ⋆ F) w) : ∃ A c, left.length ≤ c ∧ Sep w0 ok0 (pt p #[.int .u64 s, .slice A left.length c] 41 ⋆ rdo (Kd.int .i64) A left ⋆ F) w := by
  obtain ⟨⟨A, c⟩, h⟩ := sep_ex_star h
  obtain ⟨hc, h⟩ := sep_fact (sep_flat h)
  exact ⟨A, c, hc, sep_flat h⟩
end
theorem ref_New (a0 : Int) (w : World) : Calls Try.prog 10 #[.int .u64 a0] w fun e w' => ∃ p : Nat, e = .returned (.pointer (some ⟨p, 0, none⟩)) ∧ Sep w (fun _ => False) (refA p a0 [] ⋆ emp) w' := by
  have HS := Aside0.mk (sep_start w)
  go_enter Try.func10, Try.ntmps10
  go_wp2
  go_ret
  refine ⟨_, rfl, ref_mk (A := none) (c := 0) (sep_alloc (sep_new (A := rdo (Kd.int .i64) none []) HS.out (Below.refl _ _) (ok := fun _ => False) (Kd.F_nil _ _ _) (fun _ h => h.elim)) _ _) (Nat.le_refl _)⟩
theorem ref_Some (p : Nat) (s : Int) (left l : List Int) (A : Option Addr) (c : Nat) (k : Int) (w : World) (ok : Nat → Prop) (hc : l.length ≤ c) (hlm : l.length ≤ 1000000) (h : (refA p s left ⋆ rdo (Kd.int .i64) A l ⋆ emp).H w ok) :
    Calls Try.prog 14 #[.pointer (some ⟨p, 0, none⟩), .slice A l.length c, .int .i64 k] w fun e w' => ∃ v, e = .returned v ∧ Sep w ok (row (Kd.int .i64) 3 v (som s l k).1 ⋆ refA p (som s l k).2 left ⋆ rdo (Kd.int .i64) A l ⋆ emp) w' := by
  obtain ⟨A1, c1, hc1, h1⟩ := ref_open (sep_begin h)
  have HS1 := Aside0.mk h1
  have HC1 := Aside0.mk hc1
  have HC := Aside0.mk hc
  have HR := Aside0.mk (sep_rdo (sep_l2 h1))
  have k0 := sep_cell h1 0
  have kf := sep_frozen h1 0
  have HM : Aside0 (scuttlebuttref01_Stream_Some.f (l.length + 10) s l k = some (som s l k)) := ⟨some_ref _ _ _ _ (by omega) (by omega)⟩
  clear h1 h hc hc1 hlm
  generalize som s l k = z at HM ⊢
  obtain ⟨m, s2⟩ := z
  go_enter Try.func14, Try.ntmps14
  go_wp2_with (first | (go_at_call 21; refine Calls.mono (scuttlebuttref01_Stream_Some.calls (l.length + 10) s A c l k m s2 _ HR.out HC.out HM.out) ?_; rintro e w2 ⟨v, rfl, hr, hb⟩; have HS2 := Aside0.mk (sep_made HS1.out hr hb); clear HS1 HR k0 kf hr hb; have k0 := sep_cell (sep_l1 HS2.out) 0; have kf := sep_frozen (sep_l1 HS2.out) 0; have hp := blk_lt (sep_pt (sep_l1 HS2.out))))
  go_ret
  exact ⟨_, rfl, sep_l1 (ref_mk (sep_l1 (sep_l2 (sep_skip (sep_set (sep_l1 HS2.out) 0 (.int .u64 s2)) _))) HC1.out)⟩
theorem nxt3_at (l : List Int) : ∀ (left : List Int) (i : Nat) (s : Int) (hi : i < left.length), (∀ x ∈ left.take i, x ∉ l) → left[i] ∈ l → nxt3 s left l = (left[i], s, left.drop (i + 1))
  | [], i, _, hi, _, _ => absurd hi (by simp)
  | y :: ys, 0, s, _, _, h => by rw [nxt3, if_pos (show y ∈ l from h)]; rfl
  | y :: ys, i + 1, s, hi, h, h' => by
    rw [nxt3, if_neg (h y (by simp)), nxt3_at l ys i s (by simpa using hi) (fun x hx => h x (by simp [hx])) h']
    rfl
theorem nxt3_end (l : List Int) (s : Int) : ∀ left : List Int, (∀ x ∈ left, x ∉ l) → nxt3 s left l = nxt3 s [] l
  | [], _ => rfl
  | y :: ys, h => (show nxt3 s (y :: ys) l = nxt3 s ys l by rw [nxt3, if_neg (h y (by simp))]).trans (nxt3_end l s ys (fun x hx => h x (by simp [hx])))
theorem mix_head (s : Int) (l : List Int) (hl : l ≠ []) : ∃ id rest s2, mix s l = (id :: rest, s2) ∧ id ∈ l ∧ nxt3 s2 (id :: rest) l = nxt3 s [] l ∧ rest.length + 1 = l.length := by
  have h1 := mix_length s l
  have hp := mix_perm s l
  rcases hm : mix s l with ⟨m, s2⟩
  rw [hm] at h1 hp
  cases m with
  | nil => exact absurd (List.eq_nil_of_length_eq_zero h1.symm) hl
  | cons x xs =>
    have hx : x ∈ l := hp.mem_iff.1 List.mem_cons_self
    refine ⟨x, xs, s2, rfl, hx, ?_, h1⟩
    have e : nxt3 s2 (x :: xs) l = (x, s2, xs) := by rw [nxt3, if_pos hx]
    rw [e, nxt3, hm]
    rfl
def RefRel (w : World) (ok : Nat → Prop) (p : Nat) (s : Int) (left l : List Int) (A : Option Addr) (gg : Nat) (v6 : Value) (w' : World) : Prop :=
  ∃ (r : Nat) (s1 : Int) (left1 : List Int), r ≤ 1 ∧ 2 - r ≤ gg ∧ v6 = .int .i64 (r : Int) ∧ Aside0 (nxt3 s1 left1 l = nxt3 s left l) ∧ Aside0 (r = 1 → ∃ x ∈ left1, x ∈ l) ∧ Aside0 (left1.length ≤ 1000000) ∧ Aside0 (Sep w ok (refA p s1 left1 ⋆ rdo (Kd.int .i64) A l ⋆ emp) w')
set_option maxHeartbeats 4000000 in
set_option maxRecDepth 100000 in
theorem ref_Next (p : Nat) (s : Int) (left l : List Int) (A : Option Addr) (c : Nat) (w : World) (ok : Nat → Prop) (hc : l.length ≤ c) (hm : left.length ≤ 1000000) (hlm : l.length ≤ 1000000) (h : (refA p s left ⋆ rdo (Kd.int .i64) A l ⋆ emp).H w ok) :
    Calls Try.prog 16 #[.pointer (some ⟨p, 0, none⟩), .slice A l.length c] w fun e w' => e = .returned (.tuple #[.int .i64 (nx s left l).1, .bool (nx s left l).2.1]) ∧ Sep w ok (refA p (nx s left l).2.2.1 (nx s left l).2.2.2 ⋆ rdo (Kd.int .i64) A l ⋆ emp) w' := by
  have HS := Aside0.mk (sep_begin h)
  clear h
  unfold nx
  by_cases hl0 : l = []
  · rw [if_pos hl0]
    subst hl0
    go_enter Try.func16, Try.ntmps16
    go_wp2
    go_ret2
    exact ⟨rfl, HS.out⟩
  · rw [if_neg hl0]
    have hpos : 0 < l.length := List.length_pos_iff.2 hl0
    have t1 : decide ((l.length : Int) = 0) = false := decide_eq_false (by omega)
    have t2 : ((l.length : Int) == 0) = false := by simp; omega
    have t3 : (l.length = 0) = False := eq_false (by omega)
    have t4 : (l = []) = False := eq_false hl0
    have HC := Aside0.mk hc
    have HP := Aside0.mk hpos
    have HLM := Aside0.mk hlm
    have HM := Aside0.mk hm
    clear hc hpos hlm hm
    go_enter Try.func16, Try.ntmps16
    go_upto_region 4 with (fail)
    go_loopg [6] 2 (fun gg v6 wr => RefRel w ok p s left l A gg v6 wr)
    case atStart => exact ⟨0, s, left, by omega, by omega, rfl, ⟨rfl⟩, ⟨fun h => by (cases h)⟩, HM, HS⟩
    case round =>
      clear HS
      obtain ⟨r, s1, left1, hr1, hrg, rfl, HN, HX, HM1, HS⟩ := hrel
      have c1b : decide ((r : Int) < 2) = true := decide_eq_true (by omega)
      have HRR := Aside0.mk (And.intro hr1 hrg)
      clear hr1 hrg
      go_upto_region 7 with (fail)
      clear c1b
      go_loopg [7] left1.length (fun gg v7 wr2 => ∃ i : Nat, i ≤ left1.length ∧ left1.length - i ≤ gg ∧ v7 = .int .i64 (i : Int) ∧ Aside0 (∀ x ∈ left1.take i, x ∉ l) ∧ Aside0 (Sep w ok (refA p s1 left1 ⋆ rdo (Kd.int .i64) A l ⋆ emp) wr2))
      case atStart => exact ⟨0, Nat.zero_le _, by omega, rfl, ⟨fun x hx => by simp at hx⟩, HS⟩
      case round =>
        clear HS
        obtain ⟨i, hi, hgi, rfl, HT, HS⟩ := hrel
        obtain ⟨A1, c1, hc1, h1⟩ := ref_open HS.out
        have HS1 := Aside0.mk h1
        have HC1 := Aside0.mk hc1
        have HR := Aside0.mk (sep_rdo (sep_l2 h1))
        have k0 := (show _ = some (Value.int .u64 s1) from sep_cell h1 0)
        have k1 := (show _ = some (Value.slice A1 left1.length c1) from sep_cell h1 1)
        have kf := sep_frozen h1 1
        have kg := sep_frozen h1 0
        clear HS hc1
        by_cases hlt : i < left1.length
        · have c1b : decide ((i : Int) < (left1.length : Int)) = true := decide_eq_true (by omega)
          have c1n : decide (i < left1.length) = true := decide_eq_true hlt
          have c1q : (i < left1.length) = True := eq_true hlt
          have p0 := eq_true (Int.natCast_nonneg i)
          obtain ⟨ad, rfl, ka⟩ := Kd.at_int (sep_rdo (sep_l1 h1)) (i : Int) (Int.natCast_nonneg i) (Int.ofNat_lt.2 hlt)
          rw [Int.toNat_natCast, rd_get left1 i hlt] at ka
          clear h1
          by_cases hin : left1[i] ∈ l
          · have HT1 : Aside0 (nxt3 s1 left1 l = (left1[i], s1, left1.drop (i + 1))) := ⟨nxt3_at l left1 i s1 hlt HT.out hin⟩
            have HI : Aside0 (scuttlebuttref13_in.f (l.length + 10) l left1[i] = some true) := ⟨by rw [in_eq _ _ _ (by have := HLM.out; omega) (by omega), decide_eq_true hin]⟩
            generalize left1[i] = y at ka HT1 HI hin
            clear hin
            have q1 := eq_true (show (i : Int) + 1 ≤ (left1.length : Int) by omega)
            have q2 := eq_true (show i + 1 ≤ left1.length from hlt)
            have q3 := eq_true (show (0 : Int) ≤ (i : Int) + 1 by omega)
            have hw1 : wrap64 ((i : Int) + 1) = (i : Int) + 1 := by unfold wrap64; have := HM1.out; omega
            have HLT := Aside0.mk hlt
            clear hlt hi hgi
            go_upto_region 12 with (first | (go_at_call 24; refine Calls.mono (scuttlebuttref13_in.calls (l.length + 10) A c l y true _ HR.out HC.out HI.out) ?_; rintro e w3 ⟨rfl, ⟨n, rfl⟩⟩))
            have HF := Aside0.mk (ref_mk (sep_l1 (sep_head (sep_l1 (sep_set (sep_drewN HS1.out n) 1 (.slice (if c1 = i + 1 then some ad else (some ad).map (·.add ((i + 1) * 1))) (left1.drop (i + 1)).length (c1 - (i + 1))))) (fun ok hr => Kd.F_cut (m := i + 1) (c := c1) hr HLT.out HC1.out))) (by rw [List.length_drop]; have := HC1.out; omega))
            replace HF : Aside0 (Sep w ok (refA p s1 (left1.drop (i + 1)) ⋆ rdo (Kd.int .i64) A l ⋆ emp) (((_ : World).drewN n).setCell ⟨p, 1, none⟩ (.slice (if c1 = i + 1 then some ad else some { block := ad.block, off := ad.off + (i + 1) }) (left1.length - (i + 1)) (c1 - (i + 1))))) := ⟨by
              have HF := HF.out
              rw [List.length_drop, Nat.mul_one] at HF
              exact HF⟩
            generalize (if c1 = i + 1 then some ad else some { block := ad.block, off := ad.off + (i + 1) }) = A3 at HF ⊢
            go_wp2
            go_ret2
            have e1 := HT1.out
            rw [HN.out] at e1
            rw [e1]
            exact ⟨rfl, HF.out⟩
          · have HI : Aside0 (scuttlebuttref13_in.f (l.length + 10) l left1[i] = some false) := ⟨by rw [in_eq _ _ _ (by have := HLM.out; omega) (by omega), decide_eq_false hin]⟩
            have HT' : Aside0 (∀ x ∈ left1.take (i + 1), x ∉ l) := ⟨fun x hx => by
              rw [List.take_succ_eq_append_getElem hlt, List.mem_append, List.mem_singleton] at hx
              rcases hx with hx | rfl
              · exact HT.out x hx
              · exact hin⟩
            generalize left1[i] = y at ka HI hin
            have HLT := Aside0.mk (And.intro hlt hgi)
            clear hin hlt hi hgi
            go_wp2_with (first | (go_at_call 24; refine Calls.mono (scuttlebuttref13_in.calls (l.length + 10) A c l y false _ HR.out HC.out HI.out) ?_; rintro e w3 ⟨rfl, ⟨n, rfl⟩⟩))
            go_roundg (left1.length - (i + 1))
            case measure => have := HLT.out; omega
            case rel => exact ⟨i + 1, HLT.out.1, Nat.le_refl _, congrArg (Value.int .i64) (by unfold wrap64; have := HM1.out; have := HLT.out; omega), HT', ⟨ref_mk (sep_drewN HS1.out _) HC1.out⟩⟩
        · obtain rfl : i = left1.length := by omega
          have HT1 : Aside0 (∀ x ∈ left1, x ∉ l) := ⟨by have := HT.out; rwa [List.take_length] at this⟩
          obtain ⟨id, rest, s2, hmx, hid, hnx, hlen⟩ := mix_head s1 l hl0
          have HMX : Aside0 (scuttlebuttref01_Stream_Mix.f (l.length + 10) s1 l = some (id :: rest, s2)) := ⟨by rw [mix_ref _ _ _ (by have := HLM.out; omega) (by omega), hmx]⟩
          have HID := Aside0.mk hid
          have HNX := Aside0.mk hnx
          have HLEN := Aside0.mk hlen
          clear hid hnx hmx hlt hi hgi h1 hlen
          go_wp2_with (first | (go_at_call 25; refine Calls.mono (scuttlebuttref01_Stream_Mix.calls (l.length + 10) s1 A c l (id :: rest) s2 _ HR.out HC.out HMX.out) ?_; rintro e w2 ⟨v, rfl, hr, hb⟩; have HS2 := Aside0.mk (sep_made HS1.out hr hb); clear HS1 HR k0 k1 kf kg hr hb; obtain ⟨A2, c2, rfl, hc2, -⟩ := sep_row HS2.out; have HC2 := Aside0.mk hc2; clear hc2; have k0 := sep_cell (sep_l1 HS2.out) 0; have k1 := sep_cell (sep_l1 HS2.out) 1; have kf := sep_frozen (sep_l1 HS2.out) 1; have kg := sep_frozen (sep_l1 HS2.out) 0))
          have HF := Aside0.mk (ref_mk (sep_l1 (sep_drop (sep_l2 (row_rdo (sep_l1 (sep_set (sep_set (sep_l1 HS2.out) 1 (.slice A2 (id :: rest).length c2)) 0 (.int .u64 s2))))))) HC2.out)
          go_roundg (2 - (r + 1))
          case measure =>
            have := HRR.out
            have h1 : r ≠ 1 := fun e => by
              obtain ⟨x, hx, hxl⟩ := HX.out e
              exact HT1.out x hx hxl
            omega
          case rel =>
            have h1 : r ≠ 1 := fun e => by
              obtain ⟨x, hx, hxl⟩ := HX.out e
              exact HT1.out x hx hxl
            have h2 := HRR.out
            exact ⟨r + 1, s2, id :: rest, by omega, by omega, congrArg (Value.int .i64) (by unfold wrap64; omega), ⟨HNX.out.trans ((nxt3_end l s1 left1 HT1.out).symm.trans HN.out)⟩, ⟨fun _ => ⟨id, List.mem_cons_self, HID.out⟩⟩, ⟨by have := HLEN.out; have := HLM.out; simp only [List.length_cons]; omega⟩, HF⟩
end Go.Proofs.Ytmoepfmgpfjppaa.RG
