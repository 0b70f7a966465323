/- ones: the first record of each ID. Conditions: those that each theorem names. -/
import Derived.Test.YthncipgafdfnfaaDoorXD
namespace Go.Proofs.YthncipgafdfnfaaDoor.JW
set_option linter.unusedVariables false
set_option linter.unusedSimpArgs false
open Go Go.RowKit Go.Proofs.YthncipgafdfnfaaDoorS Go.Proofs.YthncipgafdfnfaaDoorS.Asn Go.Proofs.YthncipgafdfnfaaDoor.PA Go.Proofs.YthncipgafdfnfaaDoorW.PrintWords Go.Proofs.YthncipgafdfnfaaDoorW.PrintLast Go.Proofs.YthncipgafdfnfaaDoorW.PrintMore
def onesS (out : List Rec) (y : Rec) : List Rec := if out.any (isId y.id) = true then out else out ++ [y]
def onesL (l : List Rec) (i : Nat) : List Rec := (l.take i).foldl onesS []
def onesE (l : List Rec) : List Rec := onesL l l.length
theorem onesL_succ (l : List Rec) (i : Nat) (y : Rec) (hy : l[i]? = some y) : onesL l (i + 1) = onesS (onesL l i) y := by
  unfold onesL
  rw [List.take_add_one, hy, Option.toList_some, List.foldl_append]
  rfl
theorem onesS_len (o : List Rec) (y : Rec) : (onesS o y).length ≤ o.length + 1 := by unfold onesS; split <;> simp
theorem onesL_len (l : List Rec) : ∀ i, (onesL l i).length ≤ i := by
  intro i
  induction i with
  | zero => simp [onesL]
  | succ i ih =>
    cases hy : l[i]? with
    | none => unfold onesL; rw [List.take_add_one, hy, Option.toList_none, List.append_nil]; exact Nat.le_succ_of_le ih
    | some y => rw [onesL_succ l i y hy]; have := onesS_len (onesL l i) y; omega
/-- Each ID once. -/
def Once (l : List Rec) : Prop := l.Pairwise (fun a b => a.id ≠ b.id)
theorem Once_ones (l : List Rec) : Once (onesE l) := by
  have h : ∀ i, Once (onesL l i) := by
    intro i
    induction i with
    | zero => exact List.Pairwise.nil
    | succ i ih =>
      cases hy : l[i]? with
      | none => unfold onesL; rw [List.take_add_one, hy, Option.toList_none, List.append_nil]; exact ih
      | some y =>
        rw [onesL_succ l i y hy]
        unfold onesS
        split
        · exact ih
        · rename_i hn
          refine List.pairwise_append.2 ⟨ih, List.pairwise_singleton _ _, fun a ha b hb => ?_⟩
          obtain rfl := List.mem_singleton.1 hb
          intro e
          exact hn (List.any_eq_true.2 ⟨a, ha, decide_eq_true e⟩)
  exact h _
set_option maxHeartbeats 2000000 in
set_option maxRecDepth 100000 in
theorem ones_walk (A : Option Addr) (c : Nat) (l : List Rec) (w : World) (hr : recK.C w A l.length l) (hl : l.length ≤ 1000) :
    Calls Tryd.prog 9 #[.slice A l.length c] w fun e w' => ∃ v, e = .returned v ∧ Sep w (fun _ => False) (row recK 36 v (onesE l) ⋆ emp) w' := by
  have HS := Aside0.mk (sep_row_nil (d := recK) (e := 36) (sep_start w))
  have HR := Aside0.mk hr
  have HL := Aside0.mk hl
  clear hr hl
  go_enter Tryd.func9, Tryd.ntmps9
  go_upto_region 3 with (fail)
  go_loopg [3, 4] l.length (fun gg v3 v4 wr => ∃ i : Nat, i ≤ l.length ∧ l.length - i ≤ gg ∧ v4 = .int .i64 (i : Int) ∧ Aside0 (Sep w (fun _ => False) (row recK 36 v3 (onesL l i) ⋆ emp) wr))
  case atStart => exact ⟨0, Nat.zero_le _, by omega, rfl, HS⟩
  case round =>
    clear HS
    obtain ⟨i, hi, hgi, rfl, HS⟩ := hrel
    by_cases hlt : i < l.length
    · have c1b : decide ((i : Int) < (l.length : Int)) = true := decide_eq_true (Int.ofNat_lt.2 hlt); have c1n : decide (i < l.length) = true := decide_eq_true hlt; have c1i : ((i : Int) < (l.length : Int)) = True := eq_true (Int.ofNat_lt.2 hlt); have c1q : (i < l.length) = True := eq_true hlt; have p0_ := eq_true (Int.natCast_nonneg i)
      have HI := Aside0.mk (And.intro hlt hgi)
      obtain ⟨y, hy⟩ : ∃ y, l[i]? = some y := ⟨_, List.getElem?_eq_getElem hlt⟩
      obtain ⟨out, hout⟩ : ∃ out, onesL l i = out := ⟨_, rfl⟩
      have hol := onesL_len l i
      have hsu := onesL_succ l i y hy
      rw [hout] at HS hol hsu
      have HOL := Aside0.mk (show out.length ≤ 1000 by have := HL.out; omega)
      have HSU := Aside0.mk hsu
      have HY := Aside0.mk hy
      obtain ⟨A', c', rfl, -, -⟩ := sep_row HS.out
      clear hi hgi hlt hy hout hol hsu
      go_upto_region 7 with (fail)
      go_loopg [5, 6] out.length (fun gg v5 v6 wr => ∃ k : Nat, k ≤ out.length ∧ out.length - k ≤ gg ∧ v6 = .int .i64 (k : Int) ∧ v5 = .bool ((out.take k).any (isId y.id)) ∧ Aside0 (Sep w (fun _ => False) (row recK 36 (.slice A' out.length c') out ⋆ emp) wr))
      case atStart => exact ⟨0, Nat.zero_le _, by omega, rfl, rfl, HS⟩
      case round =>
        clear HS
        obtain ⟨k, hk, hgk, rfl, rfl, HS⟩ := hrel
        by_cases hlk : k < out.length
        · have g1 : decide ((k : Int) < (out.length : Int)) = true := decide_eq_true (Int.ofNat_lt.2 hlk)
          have g2 : ((k : Int) < (out.length : Int)) = True := eq_true (Int.ofNat_lt.2 hlk)
          have g3 := eq_true hlk
          have g4 := eq_true (Int.natCast_nonneg k)
          have HK := Aside0.mk (And.intro hlk hgk)
          obtain ⟨z, hz⟩ : ∃ z, out[k]? = some z := ⟨_, List.getElem?_eq_getElem hlk⟩
          have HZ := Aside0.mk hz
          obtain ⟨ad, rfl, k0, -, -, -, -⟩ := rec_at (sep_row' HS.out).2.2 k z hz
          obtain ⟨al, rfl, m0, -, -, -, -⟩ := rec_now HR.out (sep_below_of HS.out) i y HY.out
          clear hk hgk hlk hz
          obtain ⟨q, hq⟩ : ∃ q, (out.take k).any (isId y.id) = q := ⟨_, rfl⟩
          rw [hq]
          have HT := Aside0.mk hq
          clear hq
          cases q with
          | true =>
            have hn_ : (out.take (k + 1)).any (isId y.id) = true := by
              rw [List.take_add_one, HZ.out, Option.toList_some, List.any_append, HT.out]
              rfl
            have HN := Aside0.mk hn_.symm
            clear hn_
            go_upto_region 9 with (fail)
            go_region
            all_goals
              go_wp2
              have n_ := sep_drew HS.out
              have n0_ := Aside0.mk n_; clear HS n_; have HS := n0_; clear n0_
              go_roundg (out.length - (k + 1))
              case measure => have := HK.out; omega
              case rel => exact ⟨k + 1, HK.out.1, Nat.le_refl _, congrArg (Value.int .i64) (by have := HK.out; have := HOL.out; unfold wrap64; omega), congrArg Value.bool (by rw [HN.out]), HS⟩
          | false =>
            by_cases he : z.id = y.id
            · have e1 : (z.id == y.id) = true := beq_iff_eq.2 he
              have e2 := eq_true he
              have HE : Aside0 (isId y.id z = true) := ⟨decide_eq_true he⟩
              clear he
              have hn_ : (out.take (k + 1)).any (isId y.id) = true := by
                rw [List.take_add_one, HZ.out, Option.toList_some, List.any_append, HT.out]
                simp [HE.out]
              have HN := Aside0.mk hn_.symm
              clear hn_
              go_upto_region 9 with (fail)
              go_region
              all_goals
                go_wp2
                have n_ := sep_drew HS.out
                have n0_ := Aside0.mk n_; clear HS n_; have HS := n0_; clear n0_
                go_roundg (out.length - (k + 1))
                case measure => have := HK.out; omega
                case rel => exact ⟨k + 1, HK.out.1, Nat.le_refl _, congrArg (Value.int .i64) (by have := HK.out; have := HOL.out; unfold wrap64; omega), congrArg Value.bool (by rw [HN.out]), HS⟩
            · have e1 : (z.id == y.id) = false := beq_eq_false_iff_ne.2 he
              have e2 := eq_false he
              have HE : Aside0 (isId y.id z = false) := ⟨decide_eq_false he⟩
              clear he
              have hn_ : (out.take (k + 1)).any (isId y.id) = false := by
                rw [List.take_add_one, HZ.out, Option.toList_some, List.any_append, HT.out]
                simp [HE.out]
              have HN := Aside0.mk hn_.symm
              clear hn_
              go_upto_region 9 with (fail)
              go_region
              all_goals
                go_wp2
                have n_ := sep_drew HS.out
                have n0_ := Aside0.mk n_; clear HS n_; have HS := n0_; clear n0_
                go_roundg (out.length - (k + 1))
                case measure => have := HK.out; omega
                case rel => exact ⟨k + 1, HK.out.1, Nat.le_refl _, congrArg (Value.int .i64) (by have := HK.out; have := HOL.out; unfold wrap64; omega), congrArg Value.bool (by rw [HN.out]), HS⟩
        · obtain rfl : k = out.length := by omega
          have g1 : decide ((out.length : Int) < (out.length : Int)) = false := decide_eq_false (by omega)
          rw [List.take_length]
          obtain ⟨al, rfl, m0, m1, m2, m3, m4⟩ := rec_now HR.out (sep_below_of HS.out) i y HY.out
          clear hk hgk hlk
          obtain ⟨q, hq⟩ : ∃ q, out.any (isId y.id) = q := ⟨_, rfl⟩
          rw [hq]
          cases q with
          | true =>
            have HN : Aside0 (onesL l (i + 1) = out) := ⟨by rw [HSU.out]; unfold onesS; rw [if_pos hq]⟩
            clear hq
            go_wp2
            go_roundg (l.length - (i + 1))
            case measure => have := HI.out; omega
            case rel => exact ⟨i + 1, HI.out.1, Nat.le_refl _, congrArg (Value.int .i64) (by have := HI.out; have := HL.out; unfold wrap64; omega), ⟨by rw [HN.out]; exact HS.out⟩⟩
          | false =>
            have HN : Aside0 (onesL l (i + 1) = out ++ [y]) := ⟨by rw [HSU.out]; unfold onesS; rw [if_neg (by rw [hq]; decide)]⟩
            clear hq
            go_wp2_with ((with_reducible refine gate_builtin (b := .append) (xs := #[.tmp 35, .tmp 40]) rfl ?_); at_builtin; refine wp_append recK rfl (.tmp 35) (.tmp 40) 24 36 z36 32 rfl Tryd.underlying24 info36 rfl (by decide) (by decide) _ out y y.cells (by rfl) (by rfl) (recK_M _ _ _ _) HS.out (by have := HOL.out; omega) ?_; intro v1_ w4 n_; have n0_ := Aside0.mk n_; clear HS n_; have HS := n0_; clear n0_)
            go_roundg (l.length - (i + 1))
            case measure => have := HI.out; omega
            case rel => exact ⟨i + 1, HI.out.1, Nat.le_refl _, congrArg (Value.int .i64) (by have := HI.out; have := HL.out; unfold wrap64; omega), ⟨by rw [HN.out]; exact HS.out⟩⟩
    · obtain rfl : i = l.length := by omega
      have c2b : decide ((l.length : Int) < (l.length : Int)) = false := decide_eq_false (by omega)
      clear hi hgi hlt
      obtain ⟨A_, c_, rfl, -, -⟩ := sep_row HS.out
      go_wp2
      go_ret
      exact ⟨_, rfl, HS.out⟩
end Go.Proofs.YthncipgafdfnfaaDoor.JW
