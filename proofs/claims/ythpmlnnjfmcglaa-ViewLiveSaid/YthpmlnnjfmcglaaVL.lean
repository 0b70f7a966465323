/- The law's live: lists of whole numbers that are the same. Conditions: those that each theorem names. -/
import Derived.Test.YthpmlnnjfmcglaaVX
namespace Go.Proofs.Ythpmlnnjfmcglaa.VW
set_option linter.unusedVariables false
set_option linter.unusedSimpArgs false
open Go Go.RowKit Go.Proofs.YthpmlnnjfmcglaaS Go.Proofs.YthpmlnnjfmcglaaS.Asn Go.Proofs.Ythpmlnnjfmcglaa.PA Go.Proofs.YthpmlnnjfmcglaaW.PrintWords Go.Proofs.YthpmlnnjfmcglaaW.PrintLast Go.Proofs.YthpmlnnjfmcglaaW.PrintMore
theorem live_same (A B : Option Addr) (c d : Nat) (l : List Int) (w : World) (ok : Nat → Prop) (h : (row (Kd.int .i64) 3 (.slice A l.length c) l ⋆ row (Kd.int .i64) 3 (.slice B l.length d) l ⋆ emp).H w ok) :
    Calls Try.prog 18 #[.slice A l.length c, .slice B l.length d] w fun e w' => e = .returned (.bool true) ∧ Sep w ok (row (Kd.int .i64) 3 (.slice A l.length c) l ⋆ row (Kd.int .i64) 3 (.slice B l.length d) l ⋆ emp) w' := by
  have HS := Aside0.mk (sep_begin h)
  have HLN := Aside0.mk (sep_row' HS.out).2.2.2.1
  clear h
  have z1 : ((l.length : Int) != (l.length : Int)) = false := by simp
  go_enter Try.func18, Try.ntmps18
  go_upto_region 4 with (fail)
  clear z1
  go_loopg [5] l.length (fun gg v5 wr => ∃ i : Nat, i ≤ l.length ∧ l.length - i ≤ gg ∧ v5 = .int .i64 (i : Int) ∧ Aside0 (Sep w ok (row (Kd.int .i64) 3 (.slice A l.length c) l ⋆ row (Kd.int .i64) 3 (.slice B l.length d) l ⋆ emp) wr))
  case atStart => exact ⟨0, Nat.zero_le _, by omega, rfl, HS⟩
  case round =>
    clear HS
    obtain ⟨i, hi, hgi, rfl, HS⟩ := hrel
    by_cases hlt : i < l.length
    · have c1b : decide ((i : Int) < (l.length : Int)) = true := decide_eq_true (Int.ofNat_lt.2 hlt); have c1n : decide (i < l.length) = true := decide_eq_true hlt; have c1q : (i < l.length) = True := eq_true hlt; have p0_ := eq_true (Int.natCast_nonneg i)
      obtain ⟨y, hy⟩ : ∃ y, rd l (i : Int) = y := ⟨_, rfl⟩
      obtain ⟨ga, rfl⟩ := row_addr HS.out (by omega)
      obtain ⟨gb, rfl⟩ := row_addr (sep_l1 HS.out) (by omega)
      obtain ⟨_, h0, ka⟩ := Kd.at_int (sep_row' HS.out).2.2 (i : Int) (Int.natCast_nonneg i) (Int.ofNat_lt.2 hlt)
      cases h0
      obtain ⟨_, h0, kb⟩ := Kd.at_int (sep_row' (sep_l1 HS.out)).2.2 (i : Int) (Int.natCast_nonneg i) (Int.ofNat_lt.2 hlt)
      cases h0
      rw [Int.toNat_natCast, hy, add_at] at ka kb
      have HI := Aside0.mk (And.intro hlt hgi)
      have z1 : (y != y) = false := by simp
      clear hi hgi hlt hy
      go_upto_region 6 with (fail)
      go_region
      all_goals
        go_wp2
        have n_ := sep_drew HS.out
        have n0_ := Aside0.mk n_; clear HS n_; have HS := n0_; clear n0_
        go_roundg (l.length - (i + 1))
        case measure => have := HI.out; omega
        case rel => exact ⟨i + 1, HI.out.1, Nat.le_refl _, congrArg (Value.int .i64) (by have := HI.out; have := HLN.out; unfold wrap64; omega), HS⟩
    · obtain rfl : i = l.length := by omega
      have c2b : decide ((l.length : Int) < (l.length : Int)) = false := decide_eq_false (by omega)
      go_wp2
      go_ret
      exact ⟨rfl, HS.out⟩
end Go.Proofs.Ythpmlnnjfmcglaa.VW
